/- Written by wip/myprint.py of this repo (the kit's print, with additions of this session). -/
import Derived.Test.YtacaeebjanglgaaQFnExactAbortx0
import Derived.Test.YtacaeebjanglgaaQFnExactAbortx8
set_option maxRecDepth 100000
namespace Go.Proofs.Ytacaeebjanglgaa.QFnExactAbort
open Go.RowKit Go.Proofs.YtacaeebjanglgaaW.PrintWords Go.Proofs.YtacaeebjanglgaaW.PrintLast Go.Proofs.YtacaeebjanglgaaW.PrintMore
attribute [local go_sem] max2_int min2_int max_two min_two max_three min_three max_four min_four   -- for this text's walks alone
set_option linter.unusedVariables false
set_option linter.unusedSimpArgs false

/-! ### spec_l6Copy: function 68 -/
def spec_l6Copy.f (a0_0 : Int) (l0_1 : List (S66)) (l0_2 : List (S68)) (a0_3 : Int) : Option (Int × (List (S66)) × (List (S68)) × Int) := (some (([] : List (S66)) : List (S66))).bind fun y290 => (if y290.length + l0_1.length < 4398046511104 then ((some (([] : List (S68)) : List (S68))).bind fun y296 => (if y296.length + l0_2.length < 5864062014805 then (some (a0_0, (y290 ++ l0_1), (y296 ++ l0_2), a0_3)) else (none))) else (none))
set_option maxHeartbeats 8000000 in
set_option maxRecDepth 100000 in
theorem spec_l6Copy.calls (a0_0 : Int) (A0_1 : Option Addr) (c0_1 : Nat) (l0_1 : List (S66)) (A0_2 : Option Addr) (c0_2 : Nat) (l0_2 : List (S68)) (a0_3 : Int) (r1 : Int) (r2 : List (S66)) (r3 : List (S68)) (r4 : Int) (w : World) (hr0_1 : Kd.C k66 w A0_1 l0_1.length l0_1) (hc0_1 : l0_1.length ≤ c0_1) (hr0_2 : Kd.C k68 w A0_2 l0_2.length l0_2) (hc0_2 : l0_2.length ≤ c0_2) (h : spec_l6Copy.f a0_0 l0_1 l0_2 a0_3 = some (r1, r2, r3, r4)) :
  Calls Try.prog 68 #[.agg #[.int .i64 a0_0, .slice A0_1 l0_1.length c0_1, .slice A0_2 l0_2.length c0_2, .int .i64 a0_3]] w fun e w' => ∃ v1_ v2_ : Value, e = .returned (.agg #[.int .i64 r1, v1_, v2_, .int .i64 r4]) ∧ Kd.R k66 66 w' w.heap.size (fun _ => True) v1_ r2 ∧ Kd.R k68 68 w' w.heap.size (fun _ => True) v2_ r3 ∧ Below w.heap.size w w' := by
 have hu31 := Try.underlying31
 have HR0_1 := Aside0.mk hr0_1
 have HC0_1 := Aside0.mk hc0_1
 clear hr0_1 hc0_1
 have HR0_2 := Aside0.mk hr0_2
 have HC0_2 := Aside0.mk hc0_2
 clear hr0_2 hc0_2
 have HB := Aside0.mk (Below.refl w.heap.size w)
 have H : ((some (([] : List (S66)) : List (S66))).bind fun y290 => (if y290.length + l0_1.length < 4398046511104 then ((some (([] : List (S68)) : List (S68))).bind fun y296 => (if y296.length + l0_2.length < 5864062014805 then (some (a0_0, (y290 ++ l0_1), (y296 ++ l0_2), a0_3)) else (none))) else (none))) = some (r1, r2, r3, r4) := h
 clear h
 obtain ⟨y290, hy290⟩ : ∃ y_ : List (S66), y_ = (([] : List (S66))) := ⟨_, rfl⟩
 replace H : (if y290.length + l0_1.length < 4398046511104 then ((some (([] : List (S68)) : List (S68))).bind fun y296 => (if y296.length + l0_2.length < 5864062014805 then (some (a0_0, (y290 ++ l0_1), (y296 ++ l0_2), a0_3)) else (none))) else (none)) = some (r1, r2, r3, r4) := by first | (rw [hy290]; with_reducible exact H) | (have H2_ := (Option.bind_some _ _).symm.trans H; rw [hy290]; with_reducible exact H2_) | (have H2_ := (Option.bind_some _ _).symm.trans H; with_reducible exact H2_) | with_reducible exact H | (rw [hy290]; exact H) | exact H
 have Ny290 := Aside0.mk hy290
 clear hy290
 by_cases c2 : y290.length + l0_1.length < 4398046511104
 ·
  rw [if_pos c2] at H
  have LMc2 := Aside0.mk c2
  clear c2
  obtain ⟨y293, hy293⟩ : ∃ y_ : List (S66), y_ = (y290 ++ l0_1) := ⟨_, rfl⟩
  replace H : ((some (([] : List (S68)) : List (S68))).bind fun y296 => (if y296.length + l0_2.length < 5864062014805 then (some (a0_0, y293, (y296 ++ l0_2), a0_3)) else (none))) = some (r1, r2, r3, r4) := by first | (rw [hy293]; with_reducible exact H) | (have H2_ := (Option.bind_some _ _).symm.trans H; rw [hy293]; with_reducible exact H2_) | (have H2_ := (Option.bind_some _ _).symm.trans H; with_reducible exact H2_) | with_reducible exact H | (rw [hy293]; exact H) | exact H
  have Ny293 := Aside0.mk hy293
  clear hy293
  obtain ⟨y296, hy296⟩ : ∃ y_ : List (S68), y_ = (([] : List (S68))) := ⟨_, rfl⟩
  replace H : (if y296.length + l0_2.length < 5864062014805 then (some (a0_0, y293, (y296 ++ l0_2), a0_3)) else (none)) = some (r1, r2, r3, r4) := by first | (rw [hy296]; with_reducible exact H) | (have H2_ := (Option.bind_some _ _).symm.trans H; rw [hy296]; with_reducible exact H2_) | (have H2_ := (Option.bind_some _ _).symm.trans H; with_reducible exact H2_) | with_reducible exact H | (rw [hy296]; exact H) | exact H
  have Ny296 := Aside0.mk hy296
  clear hy296
  by_cases c3 : y296.length + l0_2.length < 5864062014805
  ·
   rw [if_pos c3] at H
   have LMc3 := Aside0.mk c3
   clear c3
   obtain ⟨y299, hy299⟩ : ∃ y_ : List (S68), y_ = (y296 ++ l0_2) := ⟨_, rfl⟩
   replace H : (some (a0_0, y293, y299, a0_3)) = some (r1, r2, r3, r4) := by first | (rw [hy299]; with_reducible exact H) | (have H2_ := (Option.bind_some _ _).symm.trans H; rw [hy299]; with_reducible exact H2_) | (have H2_ := (Option.bind_some _ _).symm.trans H; with_reducible exact H2_) | with_reducible exact H | (rw [hy299]; exact H) | exact H
   have Ny299 := Aside0.mk hy299
   clear hy299
   simp only [Option.some.injEq, Prod.mk.injEq] at H
   obtain ⟨rfl, rfl, rfl, rfl⟩ := H
   go_enter Try.func68, Try.ntmps68
   go_wp2_with (first | ((with_reducible refine gate_dst (N := 1) rfl ?_); refine box_event ?hg (N := 1) ?hd (cs := #[.int .i64 a0_0, .slice A0_1 l0_1.length c0_1, .slice A0_2 l0_2.length c0_2, .int .i64 a0_3]) (t := 31) ?hr ?_; (case hd => rfl); (case hg => rfl); (case hr => exact zq2); intro gb288 hg w4 hbox hb; have BK288 := Aside0.mk hbox; have GW288 := Aside0.mk (zq255 : w.heap.size ≤ gb288); have GE288 := Aside0.mk (zq255 : w.heap.size ≤ gb288); replace HB := sB zq3 hb; clear hb hbox hg) | ((with_reducible refine gate_dst (N := 2) rfl ?_); refine box_event ?hg (N := 2) ?hd (cs := #[.int .i64 0, .slice none 0 0, .slice none 0 0, .int .i64 0]) (t := 31) ?hr ?_; (case hd => rfl); (case hg => rfl); (case hr => exact zq2); intro gb289 hg w5 hbox hb; have BK289 := Aside0.mk hbox; have GW289 := Aside0.mk (by rw [hg]; exact (below_size zq233) : w.heap.size ≤ gb289); have GE289 := Aside0.mk (by rw [hg]; exact (below_size zq233) : w.heap.size ≤ gb289); replace HB := sB zq233 hb; have NB288_289 := Aside0.mk (by rw [hg]; exact Nat.ne_of_lt (blk_lt (g := gb288) (o := .cells #[.int .i64 a0_0, .slice A0_1 l0_1.length c0_1, .slice A0_2 l0_2.length c0_2, .int .i64 a0_3] 31 (0, 0)) zq232) : gb288 ≠ gb289); have NB289_288 := Aside0.mk (by rw [hg]; exact Nat.ne_of_gt (blk_lt (g := gb288) (o := .cells #[.int .i64 a0_0, .slice A0_1 l0_1.length c0_1, .slice A0_2 l0_2.length c0_2, .int .i64 a0_3] 31 (0, 0)) zq232) : gb289 ≠ gb288); replace BK288 := bF BK288 zq232 hb; clear hb hbox hg) | ((with_reducible refine gate_dst (N := 3) rfl ?_); refine Kd.R_lit k66 _ 66 ?hg (N := 3) ?hd (xs := ([] : List (S66))) (inner := []) (ok := fun _ => True) (okp := fun _ => True) ?hr ?hp (fun _ hk => hk) trivial (Below.refl _ _) (Nat.le_refl _) (by simp) ?_; (case hd => rfl); (case hg => rfl); (case hr => exact zq2); (case hp => exact zq41); intro v291 w6 ho7 hb hg_ hnew_; clear hg_ hnew_; (first | rw [← Ny290.out] at ho7 | (simp only [Int.reduceToNat] at ho7; rw [← Ny290.out] at ho7)); have HO292 := Aside0.mk (Kd.R_lower ho7 (below_size zq234)); replace BK288 := bF BK288 zq232 hb; replace BK289 := bF BK289 zq235 hb; replace HB := sB zq234 hb; clear hb ho7; have hnb8 := NB288_289.out; have hnc8 := NB289_288.out; obtain ⟨hcz9_0, hcz9_1, hcz9_2, hcz9_3, hfz9_0, hfz9_1, hfz9_2, hfz9_3⟩ := c4 (w := w6) BK288) | ((with_reducible refine gate_builtin (b := .append) (xs := #[.tmp 3, .tmp 5]) rfl ?_); at_builtin; refine Kd.R_append_rows k66 (w0 := w) w.heap.size rfl (.tmp 3) (.tmp 5) 28 66 (.agg #[(.string ⟨#[]⟩), (.string ⟨#[]⟩)]) 32 rfl Try.underlying28 info66 rfl (by decide) (by omega) v291 y290 l0_1 _ _ _ (fun _ => True) (fun _ => False) rfl rfl ?aO ?aR (fun _ _ h => h) (fun _ h => h.elim) ?aF ?aB ?aS ?aL ?_; (case aR => exact zq11); (case aB => exact zq234); (case aF => exact zq39); (case aO => exact (by (with_reducible repeat (first | apply Kd.R_alloc | apply Kd.R_drewN | apply Kd.R_drew)); exact HO292.out)); (case aS => exact (below_size zq234)); (case aL => have := LMc2.out; omega); intro v294 w10 ho hb hg hat; rw [← Ny293.out] at ho; have n0_ := Aside0.mk (blk_grown (g := gb288) (o := .cells #[.int .i64 a0_0, .slice A0_1 l0_1.length c0_1, .slice A0_2 l0_2.length c0_2, .int .i64 a0_3] 31 (0, 0)) zq232 hg (Kd.R_ne HO292.out BK288.out (by decide))); have n1_ := Aside0.mk (blk_grown (g := gb289) (o := .cells #[.int .i64 0, .slice none 0 0, .slice none 0 0, .int .i64 0] 31 (0, 0)) zq235 hg (Kd.R_ne HO292.out BK289.out (by decide))); have n2_ := Aside0.mk (hb); have n3_ := Aside0.mk (ho); clear BK288; clear BK289; clear HB; clear HO292; have BK288 := n0_; have BK289 := n1_; have HB := n2_; have HO295 := n3_; clear n0_ n1_ n2_ n3_; clear ho hb hg hat; obtain ⟨Ao11, co11, eo11⟩ := Kd.R_slice HO295.out; subst eo11; obtain ⟨hcz12_0, hcz12_1, hcz12_2, hcz12_3, hfz12_0, hfz12_1, hfz12_2, hfz12_3⟩ := c4 (w := w10) BK288) | ((with_reducible refine gate_dst (N := 8) rfl ?_); refine Kd.R_lit k68 _ 68 ?hg (N := 8) ?hd (xs := ([] : List (S68))) (inner := []) (ok := fun _ => True) (okp := fun _ => True) ?hr ?hp (fun _ hk => hk) trivial (Below.refl _ _) (Nat.le_refl _) (by simp) ?_; (case hd => rfl); (case hg => rfl); (case hr => exact zq2); (case hp => exact zq41); intro v297 w13 ho14 hb hg_ hnew_; clear hg_ hnew_; (first | rw [← Ny296.out] at ho14 | (simp only [Int.reduceToNat] at ho14; rw [← Ny296.out] at ho14)); replace HO295 := rB (by (with_reducible repeat (first | apply Kd.R_alloc | apply Kd.R_drewN | apply Kd.R_drew)); exact (Kd.R_mono (Kd.R_far (p := ⟨gb288, 1, none⟩) (Kd.R_types HO295.out BK288.out (by decide)) (fun _ hk => hk.2) (.slice Ao11 y293.length co11)) (fun _ h_ => h_.1))) hb; have HO298 := Aside0.mk (Kd.R_lower ho14 (below_size zq234)); replace BK288 := bB (g := gb288) (o := .cells #[.int .i64 a0_0, .slice Ao11 y293.length co11, .slice A0_2 l0_2.length c0_2, .int .i64 a0_3] 31 (0, 0)) (by (with_reducible repeat (first | refine blk_drewN ?_ _ | refine blk_drew ?_ | refine blk_alloc ?_ _)); refine blk_put (cs := #[.int .i64 a0_0, .slice A0_1 l0_1.length c0_1, .slice A0_2 l0_2.length c0_2, .int .i64 a0_3]) ?_ 1 _ rfl; (with_reducible repeat (first | refine blk_drewN ?_ _ | refine blk_drew ?_ | refine blk_alloc ?_ _)); exact BK288.out) hb; replace BK289 := bF BK289 (by (with_reducible repeat (first | refine blk_drewN ?_ _ | refine blk_drew ?_ | refine blk_alloc ?_ _)); refine blk_far ?_ NB289_288.out _; (with_reducible repeat (first | refine blk_drewN ?_ _ | refine blk_drew ?_ | refine blk_alloc ?_ _)); exact BK289.out) hb; replace HB := sB zq234 hb; clear hb ho14; obtain ⟨hcz15_0, hcz15_1, hcz15_2, hcz15_3, hfz15_0, hfz15_1, hfz15_2, hfz15_3⟩ := c4 (w := w13) BK288) | ((with_reducible refine gate_builtin (b := .append) (xs := #[.tmp 8, .tmp 10]) rfl ?_); at_builtin; refine Kd.R_append_rows k68 (w0 := w) w.heap.size rfl (.tmp 8) (.tmp 10) 29 68 (.agg #[(.int .i64 0), (.string ⟨#[]⟩)]) 24 rfl Try.underlying29 info68 rfl (by decide) (by omega) v297 y296 l0_2 _ _ _ (fun _ => True) (fun _ => False) rfl rfl ?aO ?aR (fun _ _ h => h) (fun _ h => h.elim) ?aF ?aB ?aS ?aL ?_; (case aR => exact zq15); (case aB => exact zq234); (case aF => exact zq39); (case aO => exact zq236); (case aS => exact (below_size zq234)); (case aL => have := LMc3.out; omega); intro v300 w16 ho hb hg hat; rw [← Ny299.out] at ho; have n0_ := Aside0.mk (blk_grown (g := gb288) (o := .cells #[.int .i64 a0_0, .slice Ao11 y293.length co11, .slice A0_2 l0_2.length c0_2, .int .i64 a0_3] 31 (0, 0)) zq232 hg (Kd.R_ne HO298.out BK288.out (by decide))); have n1_ := Aside0.mk (blk_grown (g := gb289) (o := .cells #[.int .i64 0, .slice none 0 0, .slice none 0 0, .int .i64 0] 31 (0, 0)) zq235 hg (Kd.R_ne HO298.out BK289.out (by decide))); have n2_ := Aside0.mk (Kd.R_over' (by (with_reducible repeat (first | apply Kd.R_alloc | apply Kd.R_drewN | apply Kd.R_drew)); exact HO295.out) (Kd.R_typed zq236) (by decide) hg); have n3_ := Aside0.mk (hb); have n4_ := Aside0.mk (ho); clear BK288; clear BK289; clear HO295; clear HB; clear HO298; have BK288 := n0_; have BK289 := n1_; have HO295 := n2_; have HB := n3_; have HO301 := n4_; clear n0_ n1_ n2_ n3_ n4_; clear ho hb hg hat; obtain ⟨Ao17, co17, eo17⟩ := Kd.R_slice HO301.out; subst eo17; obtain ⟨hcz18_0, hcz18_1, hcz18_2, hcz18_3, hfz18_0, hfz18_1, hfz18_2, hfz18_3⟩ := c4 (w := w16) BK288; obtain ⟨hcz19_0, hcz19_1, hcz19_2, hcz19_3, hfz19_0, hfz19_1, hfz19_2, hfz19_3⟩ := c4 (w := w16) BK289))
   refine bodyPost_ret (results_cell_row rfl _ _ gb289 31 #[.int .i64 a0_0, .slice Ao11 y293.length co11, .slice Ao17 y299.length co17, .int .i64 a0_3] (0, 0) _ rfl (by (with_reducible repeat (first | refine blk_drewN ?_ _ | refine blk_drew ?_ | refine blk_alloc ?_ _)); refine blk_put (cs := #[.int .i64 a0_0, .slice Ao11 y293.length co11, .slice Ao17 y299.length co17, .int .i64 0]) ?_ 3 _ rfl; (with_reducible repeat (first | refine blk_drewN ?_ _ | refine blk_drew ?_ | refine blk_alloc ?_ _)); refine blk_put (cs := #[.int .i64 a0_0, .slice Ao11 y293.length co11, .slice none 0 0, .int .i64 0]) ?_ 2 _ rfl; (with_reducible repeat (first | refine blk_drewN ?_ _ | refine blk_drew ?_ | refine blk_alloc ?_ _)); refine blk_put (cs := #[.int .i64 a0_0, .slice none 0 0, .slice none 0 0, .int .i64 0]) ?_ 1 _ rfl; (with_reducible repeat (first | refine blk_drewN ?_ _ | refine blk_drew ?_ | refine blk_alloc ?_ _)); refine blk_put (cs := #[.int .i64 0, .slice none 0 0, .slice none 0 0, .int .i64 0]) ?_ 0 _ rfl; (with_reducible repeat (first | refine blk_drewN ?_ _ | refine blk_drew ?_ | refine blk_alloc ?_ _)); refine blk_far ?_ NB289_288.out _; (with_reducible repeat (first | refine blk_drewN ?_ _ | refine blk_drew ?_ | refine blk_alloc ?_ _)); exact BK289.out) Try.underlying31 rfl (by kernel_rfl)) rfl ?_
   exact ⟨_, _, zq4, by (with_reducible repeat (first | apply Kd.R_alloc | apply Kd.R_drewN | apply Kd.R_drew)); exact Kd.R_mono (Kd.R_far (p := ⟨gb289, 3, none⟩) (Kd.R_far (p := ⟨gb289, 2, none⟩) (Kd.R_far (p := ⟨gb289, 1, none⟩) (Kd.R_far (p := ⟨gb289, 0, none⟩) (Kd.R_far (p := ⟨gb288, 2, none⟩) (Kd.R_types (Kd.R_types HO295.out BK288.out (by decide)) BK289.out (by decide)) (fun _ hk => hk.1.2) (.slice Ao17 y299.length co17)) (fun _ hk => hk.2) (.int .i64 a0_0)) (fun _ hk => hk.2) (.slice Ao11 y293.length co11)) (fun _ hk => hk.2) (.slice Ao17 y299.length co17)) (fun _ hk => hk.2) (.int .i64 a0_3)) (fun _ hk => trivial), by (with_reducible repeat (first | apply Kd.R_alloc | apply Kd.R_drewN | apply Kd.R_drew)); exact Kd.R_mono (Kd.R_far (p := ⟨gb289, 3, none⟩) (Kd.R_far (p := ⟨gb289, 2, none⟩) (Kd.R_far (p := ⟨gb289, 1, none⟩) (Kd.R_far (p := ⟨gb289, 0, none⟩) (Kd.R_far (p := ⟨gb288, 2, none⟩) (Kd.R_types (Kd.R_types HO301.out BK288.out (by decide)) BK289.out (by decide)) (fun _ hk => hk.1.2) (.slice Ao17 y299.length co17)) (fun _ hk => hk.2) (.int .i64 a0_0)) (fun _ hk => hk.2) (.slice Ao11 y293.length co11)) (fun _ hk => hk.2) (.slice Ao17 y299.length co17)) (fun _ hk => hk.2) (.int .i64 a0_3)) (fun _ hk => trivial), zq234⟩
  exact zq314
 exact zq315

/-! ### spec_l6Upload: function 69 -/
def spec_l6Upload.l0 : Nat → Int → Int → Int → List (S66) → List (S68) → Int → Option (Int)
 | 0, _, _, _, _, _, _ => none
 | k + 1, x1, x5, x303000, x303001, x303002, x303003 => if x5 < (x303002.length : Int) then (if 0 ≤ x5 then (if ((rd_T68 x303002 x5).f0) = x1 then (some x5) else (spec_l6Upload.l0 k x1 (wrap64 (x5 + 1)) x303000 x303001 x303002 x303003)) else (none)) else (some (-1))
def spec_l6Upload.f (k : Nat) (a0_0 : Int) (l0_1 : List (S66)) (l0_2 : List (S68)) (a0_3 : Int) (a1 : Int) : Option (Int) := spec_l6Upload.l0 k a1 0 a0_0 l0_1 l0_2 a0_3
theorem spec_l6Upload.mono_l : ∀ k, (∀ y0 y1 y2 y3 y4 y5, LeO (spec_l6Upload.l0 k y0 y1 y2 y3 y4 y5) (spec_l6Upload.l0 (k + 1) y0 y1 y2 y3 y4 y5))
 | 0 => fun _ _ _ _ _ _ r h => by simp [spec_l6Upload.l0] at h
 | k + 1 => by
  have ih0 := spec_l6Upload.mono_l k
  ·
   intro y0 y1 y2 y3 y4 y5
   unfold spec_l6Upload.l0
   repeat' first
   | (with_reducible exact ih0 _ _ _ _ _ _)
   | (with_reducible exact LeO.refl _)
   | (with_reducible exact LeO.none _)
   | (with_reducible refine LeO.ite ?_ ?_)
   | (with_reducible refine LeO.bind ?_ (fun _ => ?_))
   | exact LeO.none _
   | refine LeO.ite ?_ ?_
   | refine LeO.bind ?_ (fun _ => ?_)
theorem spec_l6Upload.mono : ∀ a0 a1 a2 a3 a4 k, LeO (spec_l6Upload.f k a0 a1 a2 a3 a4) (spec_l6Upload.f (k + 1) a0 a1 a2 a3 a4) := by
 intro a0 a1 a2 a3 a4 k
 have ih0 := spec_l6Upload.mono_l k
 unfold spec_l6Upload.f
 repeat' first
   | (with_reducible exact ih0 _ _ _ _ _ _)
   | (with_reducible exact LeO.refl _)
   | (with_reducible exact LeO.none _)
   | (with_reducible refine LeO.ite ?_ ?_)
   | (with_reducible refine LeO.bind ?_ (fun _ => ?_))
   | exact LeO.none _
   | refine LeO.ite ?_ ?_
   | refine LeO.bind ?_ (fun _ => ?_)
set_option maxHeartbeats 8000000 in
set_option maxRecDepth 100000 in
theorem spec_l6Upload.calls (k : Nat) (a0_0 : Int) (A0_1 : Option Addr) (c0_1 : Nat) (l0_1 : List (S66)) (A0_2 : Option Addr) (c0_2 : Nat) (l0_2 : List (S68)) (a0_3 : Int) (a1 : Int) (r : Int) (w : World) (hr0_1 : Kd.C k66 w A0_1 l0_1.length l0_1) (hc0_1 : l0_1.length ≤ c0_1) (hr0_2 : Kd.C k68 w A0_2 l0_2.length l0_2) (hc0_2 : l0_2.length ≤ c0_2) (h : spec_l6Upload.f k a0_0 l0_1 l0_2 a0_3 a1 = some r) :
  Calls Try.prog 69 #[.agg #[.int .i64 a0_0, .slice A0_1 l0_1.length c0_1, .slice A0_2 l0_2.length c0_2, .int .i64 a0_3], .int .i64 a1] w fun e w' => e = .returned (.int .i64 r) ∧ Below w.heap.size w w' := by
 have hu31 := Try.underlying31
 have HR0_1 := Aside0.mk hr0_1
 have HC0_1 := Aside0.mk hc0_1
 clear hr0_1 hc0_1
 have HR0_2 := Aside0.mk hr0_2
 have HC0_2 := Aside0.mk hc0_2
 clear hr0_2 hc0_2
 have HB := Aside0.mk (Below.refl w.heap.size w)
 have H : (spec_l6Upload.l0 k a1 0 a0_0 l0_1 l0_2 a0_3) = some r := h
 clear h
 have H' := Aside0.mk H
 clear H
 go_enter Try.func69, Try.ntmps69
 go_wp2_with (first | ((with_reducible refine gate_dst (N := 2) rfl ?_); refine box_event ?hg (N := 2) ?hd (cs := #[.int .i64 a0_0, .slice A0_1 l0_1.length c0_1, .slice A0_2 l0_2.length c0_2, .int .i64 a0_3]) (t := 31) ?hr ?_; (case hd => rfl); (case hg => rfl); (case hr => exact zq2); intro gb302 hg w3 hbox hb; have BK302 := Aside0.mk hbox; have GW302 := Aside0.mk (zq255 : w.heap.size ≤ gb302); have GE302 := Aside0.mk (zq255 : w.heap.size ≤ gb302); replace HB := sB zq3 hb; clear hb hbox hg))
 go_loopg [5] k (fun kq v5 w' => ∃ (x5_1 : Int), v5 = .int .i64 x5_1 ∧ Aside0 (spec_l6Upload.l0 kq a1 x5_1 a0_0 l0_1 l0_2 a0_3 = some r) ∧ Aside0 (kq ≤ k) ∧ Aside0 (w'.heap[gb302]? = some (.cells #[.int .i64 a0_0, (.slice A0_1 l0_1.length c0_1), (.slice A0_2 l0_2.length c0_2), .int .i64 a0_3] 31 (0, 0))) ∧ Aside0 (Below w.heap.size w w'))
 case atStart => exact ⟨(0), zq6, H', ⟨Nat.le_refl _⟩, ⟨zq237⟩, ⟨zq238⟩⟩
 case round =>
  clear H'
  try clear p2
  obtain ⟨x5_1, rfl, HA, HK1, BK302, HB⟩ := hrel
  cases gk with
  | zero => exact absurd HA.out (by simp [spec_l6Upload.l0])
  | succ k1 =>
   have H := HA.out
   clear HA
   simp only [spec_l6Upload.l0] at H
   by_cases c4 : x5_1 < (l0_2.length : Int)
   ·
    rw [if_pos c4] at H
    have c4b0 := decide_eq_true c4
    clear c4
    by_cases c5 : 0 ≤ x5_1
    ·
     rw [if_pos c5] at H
     have c5b0 := decide_eq_true c5
     clear c5
     by_cases c6 : ((rd_T68 l0_2 x5_1).f0) = a1
     ·
      rw [if_pos c6] at H
      have c6b0 : (((rd_T68 l0_2 x5_1).f0) == a1) = true := beq_iff_eq.mpr c6
      have c6b1 : (((rd_T68 l0_2 x5_1).f0) != a1) = false := bne_eq_false_iff_eq.mpr c6
      clear c6
      obtain rfl := Option.some.inj H
      obtain ⟨hcz7_0, hcz7_1, hcz7_2, hcz7_3, hfz7_0, hfz7_1, hfz7_2, hfz7_3⟩ := c4 (w := wr) BK302
      have p303 : 0 ≤ (x5_1 : Int) := of_decide_eq_true zq7
      have q303 : x5_1 < (l0_2.length : Int) := of_decide_eq_true zq7
      obtain ⟨ad303, e303, hx303_0, hx303_1⟩ := at_T68 HR0_2.out x5_1 p303 q303
      cases e303
      replace hx303_0 := (HB.out.cell (World.block_lt_of_cell? w _ hx303_0)).trans hx303_0
      replace hx303_1 := (HB.out.cell (World.block_lt_of_cell? w _ hx303_1)).trans hx303_1
      replace p303 := eq_true p303
      replace q303 := eq_true q303
      go_wp2
      go_ret
      exact ⟨zq4, zq238⟩
     rw [if_neg c6] at H
     have c6b0 : (((rd_T68 l0_2 x5_1).f0) == a1) = false := beq_eq_false_iff_ne.mpr c6
     have c6b1 : (((rd_T68 l0_2 x5_1).f0) != a1) = true := bne_iff_ne.mpr c6
     have H' := Aside0.mk H
     clear H
     obtain ⟨hcz8_0, hcz8_1, hcz8_2, hcz8_3, hfz8_0, hfz8_1, hfz8_2, hfz8_3⟩ := c4 (w := wr) BK302
     have p303 : 0 ≤ (x5_1 : Int) := of_decide_eq_true zq7
     have q303 : x5_1 < (l0_2.length : Int) := of_decide_eq_true zq7
     obtain ⟨ad303, e303, hx303_0, hx303_1⟩ := at_T68 HR0_2.out x5_1 p303 q303
     cases e303
     replace hx303_0 := (HB.out.cell (World.block_lt_of_cell? w _ hx303_0)).trans hx303_0
     replace hx303_1 := (HB.out.cell (World.block_lt_of_cell? w _ hx303_1)).trans hx303_1
     replace p303 := eq_true p303
     replace q303 := eq_true q303
     go_wp2
     go_roundg k1
     case measure => have := HK1.out; omega
     case rel => exact ⟨(wrap64 (x5_1 + 1)), zq6, H', ⟨zq9⟩, ⟨zq237⟩, ⟨zq238⟩⟩
    exact zq311
   rw [if_neg c4] at H
   have c4b0 := decide_eq_false c4
   clear c4
   obtain rfl := Option.some.inj H
   obtain ⟨hcz9_0, hcz9_1, hcz9_2, hcz9_3, hfz9_0, hfz9_1, hfz9_2, hfz9_3⟩ := c4 (w := wr) BK302
   go_wp2
   go_ret
   exact ⟨zq4, zq238⟩

/-! ### spec_Abort: function 33 -/
def spec_Abort.f (k : Nat) (a0_0 : Int) (l0_1 : List (S66)) (l0_2 : List (S68)) (a0_3 : Int) (a1 : Int) : Option (Int × (List (S66)) × (List (S68)) × Int × Int) := (spec_StoreOk.f k a0_0 l0_1 l0_2 a0_3).bind fun t306 => (if t306 = true then ((spec_l6Copy.f a0_0 l0_1 l0_2 a0_3).bind fun bt307 => ((spec_l6Upload.f k a0_0 l0_1 l0_2 a0_3 a1).bind fun t316 => (if t316 < 0 then (some (bt307.1, bt307.2.1, bt307.2.2.1, bt307.2.2.2, 3)) else (if 0 ≤ t316 then (if t316 ≤ (bt307.2.2.1.length : Int) then (if 0 ≤ (wrap64 (t316 + 1)) then (if (wrap64 (t316 + 1)) ≤ (bt307.2.2.1.length : Int) then (some (bt307.1, bt307.2.1, (bt307.2.2.1.eraseIdx (t316 : Int).toNat), bt307.2.2.2, 0)) else (none)) else (none)) else (none)) else (none))))) else (some (0, ([] : List (S66)), ([] : List (S68)), 0, 1)))
theorem spec_Abort.mono : ∀ a0 a1 a2 a3 a4 k, LeO (spec_Abort.f k a0 a1 a2 a3 a4) (spec_Abort.f (k + 1) a0 a1 a2 a3 a4) := by
 intro a0 a1 a2 a3 a4 k
 unfold spec_Abort.f
 repeat' first
   | (with_reducible exact spec_StoreOk.mono _ _ _ _ _)
   | (with_reducible exact spec_l6Upload.mono _ _ _ _ _ _)
   | (with_reducible exact LeO.refl _)
   | (with_reducible exact LeO.none _)
   | (with_reducible refine LeO.ite ?_ ?_)
   | (with_reducible refine LeO.bind ?_ (fun _ => ?_))
   | exact LeO.none _
   | refine LeO.ite ?_ ?_
   | refine LeO.bind ?_ (fun _ => ?_)
def spec_Abort.T7 : Bool × List (List Nat × List Nat) := (true, [([], []), ([0], [0]), ([], []), ([1, 2], [1, 2]), ([], []), ([4], [4]), ([], []), ([6], [6]), ([5, 7], [5, 7]), ([3, 8], [3, 8]), ([0, 1, 2, 3, 4, 5, 6, 7, 8, 9], []), ([10, 9, 9, 0, 1, 2, 3, 4, 5, 6, 7, 8, 9], [9, 10])])
def spec_Abort.B7 : List Nat := [0, 1, 0, 7, 0, 16, 0, 64, 240, 511, 1023, 2047]
theorem spec_Abort.tab7 : rtab .any (opsOf Try.f33 7) = spec_Abort.T7 := by kernel_rfl
theorem spec_Abort.bits7 : waitsOk spec_Abort.T7.2 spec_Abort.B7 = true := by kernel_rfl
set_option maxHeartbeats 8000000 in
set_option maxRecDepth 100000 in
theorem spec_Abort.calls (k : Nat) (a0_0 : Int) (A0_1 : Option Addr) (c0_1 : Nat) (l0_1 : List (S66)) (A0_2 : Option Addr) (c0_2 : Nat) (l0_2 : List (S68)) (a0_3 : Int) (a1 : Int) (r1 : Int) (r2 : List (S66)) (r3 : List (S68)) (r4 : Int) (r5 : Int) (w : World) (hr0_1 : Kd.C k66 w A0_1 l0_1.length l0_1) (hc0_1 : l0_1.length ≤ c0_1) (hr0_2 : Kd.C k68 w A0_2 l0_2.length l0_2) (hc0_2 : l0_2.length ≤ c0_2) (h : spec_Abort.f k a0_0 l0_1 l0_2 a0_3 a1 = some (r1, r2, r3, r4, r5)) :
  Calls Try.prog 33 #[.agg #[.int .i64 a0_0, .slice A0_1 l0_1.length c0_1, .slice A0_2 l0_2.length c0_2, .int .i64 a0_3], .int .i64 a1] w fun e w' => ∃ v1_ v2_ : Value, e = .returned (.tuple #[.agg #[.int .i64 r1, v1_, v2_, .int .i64 r4], .int .i64 r5]) ∧ Kd.R k66 66 w' w.heap.size (fun _ => True) v1_ r2 ∧ Kd.R k68 68 w' w.heap.size (fun _ => True) v2_ r3 ∧ Below w.heap.size w w' := by
 have hu31 := Try.underlying31
 have HR0_1 := Aside0.mk hr0_1
 have HC0_1 := Aside0.mk hc0_1
 clear hr0_1 hc0_1
 have HR0_2 := Aside0.mk hr0_2
 have HC0_2 := Aside0.mk hc0_2
 clear hr0_2 hc0_2
 have HB := Aside0.mk (Below.refl w.heap.size w)
 have H : ((spec_StoreOk.f k a0_0 l0_1 l0_2 a0_3).bind fun t306 => (if t306 = true then ((spec_l6Copy.f a0_0 l0_1 l0_2 a0_3).bind fun bt307 => ((spec_l6Upload.f k a0_0 l0_1 l0_2 a0_3 a1).bind fun t316 => (if t316 < 0 then (some (bt307.1, bt307.2.1, bt307.2.2.1, bt307.2.2.2, 3)) else (if 0 ≤ t316 then (if t316 ≤ (bt307.2.2.1.length : Int) then (if 0 ≤ (wrap64 (t316 + 1)) then (if (wrap64 (t316 + 1)) ≤ (bt307.2.2.1.length : Int) then (some (bt307.1, bt307.2.1, (bt307.2.2.1.eraseIdx (t316 : Int).toNat), bt307.2.2.2, 0)) else (none)) else (none)) else (none)) else (none))))) else (some (0, ([] : List (S66)), ([] : List (S68)), 0, 1)))) = some (r1, r2, r3, r4, r5) := h
 clear h
 replace H := Option.bind_eq_some_iff.mp H
 obtain ⟨t306, A30, H⟩ := H
 replace H : (if t306 = true then ((spec_l6Copy.f a0_0 l0_1 l0_2 a0_3).bind fun bt307 => ((spec_l6Upload.f k a0_0 l0_1 l0_2 a0_3 a1).bind fun t316 => (if t316 < 0 then (some (bt307.1, bt307.2.1, bt307.2.2.1, bt307.2.2.2, 3)) else (if 0 ≤ t316 then (if t316 ≤ (bt307.2.2.1.length : Int) then (if 0 ≤ (wrap64 (t316 + 1)) then (if (wrap64 (t316 + 1)) ≤ (bt307.2.2.1.length : Int) then (some (bt307.1, bt307.2.1, (bt307.2.2.1.eraseIdx (t316 : Int).toNat), bt307.2.2.2, 0)) else (none)) else (none)) else (none)) else (none))))) else (some (0, ([] : List (S66)), ([] : List (S68)), 0, 1))) = some (r1, r2, r3, r4, r5) := H
 have A3 := Aside0.mk A30
 clear A30
 by_cases c4 : t306 = true
 ·
  subst c4
  have H1 : ((spec_l6Copy.f a0_0 l0_1 l0_2 a0_3).bind fun bt307 => ((spec_l6Upload.f k a0_0 l0_1 l0_2 a0_3 a1).bind fun t316 => (if t316 < 0 then (some (bt307.1, bt307.2.1, bt307.2.2.1, bt307.2.2.2, 3)) else (if 0 ≤ t316 then (if t316 ≤ (bt307.2.2.1.length : Int) then (if 0 ≤ (wrap64 (t316 + 1)) then (if (wrap64 (t316 + 1)) ≤ (bt307.2.2.1.length : Int) then (some (bt307.1, bt307.2.1, (bt307.2.2.1.eraseIdx (t316 : Int).toNat), bt307.2.2.2, 0)) else (none)) else (none)) else (none)) else (none))))) = some (r1, r2, r3, r4, r5) := by rw [if_pos rfl] at H; exact H
  clear H
  have H := H1
  clear H1
  replace H := Option.bind_eq_some_iff.mp H
  obtain ⟨⟨t307, t308, t311, t314⟩, A50, H⟩ := H
  replace H : ((spec_l6Upload.f k a0_0 l0_1 l0_2 a0_3 a1).bind fun t316 => (if t316 < 0 then (some (t307, t308, t311, t314, 3)) else (if 0 ≤ t316 then (if t316 ≤ (t311.length : Int) then (if 0 ≤ (wrap64 (t316 + 1)) then (if (wrap64 (t316 + 1)) ≤ (t311.length : Int) then (some (t307, t308, (t311.eraseIdx (t316 : Int).toNat), t314, 0)) else (none)) else (none)) else (none)) else (none)))) = some (r1, r2, r3, r4, r5) := H
  have A5 := Aside0.mk A50
  clear A50
  replace H := Option.bind_eq_some_iff.mp H
  obtain ⟨t316, A60, H⟩ := H
  replace H : (if t316 < 0 then (some (t307, t308, t311, t314, 3)) else (if 0 ≤ t316 then (if t316 ≤ (t311.length : Int) then (if 0 ≤ (wrap64 (t316 + 1)) then (if (wrap64 (t316 + 1)) ≤ (t311.length : Int) then (some (t307, t308, (t311.eraseIdx (t316 : Int).toNat), t314, 0)) else (none)) else (none)) else (none)) else (none))) = some (r1, r2, r3, r4, r5) := H
  have A6 := Aside0.mk A60
  clear A60
  by_cases c7 : t316 < 0
  ·
   rw [if_pos c7] at H
   have c7b0 := decide_eq_true c7
   clear c7
   simp only [Option.some.injEq, Prod.mk.injEq] at H
   obtain ⟨rfl, rfl, rfl, rfl, rfl⟩ := H
   go_enter Try.func33, Try.ntmps33
   go_wp2_with (first | ((with_reducible refine gate_dst (N := 2) rfl ?_); refine box_event ?hg (N := 2) ?hd (cs := #[.int .i64 a0_0, .slice A0_1 l0_1.length c0_1, .slice A0_2 l0_2.length c0_2, .int .i64 a0_3]) (t := 31) ?hr ?_; (case hd => rfl); (case hg => rfl); (case hr => exact zq2); intro gb304 hg w8 hbox hb; have BK304 := Aside0.mk hbox; have GW304 := Aside0.mk (zq255 : w.heap.size ≤ gb304); have GE304 := Aside0.mk (zq255 : w.heap.size ≤ gb304); replace HB := sB zq3 hb; clear hb hbox hg) | ((with_reducible refine gate_dst (N := 4) rfl ?_); refine box_event ?hg (N := 4) ?hd (cs := #[.int .i64 0, .slice none 0 0, .slice none 0 0, .int .i64 0]) (t := 31) ?hr ?_; (case hd => rfl); (case hg => rfl); (case hr => exact zq2); intro gb305 hg w9 hbox hb; have BK305 := Aside0.mk hbox; have GW305 := Aside0.mk (zq304 : w.heap.size ≤ gb305); have GE305 := Aside0.mk (zq304 : w.heap.size ≤ gb305); replace HB := sB zq240 hb; have NB304_305 := Aside0.mk (zq305 : gb304 ≠ gb305); have NB305_304 := Aside0.mk (zq306 : gb305 ≠ gb304); replace BK304 := bF BK304 zq239 hb; clear hb hbox hg; have hnb10 := NB304_305.out; have hnc10 := NB305_304.out; obtain ⟨hcz11_0, hcz11_1, hcz11_2, hcz11_3, hfz11_0, hfz11_1, hfz11_2, hfz11_3⟩ := c4 (w := w9) BK304) | ((with_reducible refine gC 16 rfl ?_); refine gL 9 Try.func16 #[.agg #[.int .i64 a0_0, .slice A0_1 l0_1.length c0_1, .slice A0_2 l0_2.length c0_2, .int .i64 a0_3]] ?_; (with_reducible refine (spec_StoreOk.calls k a0_0 _ _ l0_1 _ _ l0_2 a0_3 true _ ?_ ?_ ?_ ?_ A3.out).mono ?_); exact zq11; exact zq12; exact zq15; exact zq16; rintro e w12 ⟨rfl, hb⟩; refine ⟨_, rfl, ?_⟩; replace BK304 := bF BK304 zq239 hb; replace BK305 := bF BK305 zq241 hb; replace HB := sB zq242 hb; clear hb; obtain ⟨hcz13_0, hcz13_1, hcz13_2, hcz13_3, hfz13_0, hfz13_1, hfz13_2, hfz13_3⟩ := c4 (w := w12) BK304) | ((with_reducible refine gC 68 rfl ?_); refine gL 13 Try.func68 #[.agg #[.int .i64 a0_0, .slice A0_1 l0_1.length c0_1, .slice A0_2 l0_2.length c0_2, .int .i64 a0_3]] ?_; (with_reducible refine (spec_l6Copy.calls a0_0 _ _ l0_1 _ _ l0_2 a0_3 t307 t308 t311 t314 _ ?_ ?_ ?_ ?_ A5.out).mono ?_); exact zq11; exact zq12; exact zq15; exact zq16; rintro e w14 ⟨v309, v312, rfl, ho0, ho1, hb⟩; refine ⟨_, rfl, ?_⟩; have HO310 := Aside0.mk (Kd.R_lower ho0 (below_size zq242)); have HO313 := Aside0.mk (Kd.R_lower ho1 (below_size zq242)); replace BK304 := bF BK304 zq239 hb; replace BK305 := bF BK305 zq241 hb; replace HB := sB zq242 hb; clear hb; (try clear ho0); (try clear ho1)) | ((with_reducible refine gate_dst (N := 6) rfl ?_); refine box_event ?hg (N := 6) ?hd (cs := #[.int .i64 0, .slice none 0 0, .slice none 0 0, .int .i64 0]) (t := 31) ?hr ?_; (case hd => rfl); (case hg => rfl); (case hr => exact zq2); intro gb315 hg w15 hbox hb; replace HO310 := rB zq243 hb; replace HO313 := rB zq244 hb; have BK315 := Aside0.mk hbox; have GW315 := Aside0.mk (zq307 : w.heap.size ≤ gb315); have GE315 := Aside0.mk (zq307 : w.heap.size ≤ gb315); replace HB := sB zq242 hb; have NB304_315 := Aside0.mk (zq305 : gb304 ≠ gb315); have NB315_304 := Aside0.mk (zq306 : gb315 ≠ gb304); replace BK304 := bF BK304 zq239 hb; have NB305_315 := Aside0.mk (zq308 : gb305 ≠ gb315); have NB315_305 := Aside0.mk (zq309 : gb315 ≠ gb305); replace BK305 := bF BK305 zq241 hb; clear hb hbox hg; have hnb16 := NB315_304.out; have hnc16 := NB304_315.out; have hnb17 := NB315_305.out; have hnc17 := NB305_315.out; obtain ⟨hcz18_0, hcz18_1, hcz18_2, hcz18_3, hfz18_0, hfz18_1, hfz18_2, hfz18_3⟩ := c4 (w := w15) BK315; obtain ⟨Ao19, co19, eo19⟩ := Kd.R_slice HO310.out; subst eo19; obtain ⟨Ao20, co20, eo20⟩ := Kd.R_slice HO313.out; subst eo20; obtain ⟨hcz21_0, hcz21_1, hcz21_2, hcz21_3, hfz21_0, hfz21_1, hfz21_2, hfz21_3⟩ := c4 (w := w15) BK304) | ((with_reducible refine gC 69 rfl ?_); refine gL 16 Try.func69 #[.agg #[.int .i64 a0_0, .slice A0_1 l0_1.length c0_1, .slice A0_2 l0_2.length c0_2, .int .i64 a0_3], .int .i64 a1] ?_; (with_reducible refine (spec_l6Upload.calls k a0_0 _ _ l0_1 _ _ l0_2 a0_3 a1 t316 _ ?_ ?_ ?_ ?_ A6.out).mono ?_); exact Kd.C_below HR0_1.out zq245; exact zq12; exact Kd.C_below HR0_2.out zq245; exact zq16; rintro e w22 ⟨rfl, hb⟩; refine ⟨_, rfl, ?_⟩; replace HO310 := rB (by (with_reducible repeat (first | apply Kd.R_alloc | apply Kd.R_drewN | apply Kd.R_drew)); exact (Kd.R_mono (Kd.R_far (p := ⟨gb315, 3, none⟩) (Kd.R_far (p := ⟨gb315, 2, none⟩) (Kd.R_far (p := ⟨gb315, 1, none⟩) (Kd.R_far (p := ⟨gb315, 0, none⟩) (Kd.R_types HO310.out BK315.out (by decide)) (fun _ hk => hk.2) (.int .i64 t307)) (fun _ hk => hk.2) (.slice Ao19 t308.length co19)) (fun _ hk => hk.2) (.slice Ao20 t311.length co20)) (fun _ hk => hk.2) (.int .i64 t314)) (fun _ h_ => h_.1))) hb; replace HO313 := rB (by (with_reducible repeat (first | apply Kd.R_alloc | apply Kd.R_drewN | apply Kd.R_drew)); exact (Kd.R_mono (Kd.R_far (p := ⟨gb315, 3, none⟩) (Kd.R_far (p := ⟨gb315, 2, none⟩) (Kd.R_far (p := ⟨gb315, 1, none⟩) (Kd.R_far (p := ⟨gb315, 0, none⟩) (Kd.R_types HO313.out BK315.out (by decide)) (fun _ hk => hk.2) (.int .i64 t307)) (fun _ hk => hk.2) (.slice Ao19 t308.length co19)) (fun _ hk => hk.2) (.slice Ao20 t311.length co20)) (fun _ hk => hk.2) (.int .i64 t314)) (fun _ h_ => h_.1))) hb; replace BK304 := bF BK304 zq246 hb; replace BK305 := bF BK305 zq247 hb; replace BK315 := bB (g := gb315) (o := .cells #[.int .i64 t307, .slice Ao19 t308.length co19, .slice Ao20 t311.length co20, .int .i64 t314] 31 (0, 0)) (by (with_reducible repeat (first | refine blk_drewN ?_ _ | refine blk_drew ?_ | refine blk_alloc ?_ _)); refine blk_put (cs := #[.int .i64 t307, .slice Ao19 t308.length co19, .slice Ao20 t311.length co20, .int .i64 0]) ?_ 3 _ rfl; (with_reducible repeat (first | refine blk_drewN ?_ _ | refine blk_drew ?_ | refine blk_alloc ?_ _)); refine blk_put (cs := #[.int .i64 t307, .slice Ao19 t308.length co19, .slice none 0 0, .int .i64 0]) ?_ 2 _ rfl; (with_reducible repeat (first | refine blk_drewN ?_ _ | refine blk_drew ?_ | refine blk_alloc ?_ _)); refine blk_put (cs := #[.int .i64 t307, .slice none 0 0, .slice none 0 0, .int .i64 0]) ?_ 1 _ rfl; (with_reducible repeat (first | refine blk_drewN ?_ _ | refine blk_drew ?_ | refine blk_alloc ?_ _)); refine blk_put (cs := #[.int .i64 0, .slice none 0 0, .slice none 0 0, .int .i64 0]) ?_ 0 _ rfl; (with_reducible repeat (first | refine blk_drewN ?_ _ | refine blk_drew ?_ | refine blk_alloc ?_ _)); exact BK315.out) hb; replace HB := sB zq245 hb; clear hb; obtain ⟨hcz23_0, hcz23_1, hcz23_2, hcz23_3, hfz23_0, hfz23_1, hfz23_2, hfz23_3⟩ := c4 (w := w22) BK315; obtain ⟨hcz24_0, hcz24_1, hcz24_2, hcz24_3, hfz24_0, hfz24_1, hfz24_2, hfz24_3⟩ := c4 (w := w22) BK305))
   refine bodyPost_ret (results_ct rfl _ _ gb305 31 #[.int .i64 t307, .slice Ao19 t308.length co19, .slice Ao20 t311.length co20, .int .i64 t314] (0, 0) _ rfl (by (with_reducible repeat (first | refine blk_drewN ?_ _ | refine blk_drew ?_ | refine blk_alloc ?_ _)); refine blk_put (cs := #[.int .i64 t307, .slice Ao19 t308.length co19, .slice Ao20 t311.length co20, .int .i64 0]) ?_ 3 _ rfl; (with_reducible repeat (first | refine blk_drewN ?_ _ | refine blk_drew ?_ | refine blk_alloc ?_ _)); refine blk_put (cs := #[.int .i64 t307, .slice Ao19 t308.length co19, .slice none 0 0, .int .i64 0]) ?_ 2 _ rfl; (with_reducible repeat (first | refine blk_drewN ?_ _ | refine blk_drew ?_ | refine blk_alloc ?_ _)); refine blk_put (cs := #[.int .i64 t307, .slice none 0 0, .slice none 0 0, .int .i64 0]) ?_ 1 _ rfl; (with_reducible repeat (first | refine blk_drewN ?_ _ | refine blk_drew ?_ | refine blk_alloc ?_ _)); refine blk_put (cs := #[.int .i64 0, .slice none 0 0, .slice none 0 0, .int .i64 0]) ?_ 0 _ rfl; (with_reducible repeat (first | refine blk_drewN ?_ _ | refine blk_drew ?_ | refine blk_alloc ?_ _)); exact BK305.out) Try.underlying31 rfl (by kernel_rfl)) rfl ?_
   exact ⟨_, _, zq4, by (with_reducible repeat (first | apply Kd.R_alloc | apply Kd.R_drewN | apply Kd.R_drew)); exact Kd.R_mono (Kd.R_far (p := ⟨gb305, 3, none⟩) (Kd.R_far (p := ⟨gb305, 2, none⟩) (Kd.R_far (p := ⟨gb305, 1, none⟩) (Kd.R_far (p := ⟨gb305, 0, none⟩) (Kd.R_types HO310.out BK305.out (by decide)) (fun _ hk => hk.2) (.int .i64 t307)) (fun _ hk => hk.2) (.slice Ao19 t308.length co19)) (fun _ hk => hk.2) (.slice Ao20 t311.length co20)) (fun _ hk => hk.2) (.int .i64 t314)) (fun _ hk => trivial), by (with_reducible repeat (first | apply Kd.R_alloc | apply Kd.R_drewN | apply Kd.R_drew)); exact Kd.R_mono (Kd.R_far (p := ⟨gb305, 3, none⟩) (Kd.R_far (p := ⟨gb305, 2, none⟩) (Kd.R_far (p := ⟨gb305, 1, none⟩) (Kd.R_far (p := ⟨gb305, 0, none⟩) (Kd.R_types HO313.out BK305.out (by decide)) (fun _ hk => hk.2) (.int .i64 t307)) (fun _ hk => hk.2) (.slice Ao19 t308.length co19)) (fun _ hk => hk.2) (.slice Ao20 t311.length co20)) (fun _ hk => hk.2) (.int .i64 t314)) (fun _ hk => trivial), zq245⟩
  rw [if_neg c7] at H
  have c7b0 := decide_eq_false c7
  clear c7
  by_cases c25 : 0 ≤ t316
  ·
   rw [if_pos c25] at H
   have c25b0 := eq_true c25
   have c25b1 := decide_eq_true c25
   clear c25
   by_cases c26 : t316 ≤ (t311.length : Int)
   ·
    rw [if_pos c26] at H
    have c26b0 := eq_true c26
    have c26b1 := decide_eq_true c26
    clear c26
    obtain ⟨y317, hy317⟩ : ∃ y_ : List (S68), y_ = (t311.take (t316 : Int).toNat) := ⟨_, rfl⟩
    replace H : (if 0 ≤ (wrap64 (t316 + 1)) then (if (wrap64 (t316 + 1)) ≤ (t311.length : Int) then (some (t307, t308, (t311.eraseIdx (t316 : Int).toNat), t314, 0)) else (none)) else (none)) = some (r1, r2, r3, r4, r5) := by first | (rw [hy317]; with_reducible exact H) | (have H2_ := (Option.bind_some _ _).symm.trans H; rw [hy317]; with_reducible exact H2_) | (have H2_ := (Option.bind_some _ _).symm.trans H; with_reducible exact H2_) | with_reducible exact H | (rw [hy317]; exact H) | exact H
    have Ny317 := Aside0.mk hy317
    clear hy317
    obtain ⟨ji27, hji27⟩ : ∃ j_ : Int, (wrap64 (t316 + 1)) = j_ := ⟨_, rfl⟩
    replace H : (if 0 ≤ (ji27) then (if (ji27) ≤ (t311.length : Int) then (some (t307, t308, (t311.eraseIdx (t316 : Int).toNat), t314, 0)) else (none)) else (none)) = some (r1, r2, r3, r4, r5) := by first | (rw [hji27] at H; exact H) | (simp only [hji27] at H ⊢; exact H)
    (try rw [hji27] at A3)
    (try rw [hji27] at A5)
    (try rw [hji27] at A6)
    have hji27w : (IntKind.i64.wrap (t316 + 1)) = ji27 := (i64_w _).trans hji27
    by_cases c28 : 0 ≤ (ji27)
    ·
     rw [if_pos c28] at H
     have c28b0 := eq_true c28
     have c28b1 := decide_eq_true c28
     clear c28
     by_cases c29 : (ji27) ≤ (t311.length : Int)
     ·
      rw [if_pos c29] at H
      have c29b0 := eq_true c29
      have c29b1 := decide_eq_true c29
      clear c29
      obtain ⟨y321, hy321⟩ : ∃ y_ : List (S68), y_ = (t311.drop ((ji27) : Int).toNat) := ⟨_, rfl⟩
      replace H : (some (t307, t308, (t311.eraseIdx (t316 : Int).toNat), t314, 0)) = some (r1, r2, r3, r4, r5) := by first | (rw [hy321]; with_reducible exact H) | (have H2_ := (Option.bind_some _ _).symm.trans H; rw [hy321]; with_reducible exact H2_) | (have H2_ := (Option.bind_some _ _).symm.trans H; with_reducible exact H2_) | with_reducible exact H | (rw [hy321]; exact H) | exact H
      have Ny321 := Aside0.mk hy321
      clear hy321
      obtain ⟨y325, hy325⟩ : ∃ y_ : List (S68), y_ = (t311.eraseIdx (t316 : Int).toNat) := ⟨_, rfl⟩
      replace H : (some (t307, t308, y325, t314, 0)) = some (r1, r2, r3, r4, r5) := by first | (rw [hy325]; with_reducible exact H) | (have H2_ := (Option.bind_some _ _).symm.trans H; rw [hy325]; with_reducible exact H2_) | (have H2_ := (Option.bind_some _ _).symm.trans H; with_reducible exact H2_) | with_reducible exact H | (rw [hy325]; exact H) | exact H
      have Ny325 := Aside0.mk hy325
      clear hy325
      simp only [Option.some.injEq, Prod.mk.injEq] at H
      obtain ⟨rfl, rfl, rfl, rfl, rfl⟩ := H
      go_enter Try.func33, Try.ntmps33
      try go_wp2_with (first | ((with_reducible refine gate_dst (N := 2) rfl ?_); refine box_event ?hg (N := 2) ?hd (cs := #[.int .i64 a0_0, .slice A0_1 l0_1.length c0_1, .slice A0_2 l0_2.length c0_2, .int .i64 a0_3]) (t := 31) ?hr ?_; (case hd => rfl); (case hg => rfl); (case hr => exact zq2); intro gb304 hg w30 hbox hb; have BK304 := Aside0.mk hbox; have GW304 := Aside0.mk (zq255 : w.heap.size ≤ gb304); have GE304 := Aside0.mk (zq255 : w.heap.size ≤ gb304); replace HB := sB zq3 hb; clear hb hbox hg) | ((with_reducible refine gate_dst (N := 4) rfl ?_); refine box_event ?hg (N := 4) ?hd (cs := #[.int .i64 0, .slice none 0 0, .slice none 0 0, .int .i64 0]) (t := 31) ?hr ?_; (case hd => rfl); (case hg => rfl); (case hr => exact zq2); intro gb305 hg w31 hbox hb; have BK305 := Aside0.mk hbox; have GW305 := Aside0.mk (zq304 : w.heap.size ≤ gb305); have GE305 := Aside0.mk (zq304 : w.heap.size ≤ gb305); replace HB := sB zq240 hb; have NB304_305 := Aside0.mk (zq305 : gb304 ≠ gb305); have NB305_304 := Aside0.mk (zq306 : gb305 ≠ gb304); replace BK304 := bF BK304 zq239 hb; clear hb hbox hg; have hnb32 := NB304_305.out; have hnc32 := NB305_304.out; obtain ⟨hcz33_0, hcz33_1, hcz33_2, hcz33_3, hfz33_0, hfz33_1, hfz33_2, hfz33_3⟩ := c4 (w := w31) BK304) | ((with_reducible refine gC 16 rfl ?_); refine gL 9 Try.func16 #[.agg #[.int .i64 a0_0, .slice A0_1 l0_1.length c0_1, .slice A0_2 l0_2.length c0_2, .int .i64 a0_3]] ?_; (with_reducible refine (spec_StoreOk.calls k a0_0 _ _ l0_1 _ _ l0_2 a0_3 true _ ?_ ?_ ?_ ?_ A3.out).mono ?_); exact zq11; exact zq12; exact zq15; exact zq16; rintro e w34 ⟨rfl, hb⟩; refine ⟨_, rfl, ?_⟩; replace BK304 := bF BK304 zq239 hb; replace BK305 := bF BK305 zq241 hb; replace HB := sB zq242 hb; clear hb; obtain ⟨hcz35_0, hcz35_1, hcz35_2, hcz35_3, hfz35_0, hfz35_1, hfz35_2, hfz35_3⟩ := c4 (w := w34) BK304) | ((with_reducible refine gC 68 rfl ?_); refine gL 13 Try.func68 #[.agg #[.int .i64 a0_0, .slice A0_1 l0_1.length c0_1, .slice A0_2 l0_2.length c0_2, .int .i64 a0_3]] ?_; (with_reducible refine (spec_l6Copy.calls a0_0 _ _ l0_1 _ _ l0_2 a0_3 t307 t308 t311 t314 _ ?_ ?_ ?_ ?_ A5.out).mono ?_); exact zq11; exact zq12; exact zq15; exact zq16; rintro e w36 ⟨v309, v312, rfl, ho0, ho1, hb⟩; refine ⟨_, rfl, ?_⟩; have HO310 := Aside0.mk (Kd.R_lower ho0 (below_size zq242)); have HO313 := Aside0.mk (Kd.R_lower ho1 (below_size zq242)); replace BK304 := bF BK304 zq239 hb; replace BK305 := bF BK305 zq241 hb; replace HB := sB zq242 hb; clear hb; (try clear ho0); (try clear ho1)) | ((with_reducible refine gate_dst (N := 6) rfl ?_); refine box_event ?hg (N := 6) ?hd (cs := #[.int .i64 0, .slice none 0 0, .slice none 0 0, .int .i64 0]) (t := 31) ?hr ?_; (case hd => rfl); (case hg => rfl); (case hr => exact zq2); intro gb315 hg w37 hbox hb; replace HO310 := rB zq243 hb; replace HO313 := rB zq244 hb; have BK315 := Aside0.mk hbox; have GW315 := Aside0.mk (zq307 : w.heap.size ≤ gb315); have GE315 := Aside0.mk (zq307 : w.heap.size ≤ gb315); replace HB := sB zq242 hb; have NB304_315 := Aside0.mk (zq305 : gb304 ≠ gb315); have NB315_304 := Aside0.mk (zq306 : gb315 ≠ gb304); replace BK304 := bF BK304 zq239 hb; have NB305_315 := Aside0.mk (zq308 : gb305 ≠ gb315); have NB315_305 := Aside0.mk (zq309 : gb315 ≠ gb305); replace BK305 := bF BK305 zq241 hb; clear hb hbox hg; have hnb38 := NB315_304.out; have hnc38 := NB304_315.out; have hnb39 := NB315_305.out; have hnc39 := NB305_315.out; obtain ⟨hcz40_0, hcz40_1, hcz40_2, hcz40_3, hfz40_0, hfz40_1, hfz40_2, hfz40_3⟩ := c4 (w := w37) BK315; obtain ⟨Ao41, co41, eo41⟩ := Kd.R_slice HO310.out; subst eo41; obtain ⟨Ao42, co42, eo42⟩ := Kd.R_slice HO313.out; subst eo42; obtain ⟨hcz43_0, hcz43_1, hcz43_2, hcz43_3, hfz43_0, hfz43_1, hfz43_2, hfz43_3⟩ := c4 (w := w37) BK304) | ((with_reducible refine gC 69 rfl ?_); refine gL 16 Try.func69 #[.agg #[.int .i64 a0_0, .slice A0_1 l0_1.length c0_1, .slice A0_2 l0_2.length c0_2, .int .i64 a0_3], .int .i64 a1] ?_; (with_reducible refine (spec_l6Upload.calls k a0_0 _ _ l0_1 _ _ l0_2 a0_3 a1 t316 _ ?_ ?_ ?_ ?_ A6.out).mono ?_); exact Kd.C_below HR0_1.out zq245; exact zq12; exact Kd.C_below HR0_2.out zq245; exact zq16; rintro e w44 ⟨rfl, hb⟩; refine ⟨_, rfl, ?_⟩; replace HO310 := rB (by (with_reducible repeat (first | apply Kd.R_alloc | apply Kd.R_drewN | apply Kd.R_drew)); exact (Kd.R_mono (Kd.R_far (p := ⟨gb315, 3, none⟩) (Kd.R_far (p := ⟨gb315, 2, none⟩) (Kd.R_far (p := ⟨gb315, 1, none⟩) (Kd.R_far (p := ⟨gb315, 0, none⟩) (Kd.R_types HO310.out BK315.out (by decide)) (fun _ hk => hk.2) (.int .i64 t307)) (fun _ hk => hk.2) (.slice Ao41 t308.length co41)) (fun _ hk => hk.2) (.slice Ao42 t311.length co42)) (fun _ hk => hk.2) (.int .i64 t314)) (fun _ h_ => h_.1))) hb; replace HO313 := rB (by (with_reducible repeat (first | apply Kd.R_alloc | apply Kd.R_drewN | apply Kd.R_drew)); exact (Kd.R_mono (Kd.R_far (p := ⟨gb315, 3, none⟩) (Kd.R_far (p := ⟨gb315, 2, none⟩) (Kd.R_far (p := ⟨gb315, 1, none⟩) (Kd.R_far (p := ⟨gb315, 0, none⟩) (Kd.R_types HO313.out BK315.out (by decide)) (fun _ hk => hk.2) (.int .i64 t307)) (fun _ hk => hk.2) (.slice Ao41 t308.length co41)) (fun _ hk => hk.2) (.slice Ao42 t311.length co42)) (fun _ hk => hk.2) (.int .i64 t314)) (fun _ h_ => h_.1))) hb; replace BK304 := bF BK304 zq246 hb; replace BK305 := bF BK305 zq247 hb; replace BK315 := bB (g := gb315) (o := .cells #[.int .i64 t307, .slice Ao41 t308.length co41, .slice Ao42 t311.length co42, .int .i64 t314] 31 (0, 0)) (by (with_reducible repeat (first | refine blk_drewN ?_ _ | refine blk_drew ?_ | refine blk_alloc ?_ _)); refine blk_put (cs := #[.int .i64 t307, .slice Ao41 t308.length co41, .slice Ao42 t311.length co42, .int .i64 0]) ?_ 3 _ rfl; (with_reducible repeat (first | refine blk_drewN ?_ _ | refine blk_drew ?_ | refine blk_alloc ?_ _)); refine blk_put (cs := #[.int .i64 t307, .slice Ao41 t308.length co41, .slice none 0 0, .int .i64 0]) ?_ 2 _ rfl; (with_reducible repeat (first | refine blk_drewN ?_ _ | refine blk_drew ?_ | refine blk_alloc ?_ _)); refine blk_put (cs := #[.int .i64 t307, .slice none 0 0, .slice none 0 0, .int .i64 0]) ?_ 1 _ rfl; (with_reducible repeat (first | refine blk_drewN ?_ _ | refine blk_drew ?_ | refine blk_alloc ?_ _)); refine blk_put (cs := #[.int .i64 0, .slice none 0 0, .slice none 0 0, .int .i64 0]) ?_ 0 _ rfl; (with_reducible repeat (first | refine blk_drewN ?_ _ | refine blk_drew ?_ | refine blk_alloc ?_ _)); exact BK315.out) hb; replace HB := sB zq245 hb; clear hb))
      replace HO310 := Aside0.mk (Kd.R_drew HO310.out)
      replace HO313 := Aside0.mk (Kd.R_drew HO313.out)
      replace BK304 := Aside0.mk (blk_drew BK304.out)
      replace BK305 := Aside0.mk (blk_drew BK305.out)
      replace BK315 := Aside0.mk (blk_drew BK315.out)
      replace HB := Aside0.mk (below_drew1 HB.out)
      have q46 : (t316 : Int) ≤ ((t311.length : Int) : Int) := of_decide_eq_true zq7
      obtain ⟨i046, hi046, _, hsz46, _⟩ := info_parts info68
      have hroom46 : t311.length ≤ co42 := (Kd.R_reads' HO313.out).2.1
      have hC46 : Kd.C k68 _ Ao42 t311.length t311 := (Kd.R_reads' HO313.out).2.2
      have hcut46 := cut_to (P := Try.prog) 29 68 .i64 Try.underlying29 hi046 Ao42 t311.length co42 t316 (of_decide_eq_true zq7) q46 hroom46
      have hr46 := Kd.C_take (m := (t316 : Int).toNat) hC46 (by omega)
      have hy46 : y317.length = (t316 : Int).toNat := (by rw [Ny317.out, List.length_take]; omega)
      rw [← Ny317.out] at hr46
      rw [← hy46] at hcut46
      have HR320 := Aside0.mk hr46
      have HC320 := Aside0.mk (show y317.length ≤ co42 from by omega)
      clear hr46 hC46 hroom46 hi046 hsz46
      have KY46 := Aside0.mk hy46
      clear hy46
      have KL46 := Aside0.mk (show (t316 : Int).toNat ≤ t311.length from by omega)
      replace q46 := eq_true q46
      have q47 : ((ji27) : Int) ≤ ((t311.length : Int) : Int) := of_decide_eq_true zq7
      obtain ⟨i047, hi047, _, hsz47, _⟩ := info_parts info68
      have hroom47 : t311.length ≤ co42 := (Kd.R_reads' HO313.out).2.1
      have hC47 : Kd.C k68 _ Ao42 t311.length t311 := (Kd.R_reads' HO313.out).2.2
      have q047 : (0 : Int) ≤ ((ji27) : Int) := of_decide_eq_true zq7
      have hcut47 := cut_from (P := Try.prog) 29 68 .i64 Try.underlying29 hi047 2 hsz47 Ao42 t311.length co42 (ji27) q047 q47
      have hr47 := Kd.C_drop (m := ((ji27) : Int).toNat) (c := co42) hC47 (by omega) hroom47
      obtain ⟨A47, hA47⟩ : ∃ A1, A1 = (if co42 = ((ji27) : Int).toNat then Ao42 else (Ao42 : Option Addr).map (·.add (((ji27) : Int).toNat * 2))) := ⟨_, rfl⟩
      obtain ⟨c47, hc47⟩ : ∃ c1, c1 = co42 - ((ji27) : Int).toNat := ⟨_, rfl⟩
      have hy47 : y321.length = t311.length - ((ji27) : Int).toNat := (by rw [Ny321.out, List.length_drop] <;> omega)
      rw [show (t311).drop ((ji27) : Int).toNat = y321 from Ny321.out.symm] at hr47
      replace hr47 : Kd.C k68 _ A47 y321.length y321 := (by rw [hA47]; exact hr47)
      rw [← hy47, ← hA47, ← hc47] at hcut47
      have HR324 := Aside0.mk hr47
      have HC324 := Aside0.mk (show y321.length ≤ c47 from by rw [hy47, hc47]; exact Nat.sub_le_sub_right hroom47 _)
      clear hr47 hC47 hroom47 hi047 hsz47 hc47
      have KY47 := Aside0.mk hy47
      have KA47 := Aside0.mk hA47
      clear hy47 hA47
      have KL47 := Aside0.mk (show ((ji27) : Int).toNat ≤ t311.length from by omega)
      replace q47 := eq_true q47
      obtain ⟨go49, co49, eo49, gb49, gl49, cl49, HG49⟩ := Kd.R_form HO313.out (by have hj_ : 0 ≤ (t316 : Int) := of_decide_eq_true zq7; have hl_ : (ji27 : Int) ≤ (t311.length : Int) := of_decide_eq_true zq7; have hh_ : (t316 : Int) ≤ (t311.length : Int) := of_decide_eq_true zq7; rw [← hji27] at hl_; unfold wrap64 at hl_; omega)
      (first | cases eo49 | (injection eo49 with ea_ en_ ec_; (first | subst ea_ | (injection ea_ with ea_; subst ea_)); subst ec_; clear en_))
      have GB49 := Aside0.mk gb49
      have GG49 := Aside0.mk HG49
      clear gb49 gl49 HG49
      refine start_ (n := 12) (S := fun w' => w'.cell? ⟨gb315, 0, none⟩ = some (.int .i64 t307) ∧ w'.cell? ⟨gb315, 1, none⟩ = some (.slice Ao41 t308.length co41) ∧ w'.cell? ⟨gb315, 2, none⟩ = some (.slice (some ⟨go49, 0, none⟩) t311.length co42) ∧ w'.cell? ⟨gb315, 3, none⟩ = some (.int .i64 t314)) (ds := [11]) (bA 12 0) (by kernel_rfl) rfl rfl ⟨(blk_cell BK315.out 0).trans rfl, (blk_cell BK315.out 1).trans rfl, (blk_cell BK315.out 2).trans rfl, (blk_cell BK315.out 3).trans rfl⟩ (fun hHeld => ?_); refine with_tabW spec_Abort.tab7 spec_Abort.bits7 (fun HT_ HW_ => ?_)
      generalize w44.drew = w45 at HO310 HO313 BK304 BK305 BK315 HB GG49 HR320 HR324 hHeld ⊢
      refine pV 0 20 12 1 ?_
      refine pV 2 22 12 5 ?_
      refine pV 4 24 12 21 ?_
      refine pV 6 26 12 85 ?_
      refine pV 7 27 12 213 ?_
      refine tV 1 21 12 215 rfl zq325 ?_
      refine pV 3 23 12 223 ?_
      refine tV 5 25 12 255 rfl zq325 ?_
      refine pV 8 28 12 511 ?_
      refine one_ (i := 9) (N := some 29) (bA 12 1023) rfl rfl (one_of HT_.out (by kernel_rfl)) (by decide) (fun K hK => ?_)
      have hj_ : 0 ≤ (t316 : Int) := of_decide_eq_true zq7
      have hl_ : (ji27 : Int) ≤ (t311.length : Int) := of_decide_eq_true zq7
      have hh_ : (t316 : Int) ≤ (t311.length : Int) := of_decide_eq_true zq7
      have hb_ := (Kd.R_reads' HO313.out).2.2.2.1
      have h0_ : (0 : Int) ≤ (ji27 : Int) := of_decide_eq_true zq7
      have hy1_ := KY46.out
      have hk_ : (ji27 : Int).toNat = y317.length + 1 := (by have hw_ : (ji27 : Int) = t316 + 1 := (by have h00_ := h0_; rw [← hji27] at h00_ ⊢; unfold wrap64 at h00_ ⊢; omega); rw [hw_]; omega)
      refine Kd.R_delete_step k68 (w0 := w) w.heap.size (by rfl) (.tmp 23) (.tmp 28) 29 68 rfl Try.underlying29 (by kernel_rfl) (g := go49) (n := t311.length) (c := co42) (k := y317.length) rfl rfl ?hA ?hm zq244 ?hk zq245 (below_size zq245) ?_
      (case hA => have ha_ := KA47.out; rw [hk_] at ha_; exact ha_)
      (case hm => have ha_ := KY47.out; omega)
      (case hk => omega)
      intro w48 ho hb hg
      clear hj_ hl_ hh_ hb_ hk_ h0_
      rw [hy1_, ← Ny325.out] at ho
      clear hy1_
      have hn_ : t311.length - 1 = y325.length := (by have := (Kd.R_reads' ho).1; omega)
      rw [hn_] at ho ⊢
      clear hn_
      replace BK304 := Aside0.mk (blk_grown (g := gb304) (o := .cells #[.int .i64 a0_0, .slice A0_1 l0_1.length c0_1, .slice A0_2 l0_2.length c0_2, .int .i64 a0_3] 31 (0, 0)) zq239 hg (Kd.R_ne HO313.out BK304.out (by decide)))
      replace BK305 := Aside0.mk (blk_grown (g := gb305) (o := .cells #[.int .i64 0, .slice none 0 0, .slice none 0 0, .int .i64 0] 31 (0, 0)) zq241 hg (Kd.R_ne HO313.out BK305.out (by decide)))
      replace HO310 := Aside0.mk (Kd.R_over' (v := (.slice (some ⟨go49, 0, none⟩) t311.length co42)) zq243 (Kd.R_typed HO313.out) (by decide) hg)
      replace BK315 := Aside0.mk (blk_grown (g := gb315) (o := .cells #[.int .i64 t307, .slice Ao41 t308.length co41, .slice (some ⟨go49, 0, none⟩) t311.length co42, .int .i64 t314] 31 (0, 0)) (by (with_reducible repeat (first | refine blk_drewN ?_ _ | refine blk_drew ?_ | refine blk_alloc ?_ _)); exact BK315.out) hg (Kd.R_ne HO313.out BK315.out (by decide)))
      replace HO313 := Aside0.mk ho
      replace HB := Aside0.mk hb
      clear ho hb hg
      refine hK.out _ _ ⟨(blk_cell BK315.out 0).trans rfl, (blk_cell BK315.out 1).trans rfl, (blk_cell BK315.out 2).trans rfl, (blk_cell BK315.out 3).trans rfl⟩ (fun hHeld => ?_)
      clear hK K
      refine norm_ (a' := ?_) ?_ ?_
      rotate_left
      ·
       show Act.put _ (some 29) _ = _
       simp only [Act.put, List.setIfInBounds_toArray, List.set_cons_zero, List.set_cons_succ, i64_w, i32_w]
       rfl
      refine pV 10 30 12 2047 ?_
      refine last_ (i := 11) (N := none) (bA 12 4095) rfl rfl (one_of HT_.out (by kernel_rfl)) (by decide) (fun K hK => ?_)
      have hs50 : w48.cell? ⟨gb315, 2, none⟩ = some (.slice (some ⟨go49, 0, none⟩) t311.length co42) := (blk_cell BK315.out 2).trans rfl
      have hfs50 := blk_frozen BK315.out 2
      have hns50_0 := NB304_315.out
      have hns50_1 := NB305_315.out
      have hms50_0 := NB315_304.out
      have hms50_1 := NB315_305.out
      refine skip_ (w1 := ?_) (by rfl) rfl ?_ ?_
      rotate_left
      ·
       go_simp
       rfl
      refine hK.out _ _ ?_
      clear hK K
      refine done_ (done_of HT_.out (by kernel_rfl)) ?_
      obtain ⟨hcz51_0, hcz51_1, hcz51_2, hcz51_3, hfz51_0, hfz51_1, hfz51_2, hfz51_3⟩ := c4 (w := w48) BK315
      obtain ⟨hcz52_0, hcz52_1, hcz52_2, hcz52_3, hfz52_0, hfz52_1, hfz52_2, hfz52_3⟩ := c4 (w := w48) BK305
      try go_wp2
      refine bodyPost_ret (results_ct rfl _ _ gb305 31 #[.int .i64 t307, .slice Ao41 t308.length co41, .slice (some ⟨go49, 0, none⟩) y325.length co42, .int .i64 t314] (0, 0) _ rfl (by (with_reducible repeat (first | refine blk_drewN ?_ _ | refine blk_drew ?_ | refine blk_alloc ?_ _)); refine blk_put (cs := #[.int .i64 t307, .slice Ao41 t308.length co41, .slice (some ⟨go49, 0, none⟩) y325.length co42, .int .i64 0]) ?_ 3 _ rfl; (with_reducible repeat (first | refine blk_drewN ?_ _ | refine blk_drew ?_ | refine blk_alloc ?_ _)); refine blk_put (cs := #[.int .i64 t307, .slice Ao41 t308.length co41, .slice none 0 0, .int .i64 0]) ?_ 2 _ rfl; (with_reducible repeat (first | refine blk_drewN ?_ _ | refine blk_drew ?_ | refine blk_alloc ?_ _)); refine blk_put (cs := #[.int .i64 t307, .slice none 0 0, .slice none 0 0, .int .i64 0]) ?_ 1 _ rfl; (with_reducible repeat (first | refine blk_drewN ?_ _ | refine blk_drew ?_ | refine blk_alloc ?_ _)); refine blk_put (cs := #[.int .i64 0, .slice none 0 0, .slice none 0 0, .int .i64 0]) ?_ 0 _ rfl; (with_reducible repeat (first | refine blk_drewN ?_ _ | refine blk_drew ?_ | refine blk_alloc ?_ _)); refine blk_far ?_ NB305_315.out _; (with_reducible repeat (first | refine blk_drewN ?_ _ | refine blk_drew ?_ | refine blk_alloc ?_ _)); exact BK305.out) Try.underlying31 rfl (by kernel_rfl)) rfl ?_
      exact ⟨_, _, by first | rfl | (simp [errW_none, errW_some] <;> rfl) | (simp only [← hji27]; first | rfl | (simp [errW_none, errW_some] <;> rfl)) | (simp [*, errW_none, errW_some] <;> rfl), by (with_reducible repeat (first | apply Kd.R_alloc | apply Kd.R_drewN | apply Kd.R_drew)); exact Kd.R_mono (Kd.R_far (p := ⟨gb305, 3, none⟩) (Kd.R_far (p := ⟨gb305, 2, none⟩) (Kd.R_far (p := ⟨gb305, 1, none⟩) (Kd.R_far (p := ⟨gb305, 0, none⟩) (Kd.R_far (p := ⟨gb315, 2, none⟩) (Kd.R_types (Kd.R_types HO310.out BK315.out (by decide)) BK305.out (by decide)) (fun _ hk => hk.1.2) (.slice (some ⟨go49, 0, none⟩) y325.length co42)) (fun _ hk => hk.2) (.int .i64 t307)) (fun _ hk => hk.2) (.slice Ao41 t308.length co41)) (fun _ hk => hk.2) (.slice (some ⟨go49, 0, none⟩) y325.length co42)) (fun _ hk => hk.2) (.int .i64 t314)) (fun _ hk => trivial), by (with_reducible repeat (first | apply Kd.R_alloc | apply Kd.R_drewN | apply Kd.R_drew)); exact Kd.R_mono (Kd.R_far (p := ⟨gb305, 3, none⟩) (Kd.R_far (p := ⟨gb305, 2, none⟩) (Kd.R_far (p := ⟨gb305, 1, none⟩) (Kd.R_far (p := ⟨gb305, 0, none⟩) (Kd.R_far (p := ⟨gb315, 2, none⟩) (Kd.R_types (Kd.R_types HO313.out BK315.out (by decide)) BK305.out (by decide)) (fun _ hk => hk.1.2) (.slice (some ⟨go49, 0, none⟩) y325.length co42)) (fun _ hk => hk.2) (.int .i64 t307)) (fun _ hk => hk.2) (.slice Ao41 t308.length co41)) (fun _ hk => hk.2) (.slice (some ⟨go49, 0, none⟩) y325.length co42)) (fun _ hk => hk.2) (.int .i64 t314)) (fun _ hk => trivial), zq245⟩
     rw [if_neg c29] at H
     exact absurd H (by simp)
    rw [if_neg c28] at H
    exact absurd H (by simp)
   rw [if_neg c26] at H
   exact absurd H (by simp)
  rw [if_neg c25] at H
  exact absurd H (by simp)
 replace c4 := Bool.eq_false_iff.mpr c4
 subst c4
 have H1 : (some (0, ([] : List (S66)), ([] : List (S68)), 0, 1)) = some (r1, r2, r3, r4, r5) := by rw [if_neg (show ¬ (false = true) by decide)] at H; exact H
 clear H
 have H := H1
 clear H1
 simp only [Option.some.injEq, Prod.mk.injEq] at H
 obtain ⟨rfl, rfl, rfl, rfl, rfl⟩ := H
 go_enter Try.func33, Try.ntmps33
 go_wp2_with (first | ((with_reducible refine gate_dst (N := 2) rfl ?_); refine box_event ?hg (N := 2) ?hd (cs := #[.int .i64 a0_0, .slice A0_1 l0_1.length c0_1, .slice A0_2 l0_2.length c0_2, .int .i64 a0_3]) (t := 31) ?hr ?_; (case hd => rfl); (case hg => rfl); (case hr => exact zq2); intro gb304 hg w53 hbox hb; have BK304 := Aside0.mk hbox; have GW304 := Aside0.mk (zq255 : w.heap.size ≤ gb304); have GE304 := Aside0.mk (zq255 : w.heap.size ≤ gb304); replace HB := sB zq3 hb; clear hb hbox hg) | ((with_reducible refine gate_dst (N := 4) rfl ?_); refine box_event ?hg (N := 4) ?hd (cs := #[.int .i64 0, .slice none 0 0, .slice none 0 0, .int .i64 0]) (t := 31) ?hr ?_; (case hd => rfl); (case hg => rfl); (case hr => exact zq2); intro gb305 hg w54 hbox hb; have BK305 := Aside0.mk hbox; have GW305 := Aside0.mk (zq304 : w.heap.size ≤ gb305); have GE305 := Aside0.mk (zq304 : w.heap.size ≤ gb305); replace HB := sB zq240 hb; have NB304_305 := Aside0.mk (zq305 : gb304 ≠ gb305); have NB305_304 := Aside0.mk (zq306 : gb305 ≠ gb304); replace BK304 := bF BK304 zq239 hb; clear hb hbox hg; have hnb55 := NB304_305.out; have hnc55 := NB305_304.out; obtain ⟨hcz56_0, hcz56_1, hcz56_2, hcz56_3, hfz56_0, hfz56_1, hfz56_2, hfz56_3⟩ := c4 (w := w54) BK304) | ((with_reducible refine gC 16 rfl ?_); refine gL 9 Try.func16 #[.agg #[.int .i64 a0_0, .slice A0_1 l0_1.length c0_1, .slice A0_2 l0_2.length c0_2, .int .i64 a0_3]] ?_; (with_reducible refine (spec_StoreOk.calls k a0_0 _ _ l0_1 _ _ l0_2 a0_3 false _ ?_ ?_ ?_ ?_ A3.out).mono ?_); exact zq11; exact zq12; exact zq15; exact zq16; rintro e w57 ⟨rfl, hb⟩; refine ⟨_, rfl, ?_⟩; replace BK304 := bF BK304 zq239 hb; replace BK305 := bF BK305 zq241 hb; replace HB := sB zq242 hb; clear hb; obtain ⟨hcz58_0, hcz58_1, hcz58_2, hcz58_3, hfz58_0, hfz58_1, hfz58_2, hfz58_3⟩ := c4 (w := w57) BK305))
 refine bodyPost_ret (results_ct rfl _ _ gb305 31 #[.int .i64 0, .slice none 0 0, .slice none 0 0, .int .i64 0] (0, 0) _ rfl (by (with_reducible repeat (first | refine blk_drewN ?_ _ | refine blk_drew ?_ | refine blk_alloc ?_ _)); refine blk_put (cs := #[.int .i64 0, .slice none 0 0, .slice none 0 0, .int .i64 0]) ?_ 3 _ rfl; (with_reducible repeat (first | refine blk_drewN ?_ _ | refine blk_drew ?_ | refine blk_alloc ?_ _)); refine blk_put (cs := #[.int .i64 0, .slice none 0 0, .slice none 0 0, .int .i64 0]) ?_ 2 _ rfl; (with_reducible repeat (first | refine blk_drewN ?_ _ | refine blk_drew ?_ | refine blk_alloc ?_ _)); refine blk_put (cs := #[.int .i64 0, .slice none 0 0, .slice none 0 0, .int .i64 0]) ?_ 1 _ rfl; (with_reducible repeat (first | refine blk_drewN ?_ _ | refine blk_drew ?_ | refine blk_alloc ?_ _)); refine blk_put (cs := #[.int .i64 0, .slice none 0 0, .slice none 0 0, .int .i64 0]) ?_ 0 _ rfl; (with_reducible repeat (first | refine blk_drewN ?_ _ | refine blk_drew ?_ | refine blk_alloc ?_ _)); exact BK305.out) Try.underlying31 rfl (by kernel_rfl)) rfl ?_
 exact ⟨_, _, zq4, zq80, zq80, zq242⟩

/-! ### impl_used: function 58 -/
mutual
def impl_used.l0 : Nat → Int → List (S66) → Int → Int → Int → List (S66) → List (S68) → Int → Option (Int)
 | 0, _, _, _, _, _, _, _, _ => none
 | k + 1, x3, x9, x10, x11, x329000, x329001, x329002, x329003 => if x11 < x10 then (if 0 ≤ x11 then (if x11 < (x9.length : Int) then (impl_used.l0 k (wrap64 (x3 + (((rd_T66 x9 x11).f1).size : Int))) x9 x10 (wrap64 (x11 + 1)) x329000 x329001 x329002 x329003) else (none)) else (none)) else (impl_used.l1 k x3 x329002 (x329002.length : Int) 0)
def impl_used.l1 : Nat → Int → List (S68) → Int → Int → Option (Int)
 | 0, _, _, _, _ => none
 | k + 1, x3, x22, x23, x24 => if x24 < x23 then (if 0 ≤ x24 then (if x24 < (x22.length : Int) then (impl_used.l1 k (wrap64 (x3 + (((rd_T68 x22 x24).f1).size : Int))) x22 x23 (wrap64 (x24 + 1))) else (none)) else (none)) else (some x3)
end
def impl_used.f (k : Nat) (a0_0 : Int) (l0_1 : List (S66)) (l0_2 : List (S68)) (a0_3 : Int) : Option (Int) := impl_used.l0 k 0 l0_1 (l0_1.length : Int) 0 a0_0 l0_1 l0_2 a0_3
theorem impl_used.mono_l : ∀ k, (∀ y0 y1 y2 y3 y4 y5 y6 y7, LeO (impl_used.l0 k y0 y1 y2 y3 y4 y5 y6 y7) (impl_used.l0 (k + 1) y0 y1 y2 y3 y4 y5 y6 y7)) ∧ (∀ y0 y1 y2 y3, LeO (impl_used.l1 k y0 y1 y2 y3) (impl_used.l1 (k + 1) y0 y1 y2 y3))
 | 0 => ⟨fun _ _ _ _ _ _ _ _ r h => by simp [impl_used.l0] at h, fun _ _ _ _ r h => by simp [impl_used.l1] at h⟩
 | k + 1 => by
  obtain ⟨ih0, ih1⟩ := impl_used.mono_l k
  refine ⟨?_, ?_⟩
  ·
   intro y0 y1 y2 y3 y4 y5 y6 y7
   unfold impl_used.l0
   repeat' first
   | (with_reducible exact ih0 _ _ _ _ _ _ _ _)
   | (with_reducible exact ih1 _ _ _ _)
   | (with_reducible exact LeO.refl _)
   | (with_reducible exact LeO.none _)
   | (with_reducible refine LeO.ite ?_ ?_)
   | (with_reducible refine LeO.bind ?_ (fun _ => ?_))
   | exact LeO.none _
   | refine LeO.ite ?_ ?_
   | refine LeO.bind ?_ (fun _ => ?_)
  intro y0 y1 y2 y3
  unfold impl_used.l1
  repeat' first
  | (with_reducible exact ih0 _ _ _ _ _ _ _ _)
  | (with_reducible exact ih1 _ _ _ _)
  | (with_reducible exact LeO.refl _)
  | (with_reducible exact LeO.none _)
  | (with_reducible refine LeO.ite ?_ ?_)
  | (with_reducible refine LeO.bind ?_ (fun _ => ?_))
  | exact LeO.none _
  | refine LeO.ite ?_ ?_
  | refine LeO.bind ?_ (fun _ => ?_)
theorem impl_used.mono : ∀ a0 a1 a2 a3 k, LeO (impl_used.f k a0 a1 a2 a3) (impl_used.f (k + 1) a0 a1 a2 a3) := by
 intro a0 a1 a2 a3 k
 obtain ⟨ih0, ih1⟩ := impl_used.mono_l k
 unfold impl_used.f
 repeat' first
   | (with_reducible exact ih0 _ _ _ _ _ _ _ _)
   | (with_reducible exact ih1 _ _ _ _)
   | (with_reducible exact LeO.refl _)
   | (with_reducible exact LeO.none _)
   | (with_reducible refine LeO.ite ?_ ?_)
   | (with_reducible refine LeO.bind ?_ (fun _ => ?_))
   | exact LeO.none _
   | refine LeO.ite ?_ ?_
   | refine LeO.bind ?_ (fun _ => ?_)
set_option maxHeartbeats 8000000 in
set_option maxRecDepth 100000 in
theorem impl_used.calls (k : Nat) (a0_0 : Int) (A0_1 : Option Addr) (c0_1 : Nat) (l0_1 : List (S66)) (A0_2 : Option Addr) (c0_2 : Nat) (l0_2 : List (S68)) (a0_3 : Int) (r : Int) (w : World) (hr0_1 : Kd.C k66 w A0_1 l0_1.length l0_1) (hc0_1 : l0_1.length ≤ c0_1) (hr0_2 : Kd.C k68 w A0_2 l0_2.length l0_2) (hc0_2 : l0_2.length ≤ c0_2) (h : impl_used.f k a0_0 l0_1 l0_2 a0_3 = some r) :
  Calls Try.prog 58 #[.agg #[.int .i64 a0_0, .slice A0_1 l0_1.length c0_1, .slice A0_2 l0_2.length c0_2, .int .i64 a0_3]] w fun e w' => e = .returned (.int .i64 r) ∧ Below w.heap.size w w' := by
 have hu31 := Try.underlying31
 have hu66 := Try.underlying66
 have hu68 := Try.underlying68
 have HR0_1 := Aside0.mk hr0_1
 have HC0_1 := Aside0.mk hc0_1
 clear hr0_1 hc0_1
 have HR0_2 := Aside0.mk hr0_2
 have HC0_2 := Aside0.mk hc0_2
 clear hr0_2 hc0_2
 have HB := Aside0.mk (Below.refl w.heap.size w)
 have H : (impl_used.l0 k 0 l0_1 (l0_1.length : Int) 0 a0_0 l0_1 l0_2 a0_3) = some r := h
 clear h
 have H' := Aside0.mk H
 clear H
 go_enter Try.func58, Try.ntmps58
 go_wp2_with (first | ((with_reducible refine gate_dst (N := 1) rfl ?_); refine box_event ?hg (N := 1) ?hd (cs := #[.int .i64 a0_0, .slice A0_1 l0_1.length c0_1, .slice A0_2 l0_2.length c0_2, .int .i64 a0_3]) (t := 31) ?hr ?_; (case hd => rfl); (case hg => rfl); (case hr => exact zq2); intro gb328 hg w2 hbox hb; have BK328 := Aside0.mk hbox; have GW328 := Aside0.mk (zq255 : w.heap.size ≤ gb328); have GE328 := Aside0.mk (zq255 : w.heap.size ≤ gb328); replace HB := sB zq3 hb; clear hb hbox hg; obtain ⟨hcz3_0, hcz3_1, hcz3_2, hcz3_3, hfz3_0, hfz3_1, hfz3_2, hfz3_3⟩ := c4 (w := w2) BK328))
 go_loopg [3, 11] k (fun kq v3 v11 w' => ∃ (x3_1 : Int) (x11_1 : Int), v3 = .int .i64 x3_1 ∧ v11 = .int .i64 x11_1 ∧ Aside0 (impl_used.l0 kq x3_1 l0_1 (l0_1.length : Int) x11_1 a0_0 l0_1 l0_2 a0_3 = some r) ∧ Aside0 (kq ≤ k) ∧ Aside0 (w'.heap[gb328]? = some (.cells #[.int .i64 a0_0, (.slice A0_1 l0_1.length c0_1), (.slice A0_2 l0_2.length c0_2), .int .i64 a0_3] 31 (0, 0))) ∧ Aside0 (Below w.heap.size w w'))
 case atStart => exact ⟨(0), (0), zq6, zq6, H', ⟨Nat.le_refl _⟩, ⟨zq248⟩, ⟨zq249⟩⟩
 case round =>
  clear H'
  try clear p2
  try clear hcz3_0
  try clear hcz3_1
  try clear hcz3_2
  try clear hcz3_3
  try clear hfz3_0
  try clear hfz3_1
  try clear hfz3_2
  try clear hfz3_3
  obtain ⟨x3_1, x11_1, rfl, rfl, HA, HK1, BK328, HB⟩ := hrel
  cases gk with
  | zero => exact absurd HA.out (by simp [impl_used.l0])
  | succ k1 =>
   have H := HA.out
   clear HA
   simp only [impl_used.l0] at H
   by_cases c4 : x11_1 < (l0_1.length : Int)
   ·
    rw [if_pos c4] at H
    have c4b0 := decide_eq_true c4
    clear c4
    by_cases c5 : 0 ≤ x11_1
    ·
     rw [if_pos c5] at H
     have c5b0 := decide_eq_true c5
     clear c5
     by_cases c6 : x11_1 < (l0_1.length : Int)
     ·
      rw [if_pos c6] at H
      have c6b0 := decide_eq_true c6
      clear c6
      have H' := Aside0.mk H
      clear H
      have p329 : 0 ≤ (x11_1 : Int) := of_decide_eq_true zq7
      have q329 : x11_1 < (l0_1.length : Int) := of_decide_eq_true zq7
      obtain ⟨ad329, e329, hx329_0, hx329_1⟩ := at_T66 HR0_1.out x11_1 p329 q329
      cases e329
      replace hx329_0 := (HB.out.cell (World.block_lt_of_cell? w _ hx329_0)).trans hx329_0
      replace hx329_1 := (HB.out.cell (World.block_lt_of_cell? w _ hx329_1)).trans hx329_1
      replace p329 := eq_true p329
      replace q329 := eq_true q329
      go_wp2_with (first | ((with_reducible refine gate_dst (N := 5) rfl ?_); refine box_event ?hg (N := 5) ?hd (cs := #[.string (⟨#[]⟩ : ByteArray), .string (⟨#[]⟩ : ByteArray)]) (t := 66) ?hr ?_; (case hd => rfl); (case hg => rfl); (case hr => exact zq2); intro gb330 hg w7 hbox hb; have BK330 := Aside0.mk hbox; have GW330 := Aside0.mk (zq310 : w.heap.size ≤ gb330); have GE330 := Aside0.mk (zq310 : w.heap.size ≤ gb330); replace HB := sB zq249 hb; have NB328_330 := Aside0.mk (by rw [hg]; exact Nat.ne_of_lt (blk_lt (g := gb328) (o := .cells #[.int .i64 a0_0, .slice (some ad329) l0_1.length c0_1, .slice A0_2 l0_2.length c0_2, .int .i64 a0_3] 31 (0, 0)) zq248) : gb328 ≠ gb330); have NB330_328 := Aside0.mk (by rw [hg]; exact Nat.ne_of_gt (blk_lt (g := gb328) (o := .cells #[.int .i64 a0_0, .slice (some ad329) l0_1.length c0_1, .slice A0_2 l0_2.length c0_2, .int .i64 a0_3] 31 (0, 0)) zq248) : gb330 ≠ gb328); replace BK328 := bF BK328 zq248 hb; clear hb hbox hg; have hnb8 := NB330_328.out; have hnc8 := NB328_330.out; obtain ⟨hcz9_0, hcz9_1, hfz9_0, hfz9_1⟩ := c2 (w := w7) BK330))
      go_roundg k1
      case measure => have := HK1.out; omega
      case rel => exact ⟨(wrap64 (x3_1 + (((rd_T66 l0_1 x11_1).f1).size : Int))), (wrap64 (x11_1 + 1)), zq6, zq6, H', ⟨zq9⟩, ⟨by (with_reducible repeat (first | refine blk_drewN ?_ _ | refine blk_drew ?_ | refine blk_alloc ?_ _)); refine blk_far ?_ NB328_330.out _; (with_reducible repeat (first | refine blk_drewN ?_ _ | refine blk_drew ?_ | refine blk_alloc ?_ _)); refine blk_far ?_ NB328_330.out _; (with_reducible repeat (first | refine blk_drewN ?_ _ | refine blk_drew ?_ | refine blk_alloc ?_ _)); exact BK328.out⟩, ⟨by repeat (first | (with_reducible first | exact HB.out | apply below_alloc | apply pw_below_drewN | apply below_drew1 | refine below_set ?_ GE328.out | refine below_set ?_ GE330.out) | exact HB.out)⟩⟩
     exact zq316
    exact zq311
   rw [if_neg c4] at H
   have c4b0 := decide_eq_false c4
   clear c4
   have H' := Aside0.mk H
   clear H
   obtain ⟨hcz10_0, hcz10_1, hcz10_2, hcz10_3, hfz10_0, hfz10_1, hfz10_2, hfz10_3⟩ := c4 (w := wr) BK328
   go_wp2
   go_loopg [3, 24] k1 (fun kq v3 v24 w' => ∃ (x3_2 : Int) (x24_2 : Int), v3 = .int .i64 x3_2 ∧ v24 = .int .i64 x24_2 ∧ Aside0 (impl_used.l1 kq x3_2 l0_2 (l0_2.length : Int) x24_2 = some r) ∧ Aside0 (kq ≤ k1) ∧ Aside0 (w'.heap[gb328]? = some (.cells #[.int .i64 a0_0, (.slice A0_1 l0_1.length c0_1), (.slice A0_2 l0_2.length c0_2), .int .i64 a0_3] 31 (0, 0))) ∧ Aside0 (Below w.heap.size w w'))
   case atStart => exact ⟨(x3_1), (0), zq6, zq6, H', ⟨Nat.le_refl _⟩, ⟨zq248⟩, ⟨zq249⟩⟩
   case round =>
    clear H'
    try clear p2
    try clear p3
    try clear q3
    try clear hx3
    try clear c4
    try clear c4b0
    try clear c5
    try clear c5b0
    try clear c6
    try clear c6b0
    try clear p6
    try clear c8
    try clear hcz10_0
    try clear hcz10_1
    try clear hcz10_2
    try clear hcz10_3
    try clear hcz3_0
    try clear hcz3_1
    try clear hcz3_2
    try clear hcz3_3
    try clear hcz9_0
    try clear hcz9_1
    try clear hfz10_0
    try clear hfz10_1
    try clear hfz10_2
    try clear hfz10_3
    try clear hfz3_0
    try clear hfz3_1
    try clear hfz3_2
    try clear hfz3_3
    try clear hfz9_0
    try clear hfz9_1
    try clear hx329_0
    try clear hx329_1
    try clear p2
    try clear p329
    try clear q329
    obtain ⟨x3_2, x24_2, rfl, rfl, HA, HK2, BK328, HB⟩ := hrel
    cases gk with
    | zero => exact absurd HA.out (by simp [impl_used.l1])
    | succ k2 =>
     have H := HA.out
     clear HA
     simp only [impl_used.l1] at H
     by_cases c11 : x24_2 < (l0_2.length : Int)
     ·
      rw [if_pos c11] at H
      have c11b0 := decide_eq_true c11
      clear c11
      by_cases c12 : 0 ≤ x24_2
      ·
       rw [if_pos c12] at H
       have c12b0 := decide_eq_true c12
       clear c12
       by_cases c13 : x24_2 < (l0_2.length : Int)
       ·
        rw [if_pos c13] at H
        have c13b0 := decide_eq_true c13
        clear c13
        have H' := Aside0.mk H
        clear H
        have p331 : 0 ≤ (x24_2 : Int) := of_decide_eq_true zq7
        have q331 : x24_2 < (l0_2.length : Int) := of_decide_eq_true zq7
        obtain ⟨ad331, e331, hx331_0, hx331_1⟩ := at_T68 HR0_2.out x24_2 p331 q331
        cases e331
        replace hx331_0 := (HB.out.cell (World.block_lt_of_cell? w _ hx331_0)).trans hx331_0
        replace hx331_1 := (HB.out.cell (World.block_lt_of_cell? w _ hx331_1)).trans hx331_1
        replace p331 := eq_true p331
        replace q331 := eq_true q331
        go_wp2_with (first | ((with_reducible refine gate_dst (N := 7) rfl ?_); refine box_event ?hg (N := 7) ?hd (cs := #[.int .i64 0, .string (⟨#[]⟩ : ByteArray)]) (t := 68) ?hr ?_; (case hd => rfl); (case hg => rfl); (case hr => exact zq2); intro gb332 hg w14 hbox hb; have BK332 := Aside0.mk hbox; have GW332 := Aside0.mk (zq310 : w.heap.size ≤ gb332); have GE332 := Aside0.mk (zq310 : w.heap.size ≤ gb332); replace HB := sB zq249 hb; have NB328_332 := Aside0.mk (by rw [hg]; exact Nat.ne_of_lt (blk_lt (g := gb328) (o := .cells #[.int .i64 a0_0, .slice A0_1 l0_1.length c0_1, .slice (some ad331) l0_2.length c0_2, .int .i64 a0_3] 31 (0, 0)) zq248) : gb328 ≠ gb332); have NB332_328 := Aside0.mk (by rw [hg]; exact Nat.ne_of_gt (blk_lt (g := gb328) (o := .cells #[.int .i64 a0_0, .slice A0_1 l0_1.length c0_1, .slice (some ad331) l0_2.length c0_2, .int .i64 a0_3] 31 (0, 0)) zq248) : gb332 ≠ gb328); replace BK328 := bF BK328 zq248 hb; clear hb hbox hg; have hnb15 := NB332_328.out; have hnc15 := NB328_332.out; obtain ⟨hcz16_0, hcz16_1, hfz16_0, hfz16_1⟩ := c2 (w := w14) BK332))
        go_roundg k2
        case measure => have := HK1.out; have := HK2.out; omega
        case rel => exact ⟨(wrap64 (x3_2 + (((rd_T68 l0_2 x24_2).f1).size : Int))), (wrap64 (x24_2 + 1)), zq6, zq6, H', ⟨zq50⟩, ⟨by (with_reducible repeat (first | refine blk_drewN ?_ _ | refine blk_drew ?_ | refine blk_alloc ?_ _)); refine blk_far ?_ NB328_332.out _; (with_reducible repeat (first | refine blk_drewN ?_ _ | refine blk_drew ?_ | refine blk_alloc ?_ _)); refine blk_far ?_ NB328_332.out _; (with_reducible repeat (first | refine blk_drewN ?_ _ | refine blk_drew ?_ | refine blk_alloc ?_ _)); exact BK328.out⟩, ⟨by repeat (first | (with_reducible first | exact HB.out | apply below_alloc | apply pw_below_drewN | apply below_drew1 | refine below_set ?_ GE328.out | refine below_set ?_ GE332.out) | exact HB.out)⟩⟩
       exact zq322
      rw [if_neg c12] at H
      exact absurd H (by simp)
     rw [if_neg c11] at H
     have c11b0 := decide_eq_false c11
     clear c11
     obtain rfl := Option.some.inj H
     go_wp2
     go_ret
     exact ⟨zq4, zq249⟩

/-! ### binary_bigEndian_AppendUint64: function 113 -/
def binary_bigEndian_AppendUint64.f  (l1 : List Int) (a2 : Int) : Option (List Int) := (some (([(a2 / 72057594037927936) % 256, (a2 / 281474976710656) % 256, (a2 / 1099511627776) % 256, (a2 / 4294967296) % 256, (a2 / 16777216) % 256, (a2 / 65536) % 256, (a2 / 256) % 256, (a2) % 256] : List Int) : List Int)).bind fun y334 => (if l1.length + y334.length < 140737488355328 then (some (l1 ++ y334)) else (none))
set_option maxHeartbeats 8000000 in
set_option maxRecDepth 100000 in
theorem binary_bigEndian_AppendUint64.calls  (P1_ : Nat → Prop) (u9000_ : Value) (l1 : List Int) (a2 : Int) (r : List Int) (w0 w : World) (hB : Below w0.heap.size w0 w) (ho1 : Kd.R (Kd.int .u8) 5 w w0.heap.size P1_ u9000_ l1) (h : binary_bigEndian_AppendUint64.f l1 a2 = some r) :
  Calls Try.prog 113 #[.agg #[], u9000_, .int .u64 a2] w fun e w' => ∃ v0_ : Value, e = .returned (v0_) ∧ Kd.R (Kd.int .u8) 5 w' w0.heap.size (fun k_ => (P1_ k_ ∨ w.heap.size ≤ k_)) v0_ r ∧ Below w0.heap.size w0 w' ∧ Kept w w' (fun k_ => P1_ k_) := by
 have hu121 := Try.underlying121
 have HO1 := Aside0.mk (show Kd.R (Kd.int .u8) 5 w w0.heap.size (fun k_ => (P1_ k_ ∨ w.heap.size ≤ k_)) u9000_ l1 from Kd.R_mono ho1 (fun k_ hk => (.inl hk)))
 have HK := Aside0.mk (Kept.refl w (fun k_ => P1_ k_))
 have HW0 := Aside0.mk hB.size
 have HB := Aside0.mk hB
 clear hB
 have H : ((some (([(a2 / 72057594037927936) % 256, (a2 / 281474976710656) % 256, (a2 / 1099511627776) % 256, (a2 / 4294967296) % 256, (a2 / 16777216) % 256, (a2 / 65536) % 256, (a2 / 256) % 256, (a2) % 256] : List Int) : List Int)).bind fun y334 => (if l1.length + y334.length < 140737488355328 then (some (l1 ++ y334)) else (none))) = some r := h
 clear h
 obtain ⟨y334, hy334⟩ : ∃ y_ : List Int, y_ = (([(a2 / 72057594037927936) % 256, (a2 / 281474976710656) % 256, (a2 / 1099511627776) % 256, (a2 / 4294967296) % 256, (a2 / 16777216) % 256, (a2 / 65536) % 256, (a2 / 256) % 256, (a2) % 256] : List Int)) := ⟨_, rfl⟩
 replace H : (if l1.length + y334.length < 140737488355328 then (some (l1 ++ y334)) else (none)) = some r := by first | (rw [hy334]; with_reducible exact H) | (have H2_ := (Option.bind_some _ _).symm.trans H; rw [hy334]; with_reducible exact H2_) | (have H2_ := (Option.bind_some _ _).symm.trans H; with_reducible exact H2_) | with_reducible exact H | (rw [hy334]; exact H) | exact H
 have Ny334 := Aside0.mk hy334
 clear hy334
 by_cases c4 : l1.length + y334.length < 140737488355328
 ·
  rw [if_pos c4] at H
  have LMc4 := Aside0.mk c4
  clear c4
  obtain ⟨y337, hy337⟩ : ∃ y_ : List Int, y_ = (l1 ++ y334) := ⟨_, rfl⟩
  replace H : (some y337) = some r := by first | (rw [hy337]; with_reducible exact H) | (have H2_ := (Option.bind_some _ _).symm.trans H; rw [hy337]; with_reducible exact H2_) | (have H2_ := (Option.bind_some _ _).symm.trans H; with_reducible exact H2_) | with_reducible exact H | (rw [hy337]; exact H) | exact H
  have Ny337 := Aside0.mk hy337
  clear hy337
  obtain rfl := Option.some.inj H
  go_enter Try.func113, Try.ntmps113
  go_wp2_with (first | ((with_reducible refine gate_dst (N := 3) rfl ?_); refine box_event ?hg (N := 3) ?hd (cs := #[]) (t := 121) ?hr ?_; (case hd => rfl); (case hg => rfl); (case hr => exact zq2); intro gb333 hg w5 hbox hb; replace HO1 := rB zq250 hb; have BK333 := Aside0.mk hbox; have GW333 := Aside0.mk (by rw [hg]; exact (by first | exact HK.out.1 | exact (show Kept w _ (fun k_ => P1_ k_) from by repeat (first | (with_reducible first | exact HK.out | apply Kept.alloc | apply Kept.drewN | apply Kept.drew) | exact HK.out)).1) : w.heap.size ≤ gb333); replace HK := Aside0.mk (Kept.below (S := (fun k_ => P1_ k_)) zq204 hb); have GE333 := Aside0.mk (zq255 : w0.heap.size ≤ gb333); replace HB := sB zq3 hb; clear hb hbox hg) | ((with_reducible refine gate_dst (N := 31) rfl ?_); refine Kd.R_lit (Kd.int .u8) _ 5 ?hg (N := 31) ?hd (xs := ([(a2 / 72057594037927936) % 256, (a2 / 281474976710656) % 256, (a2 / 1099511627776) % 256, (a2 / 4294967296) % 256, (a2 / 16777216) % 256, (a2 / 65536) % 256, (a2 / 256) % 256, (a2) % 256] : List Int)) (inner := [.int .u8 ((a2 / 72057594037927936) % 256), .int .u8 ((a2 / 281474976710656) % 256), .int .u8 ((a2 / 1099511627776) % 256), .int .u8 ((a2 / 4294967296) % 256), .int .u8 ((a2 / 16777216) % 256), .int .u8 ((a2 / 65536) % 256), .int .u8 ((a2 / 256) % 256), .int .u8 ((a2) % 256)]) (ok := fun _ => True) (okp := fun _ => True) ?hr ?hp (fun _ hk => hk) trivial (Below.refl _ _) (Nat.le_refl _) (by simp) ?_; (case hd => rfl); (case hg => rfl); (case hr => exact zq2); (case hp => exact (Reps.one (show Kd.M (Kd.int .u8) _ _ _ ((a2 / 72057594037927936) % 256) [.int .u8 ((a2 / 72057594037927936) % 256)] from rfl) (Reps.one (show Kd.M (Kd.int .u8) _ _ _ ((a2 / 281474976710656) % 256) [.int .u8 ((a2 / 281474976710656) % 256)] from rfl) (Reps.one (show Kd.M (Kd.int .u8) _ _ _ ((a2 / 1099511627776) % 256) [.int .u8 ((a2 / 1099511627776) % 256)] from rfl) (Reps.one (show Kd.M (Kd.int .u8) _ _ _ ((a2 / 4294967296) % 256) [.int .u8 ((a2 / 4294967296) % 256)] from rfl) (Reps.one (show Kd.M (Kd.int .u8) _ _ _ ((a2 / 16777216) % 256) [.int .u8 ((a2 / 16777216) % 256)] from rfl) (Reps.one (show Kd.M (Kd.int .u8) _ _ _ ((a2 / 65536) % 256) [.int .u8 ((a2 / 65536) % 256)] from rfl) (Reps.one (show Kd.M (Kd.int .u8) _ _ _ ((a2 / 256) % 256) [.int .u8 ((a2 / 256) % 256)] from rfl) (Reps.one (show Kd.M (Kd.int .u8) _ _ _ ((a2) % 256) [.int .u8 ((a2) % 256)] from rfl) (Reps.none _ _)))))))))); intro v335 w6 ho7 hb hg_ hnew_; clear hg_ hnew_; (first | rw [← Ny334.out] at ho7 | (simp only [Int.reduceToNat] at ho7; rw [← Ny334.out] at ho7)); have HO336 := Aside0.mk (Kd.R_lower (Kd.R_new' (Kd.R_newM (M := fun k_ => (P1_ k_ ∨ w.heap.size ≤ k_)) ho7 zq251 (fun k_ h_ => .inr h_)) (Kd.R_lt zq250)) (below_size zq252)); replace HO1 := Aside0.mk (Kd.R_elder' zq250 (Kd.R_base ho7) hb); replace BK333 := bF BK333 zq253 hb; replace HK := Aside0.mk (Kept.below (S := (fun k_ => P1_ k_)) zq254 hb); replace HB := sB zq252 hb; clear hb ho7; obtain ⟨Ao9, co9, eo9⟩ := Kd.R_slice HO336.out; subst eo9) | ((with_reducible refine gate_builtin (b := .append) (xs := #[.tmp 7, .tmp 31]) rfl ?_); at_builtin; refine Kd.R_append_rows (Kd.int .u8) (w0 := w0) w0.heap.size rfl (.tmp 7) (.tmp 31) 56 5 (.int .u8 0) 1 rfl Try.underlying56 info5 rfl (by decide) (by omega) u9000_ l1 y334 _ _ _ (fun k_ => (P1_ k_ ∨ w.heap.size ≤ k_) ∧ some k_ ≠ (.slice Ao9 y334.length co9 : Value).ownBlock) (fun _ => False) rfl rfl ?aO ?aR (fun _ _ h => h) (fun _ h => h.elim) ?aF ?aB ?aS ?aL ?_; (case aR => repeat (first | exact (Kd.R_reads' HO336.out).2.2 | (with_reducible refine Kd.C_alloc ?_ _) | (with_reducible refine Kd.C_drewN ?_ _) | (with_reducible refine Kd.C_drew ?_))); (case aB => exact zq252); (case aF => exact (fun k_ hk => ⟨(.inr (Nat.le_trans zq251 hk)), Kd.fresh' (Kd.R_lt (by (with_reducible repeat (first | apply Kd.R_alloc | apply Kd.R_drewN | apply Kd.R_drew)); exact HO336.out)) k_ hk⟩)); (case aO => exact zq250); (case aS => exact (below_size zq252)); (case aL => have := LMc4.out; omega); intro v338 w8 ho hb hg hat; rw [← Ny337.out] at ho; have n0_ := Aside0.mk (blk_grown (g := gb333) (o := .cells #[] 121 (0, 0)) zq253 hg (Kd.R_ne HO1.out BK333.out (by decide))); have n1_ := Aside0.mk (Kd.R_after (ok := (fun k_ => (P1_ k_ ∨ w.heap.size ≤ k_))) (by (with_reducible repeat (first | apply Kd.R_alloc | apply Kd.R_drewN | apply Kd.R_drew)); exact Kd.R_mono HO336.out (fun _ hk => ⟨hk.1.1, hk.2⟩)) hg hat); have n2_ := Aside0.mk (hb); have n3_ := Aside0.mk (Kept.of_grown (S := (fun k_ => P1_ k_)) hg zq254 (fun k_ e_ => (HO1.out.1 k_ e_).1)); have n4_ := Aside0.mk (ho); clear BK333; clear HO336; clear HB; clear HK; clear HO1; have BK333 := n0_; have HO336 := n1_; have HB := n2_; have HK := n3_; have HO339 := n4_; clear n0_ n1_ n2_ n3_ n4_; clear ho hb hg hat))
  go_ret
  exact ⟨_, zq4, by (with_reducible repeat (first | apply Kd.R_alloc | apply Kd.R_drewN | apply Kd.R_drew)); exact Kd.R_mono HO339.out (fun _ hk => hk.1), zq252, zq254⟩
 exact zq317

end Go.Proofs.Ytacaeebjanglgaa.QFnExactAbort
