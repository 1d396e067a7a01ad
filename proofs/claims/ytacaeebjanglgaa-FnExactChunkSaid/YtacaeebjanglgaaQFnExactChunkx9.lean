/- Written by wip/myprint.py of this repo (the kit's print, with additions of this session). -/
import Derived.Test.YtacaeebjanglgaaQFnExactChunkx0
import Derived.Test.YtacaeebjanglgaaQFnExactChunkx7
set_option maxRecDepth 100000
namespace Go.Proofs.Ytacaeebjanglgaa.QFnExactChunk
open Go.RowKit Go.Proofs.YtacaeebjanglgaaW.PrintWords Go.Proofs.YtacaeebjanglgaaW.PrintLast Go.Proofs.YtacaeebjanglgaaW.PrintMore
attribute [local go_sem] max2_int min2_int max_two min_two max_three min_three max_four min_four   -- for this text's walks alone
set_option linter.unusedVariables false
set_option linter.unusedSimpArgs false

/-! ### spec_l6Copy: function 68 -/
def spec_l6Copy.f (a0_0 : Int) (l0_1 : List (S66)) (l0_2 : List (S68)) (a0_3 : Int) : Option (Int × (List (S66)) × (List (S68)) × Int) := (some (([] : List (S66)) : List (S66))).bind fun y290 => (if y290.length + l0_1.length < 4398046511104 then ((some (([] : List (S68)) : List (S68))).bind fun y296 => (if y296.length + l0_2.length < 5864062014805 then (some (a0_0, (y290 ++ l0_1), (y296 ++ l0_2), a0_3)) else (none))) else (none))
set_option maxHeartbeats 8000000 in
set_option maxRecDepth 100000 in
theorem spec_l6Copy.calls (a0_0 : Int) (A0_1 : Option Addr) (c0_1 : Nat) (l0_1 : List (S66)) (A0_2 : Option Addr) (c0_2 : Nat) (l0_2 : List (S68)) (a0_3 : Int) (r1 : Int) (r2 : List (S66)) (r3 : List (S68)) (r4 : Int) (w : World) (hr0_1 : Kd.C k66 w A0_1 l0_1.length l0_1) (hc0_1 : l0_1.length ≤ c0_1) (hr0_2 : Kd.C k68 w A0_2 l0_2.length l0_2) (hc0_2 : l0_2.length ≤ c0_2) (h : spec_l6Copy.f a0_0 l0_1 l0_2 a0_3 = some (r1, r2, r3, r4)) :
  Calls Try.prog 68 #[.agg #[.int .i64 a0_0, .slice A0_1 l0_1.length c0_1, .slice A0_2 l0_2.length c0_2, .int .i64 a0_3]] w fun e w' => ∃ v1_ v2_ : Value, e = .returned (.agg #[.int .i64 r1, v1_, v2_, .int .i64 r4]) ∧ Kd.R k66 66 w' w.heap.size (fun _ => True) v1_ r2 ∧ Kd.R k68 68 w' w.heap.size (fun _ => True) v2_ r3 ∧ Below w.heap.size w w' := by
 have hu31 := Try.underlying31
 have HR0_1 := Aside0.mk hr0_1
 have HC0_1 := Aside0.mk hc0_1
 clear hr0_1 hc0_1
 have HR0_2 := Aside0.mk hr0_2
 have HC0_2 := Aside0.mk hc0_2
 clear hr0_2 hc0_2
 have HB := Aside0.mk (Below.refl w.heap.size w)
 have H : ((some (([] : List (S66)) : List (S66))).bind fun y290 => (if y290.length + l0_1.length < 4398046511104 then ((some (([] : List (S68)) : List (S68))).bind fun y296 => (if y296.length + l0_2.length < 5864062014805 then (some (a0_0, (y290 ++ l0_1), (y296 ++ l0_2), a0_3)) else (none))) else (none))) = some (r1, r2, r3, r4) := h
 clear h
 obtain ⟨y290, hy290⟩ : ∃ y_ : List (S66), y_ = (([] : List (S66))) := ⟨_, rfl⟩
 replace H : (if y290.length + l0_1.length < 4398046511104 then ((some (([] : List (S68)) : List (S68))).bind fun y296 => (if y296.length + l0_2.length < 5864062014805 then (some (a0_0, (y290 ++ l0_1), (y296 ++ l0_2), a0_3)) else (none))) else (none)) = some (r1, r2, r3, r4) := by first | (rw [hy290]; with_reducible exact H) | (have H2_ := (Option.bind_some _ _).symm.trans H; rw [hy290]; with_reducible exact H2_) | (have H2_ := (Option.bind_some _ _).symm.trans H; with_reducible exact H2_) | with_reducible exact H | (rw [hy290]; exact H) | exact H
 have Ny290 := Aside0.mk hy290
 clear hy290
 by_cases c2 : y290.length + l0_1.length < 4398046511104
 ·
  rw [if_pos c2] at H
  have LMc2 := Aside0.mk c2
  clear c2
  obtain ⟨y293, hy293⟩ : ∃ y_ : List (S66), y_ = (y290 ++ l0_1) := ⟨_, rfl⟩
  replace H : ((some (([] : List (S68)) : List (S68))).bind fun y296 => (if y296.length + l0_2.length < 5864062014805 then (some (a0_0, y293, (y296 ++ l0_2), a0_3)) else (none))) = some (r1, r2, r3, r4) := by first | (rw [hy293]; with_reducible exact H) | (have H2_ := (Option.bind_some _ _).symm.trans H; rw [hy293]; with_reducible exact H2_) | (have H2_ := (Option.bind_some _ _).symm.trans H; with_reducible exact H2_) | with_reducible exact H | (rw [hy293]; exact H) | exact H
  have Ny293 := Aside0.mk hy293
  clear hy293
  obtain ⟨y296, hy296⟩ : ∃ y_ : List (S68), y_ = (([] : List (S68))) := ⟨_, rfl⟩
  replace H : (if y296.length + l0_2.length < 5864062014805 then (some (a0_0, y293, (y296 ++ l0_2), a0_3)) else (none)) = some (r1, r2, r3, r4) := by first | (rw [hy296]; with_reducible exact H) | (have H2_ := (Option.bind_some _ _).symm.trans H; rw [hy296]; with_reducible exact H2_) | (have H2_ := (Option.bind_some _ _).symm.trans H; with_reducible exact H2_) | with_reducible exact H | (rw [hy296]; exact H) | exact H
  have Ny296 := Aside0.mk hy296
  clear hy296
  by_cases c3 : y296.length + l0_2.length < 5864062014805
  ·
   rw [if_pos c3] at H
   have LMc3 := Aside0.mk c3
   clear c3
   obtain ⟨y299, hy299⟩ : ∃ y_ : List (S68), y_ = (y296 ++ l0_2) := ⟨_, rfl⟩
   replace H : (some (a0_0, y293, y299, a0_3)) = some (r1, r2, r3, r4) := by first | (rw [hy299]; with_reducible exact H) | (have H2_ := (Option.bind_some _ _).symm.trans H; rw [hy299]; with_reducible exact H2_) | (have H2_ := (Option.bind_some _ _).symm.trans H; with_reducible exact H2_) | with_reducible exact H | (rw [hy299]; exact H) | exact H
   have Ny299 := Aside0.mk hy299
   clear hy299
   simp only [Option.some.injEq, Prod.mk.injEq] at H
   obtain ⟨rfl, rfl, rfl, rfl⟩ := H
   go_enter Try.func68, Try.ntmps68
   go_wp2_with (first | ((with_reducible refine gate_dst (N := 1) rfl ?_); refine box_event ?hg (N := 1) ?hd (cs := #[.int .i64 a0_0, .slice A0_1 l0_1.length c0_1, .slice A0_2 l0_2.length c0_2, .int .i64 a0_3]) (t := 31) ?hr ?_; (case hd => rfl); (case hg => rfl); (case hr => exact zq2); intro gb288 hg w4 hbox hb; have BK288 := Aside0.mk hbox; have GW288 := Aside0.mk (zq260 : w.heap.size ≤ gb288); have GE288 := Aside0.mk (zq260 : w.heap.size ≤ gb288); replace HB := sB zq3 hb; clear hb hbox hg) | ((with_reducible refine gate_dst (N := 2) rfl ?_); refine box_event ?hg (N := 2) ?hd (cs := #[.int .i64 0, .slice none 0 0, .slice none 0 0, .int .i64 0]) (t := 31) ?hr ?_; (case hd => rfl); (case hg => rfl); (case hr => exact zq2); intro gb289 hg w5 hbox hb; have BK289 := Aside0.mk hbox; have GW289 := Aside0.mk (by rw [hg]; exact (below_size zq244) : w.heap.size ≤ gb289); have GE289 := Aside0.mk (by rw [hg]; exact (below_size zq244) : w.heap.size ≤ gb289); replace HB := sB zq244 hb; have NB288_289 := Aside0.mk (by rw [hg]; exact Nat.ne_of_lt (blk_lt (g := gb288) (o := .cells #[.int .i64 a0_0, .slice A0_1 l0_1.length c0_1, .slice A0_2 l0_2.length c0_2, .int .i64 a0_3] 31 (0, 0)) zq243) : gb288 ≠ gb289); have NB289_288 := Aside0.mk (by rw [hg]; exact Nat.ne_of_gt (blk_lt (g := gb288) (o := .cells #[.int .i64 a0_0, .slice A0_1 l0_1.length c0_1, .slice A0_2 l0_2.length c0_2, .int .i64 a0_3] 31 (0, 0)) zq243) : gb289 ≠ gb288); replace BK288 := bF BK288 zq243 hb; clear hb hbox hg) | ((with_reducible refine gate_dst (N := 3) rfl ?_); refine Kd.R_lit k66 _ 66 ?hg (N := 3) ?hd (xs := ([] : List (S66))) (inner := []) (ok := fun _ => True) (okp := fun _ => True) ?hr ?hp (fun _ hk => hk) trivial (Below.refl _ _) (Nat.le_refl _) (by simp) ?_; (case hd => rfl); (case hg => rfl); (case hr => exact zq2); (case hp => exact zq55); intro v291 w6 ho7 hb hg_ hnew_; clear hg_ hnew_; (first | rw [← Ny290.out] at ho7 | (simp only [Int.reduceToNat] at ho7; rw [← Ny290.out] at ho7)); have HO292 := Aside0.mk (Kd.R_lower ho7 (below_size zq245)); replace BK288 := bF BK288 zq243 hb; replace BK289 := bF BK289 zq246 hb; replace HB := sB zq245 hb; clear hb ho7; have hnb8 := NB288_289.out; have hnc8 := NB289_288.out; obtain ⟨hcz9_0, hcz9_1, hcz9_2, hcz9_3, hfz9_0, hfz9_1, hfz9_2, hfz9_3⟩ := c4 (w := w6) BK288) | ((with_reducible refine gate_builtin (b := .append) (xs := #[.tmp 3, .tmp 5]) rfl ?_); at_builtin; refine Kd.R_append_rows k66 (w0 := w) w.heap.size rfl (.tmp 3) (.tmp 5) 28 66 (.agg #[(.string ⟨#[]⟩), (.string ⟨#[]⟩)]) 32 rfl Try.underlying28 info66 rfl (by decide) (by omega) v291 y290 l0_1 _ _ _ (fun _ => True) (fun _ => False) rfl rfl ?aO ?aR (fun _ _ h => h) (fun _ h => h.elim) ?aF ?aB ?aS ?aL ?_; (case aR => exact zq11); (case aB => exact zq245); (case aF => exact zq53); (case aO => exact (by (with_reducible repeat (first | apply Kd.R_alloc | apply Kd.R_drewN | apply Kd.R_drew)); exact HO292.out)); (case aS => exact (below_size zq245)); (case aL => have := LMc2.out; omega); intro v294 w10 ho hb hg hat; rw [← Ny293.out] at ho; have n0_ := Aside0.mk (blk_grown (g := gb288) (o := .cells #[.int .i64 a0_0, .slice A0_1 l0_1.length c0_1, .slice A0_2 l0_2.length c0_2, .int .i64 a0_3] 31 (0, 0)) zq243 hg (Kd.R_ne HO292.out BK288.out (by decide))); have n1_ := Aside0.mk (blk_grown (g := gb289) (o := .cells #[.int .i64 0, .slice none 0 0, .slice none 0 0, .int .i64 0] 31 (0, 0)) zq246 hg (Kd.R_ne HO292.out BK289.out (by decide))); have n2_ := Aside0.mk (hb); have n3_ := Aside0.mk (ho); clear BK288; clear BK289; clear HB; clear HO292; have BK288 := n0_; have BK289 := n1_; have HB := n2_; have HO295 := n3_; clear n0_ n1_ n2_ n3_; clear ho hb hg hat; obtain ⟨Ao11, co11, eo11⟩ := Kd.R_slice HO295.out; subst eo11; obtain ⟨hcz12_0, hcz12_1, hcz12_2, hcz12_3, hfz12_0, hfz12_1, hfz12_2, hfz12_3⟩ := c4 (w := w10) BK288) | ((with_reducible refine gate_dst (N := 8) rfl ?_); refine Kd.R_lit k68 _ 68 ?hg (N := 8) ?hd (xs := ([] : List (S68))) (inner := []) (ok := fun _ => True) (okp := fun _ => True) ?hr ?hp (fun _ hk => hk) trivial (Below.refl _ _) (Nat.le_refl _) (by simp) ?_; (case hd => rfl); (case hg => rfl); (case hr => exact zq2); (case hp => exact zq55); intro v297 w13 ho14 hb hg_ hnew_; clear hg_ hnew_; (first | rw [← Ny296.out] at ho14 | (simp only [Int.reduceToNat] at ho14; rw [← Ny296.out] at ho14)); replace HO295 := rB (by (with_reducible repeat (first | apply Kd.R_alloc | apply Kd.R_drewN | apply Kd.R_drew)); exact (Kd.R_mono (Kd.R_far (p := ⟨gb288, 1, none⟩) (Kd.R_types HO295.out BK288.out (by decide)) (fun _ hk => hk.2) (.slice Ao11 y293.length co11)) (fun _ h_ => h_.1))) hb; have HO298 := Aside0.mk (Kd.R_lower ho14 (below_size zq245)); replace BK288 := bB (g := gb288) (o := .cells #[.int .i64 a0_0, .slice Ao11 y293.length co11, .slice A0_2 l0_2.length c0_2, .int .i64 a0_3] 31 (0, 0)) (by (with_reducible repeat (first | refine blk_drewN ?_ _ | refine blk_drew ?_ | refine blk_alloc ?_ _)); refine blk_put (cs := #[.int .i64 a0_0, .slice A0_1 l0_1.length c0_1, .slice A0_2 l0_2.length c0_2, .int .i64 a0_3]) ?_ 1 _ rfl; (with_reducible repeat (first | refine blk_drewN ?_ _ | refine blk_drew ?_ | refine blk_alloc ?_ _)); exact BK288.out) hb; replace BK289 := bF BK289 (by (with_reducible repeat (first | refine blk_drewN ?_ _ | refine blk_drew ?_ | refine blk_alloc ?_ _)); refine blk_far ?_ NB289_288.out _; (with_reducible repeat (first | refine blk_drewN ?_ _ | refine blk_drew ?_ | refine blk_alloc ?_ _)); exact BK289.out) hb; replace HB := sB zq245 hb; clear hb ho14; obtain ⟨hcz15_0, hcz15_1, hcz15_2, hcz15_3, hfz15_0, hfz15_1, hfz15_2, hfz15_3⟩ := c4 (w := w13) BK288) | ((with_reducible refine gate_builtin (b := .append) (xs := #[.tmp 8, .tmp 10]) rfl ?_); at_builtin; refine Kd.R_append_rows k68 (w0 := w) w.heap.size rfl (.tmp 8) (.tmp 10) 29 68 (.agg #[(.int .i64 0), (.string ⟨#[]⟩)]) 24 rfl Try.underlying29 info68 rfl (by decide) (by omega) v297 y296 l0_2 _ _ _ (fun _ => True) (fun _ => False) rfl rfl ?aO ?aR (fun _ _ h => h) (fun _ h => h.elim) ?aF ?aB ?aS ?aL ?_; (case aR => exact zq15); (case aB => exact zq245); (case aF => exact zq53); (case aO => exact zq247); (case aS => exact (below_size zq245)); (case aL => have := LMc3.out; omega); intro v300 w16 ho hb hg hat; rw [← Ny299.out] at ho; have n0_ := Aside0.mk (blk_grown (g := gb288) (o := .cells #[.int .i64 a0_0, .slice Ao11 y293.length co11, .slice A0_2 l0_2.length c0_2, .int .i64 a0_3] 31 (0, 0)) zq243 hg (Kd.R_ne HO298.out BK288.out (by decide))); have n1_ := Aside0.mk (blk_grown (g := gb289) (o := .cells #[.int .i64 0, .slice none 0 0, .slice none 0 0, .int .i64 0] 31 (0, 0)) zq246 hg (Kd.R_ne HO298.out BK289.out (by decide))); have n2_ := Aside0.mk (Kd.R_over' (by (with_reducible repeat (first | apply Kd.R_alloc | apply Kd.R_drewN | apply Kd.R_drew)); exact HO295.out) (Kd.R_typed zq247) (by decide) hg); have n3_ := Aside0.mk (hb); have n4_ := Aside0.mk (ho); clear BK288; clear BK289; clear HO295; clear HB; clear HO298; have BK288 := n0_; have BK289 := n1_; have HO295 := n2_; have HB := n3_; have HO301 := n4_; clear n0_ n1_ n2_ n3_ n4_; clear ho hb hg hat; obtain ⟨Ao17, co17, eo17⟩ := Kd.R_slice HO301.out; subst eo17; obtain ⟨hcz18_0, hcz18_1, hcz18_2, hcz18_3, hfz18_0, hfz18_1, hfz18_2, hfz18_3⟩ := c4 (w := w16) BK288; obtain ⟨hcz19_0, hcz19_1, hcz19_2, hcz19_3, hfz19_0, hfz19_1, hfz19_2, hfz19_3⟩ := c4 (w := w16) BK289))
   refine bodyPost_ret (results_cell_row rfl _ _ gb289 31 #[.int .i64 a0_0, .slice Ao11 y293.length co11, .slice Ao17 y299.length co17, .int .i64 a0_3] (0, 0) _ rfl (by (with_reducible repeat (first | refine blk_drewN ?_ _ | refine blk_drew ?_ | refine blk_alloc ?_ _)); refine blk_put (cs := #[.int .i64 a0_0, .slice Ao11 y293.length co11, .slice Ao17 y299.length co17, .int .i64 0]) ?_ 3 _ rfl; (with_reducible repeat (first | refine blk_drewN ?_ _ | refine blk_drew ?_ | refine blk_alloc ?_ _)); refine blk_put (cs := #[.int .i64 a0_0, .slice Ao11 y293.length co11, .slice none 0 0, .int .i64 0]) ?_ 2 _ rfl; (with_reducible repeat (first | refine blk_drewN ?_ _ | refine blk_drew ?_ | refine blk_alloc ?_ _)); refine blk_put (cs := #[.int .i64 a0_0, .slice none 0 0, .slice none 0 0, .int .i64 0]) ?_ 1 _ rfl; (with_reducible repeat (first | refine blk_drewN ?_ _ | refine blk_drew ?_ | refine blk_alloc ?_ _)); refine blk_put (cs := #[.int .i64 0, .slice none 0 0, .slice none 0 0, .int .i64 0]) ?_ 0 _ rfl; (with_reducible repeat (first | refine blk_drewN ?_ _ | refine blk_drew ?_ | refine blk_alloc ?_ _)); refine blk_far ?_ NB289_288.out _; (with_reducible repeat (first | refine blk_drewN ?_ _ | refine blk_drew ?_ | refine blk_alloc ?_ _)); exact BK289.out) Try.underlying31 rfl (by kernel_rfl)) rfl ?_
   exact ⟨_, _, zq4, by (with_reducible repeat (first | apply Kd.R_alloc | apply Kd.R_drewN | apply Kd.R_drew)); exact Kd.R_mono (Kd.R_far (p := ⟨gb289, 3, none⟩) (Kd.R_far (p := ⟨gb289, 2, none⟩) (Kd.R_far (p := ⟨gb289, 1, none⟩) (Kd.R_far (p := ⟨gb289, 0, none⟩) (Kd.R_far (p := ⟨gb288, 2, none⟩) (Kd.R_types (Kd.R_types HO295.out BK288.out (by decide)) BK289.out (by decide)) (fun _ hk => hk.1.2) (.slice Ao17 y299.length co17)) (fun _ hk => hk.2) (.int .i64 a0_0)) (fun _ hk => hk.2) (.slice Ao11 y293.length co11)) (fun _ hk => hk.2) (.slice Ao17 y299.length co17)) (fun _ hk => hk.2) (.int .i64 a0_3)) (fun _ hk => trivial), by (with_reducible repeat (first | apply Kd.R_alloc | apply Kd.R_drewN | apply Kd.R_drew)); exact Kd.R_mono (Kd.R_far (p := ⟨gb289, 3, none⟩) (Kd.R_far (p := ⟨gb289, 2, none⟩) (Kd.R_far (p := ⟨gb289, 1, none⟩) (Kd.R_far (p := ⟨gb289, 0, none⟩) (Kd.R_far (p := ⟨gb288, 2, none⟩) (Kd.R_types (Kd.R_types HO301.out BK288.out (by decide)) BK289.out (by decide)) (fun _ hk => hk.1.2) (.slice Ao17 y299.length co17)) (fun _ hk => hk.2) (.int .i64 a0_0)) (fun _ hk => hk.2) (.slice Ao11 y293.length co11)) (fun _ hk => hk.2) (.slice Ao17 y299.length co17)) (fun _ hk => hk.2) (.int .i64 a0_3)) (fun _ hk => trivial), zq245⟩
  exact zq326
 exact zq327

/-! ### spec_l6Upload: function 69 -/
def spec_l6Upload.l0 : Nat → Int → Int → Int → List (S66) → List (S68) → Int → Option (Int)
 | 0, _, _, _, _, _, _ => none
 | k + 1, x1, x5, x303000, x303001, x303002, x303003 => if x5 < (x303002.length : Int) then (if 0 ≤ x5 then (if ((rd_T68 x303002 x5).f0) = x1 then (some x5) else (spec_l6Upload.l0 k x1 (wrap64 (x5 + 1)) x303000 x303001 x303002 x303003)) else (none)) else (some (-1))
def spec_l6Upload.f (k : Nat) (a0_0 : Int) (l0_1 : List (S66)) (l0_2 : List (S68)) (a0_3 : Int) (a1 : Int) : Option (Int) := spec_l6Upload.l0 k a1 0 a0_0 l0_1 l0_2 a0_3
theorem spec_l6Upload.mono_l : ∀ k, (∀ y0 y1 y2 y3 y4 y5, LeO (spec_l6Upload.l0 k y0 y1 y2 y3 y4 y5) (spec_l6Upload.l0 (k + 1) y0 y1 y2 y3 y4 y5))
 | 0 => fun _ _ _ _ _ _ r h => by simp [spec_l6Upload.l0] at h
 | k + 1 => by
  have ih0 := spec_l6Upload.mono_l k
  ·
   intro y0 y1 y2 y3 y4 y5
   unfold spec_l6Upload.l0
   repeat' first
   | (with_reducible exact ih0 _ _ _ _ _ _)
   | (with_reducible exact LeO.refl _)
   | (with_reducible exact LeO.none _)
   | (with_reducible refine LeO.ite ?_ ?_)
   | (with_reducible refine LeO.bind ?_ (fun _ => ?_))
   | exact LeO.none _
   | refine LeO.ite ?_ ?_
   | refine LeO.bind ?_ (fun _ => ?_)
theorem spec_l6Upload.mono : ∀ a0 a1 a2 a3 a4 k, LeO (spec_l6Upload.f k a0 a1 a2 a3 a4) (spec_l6Upload.f (k + 1) a0 a1 a2 a3 a4) := by
 intro a0 a1 a2 a3 a4 k
 have ih0 := spec_l6Upload.mono_l k
 unfold spec_l6Upload.f
 repeat' first
   | (with_reducible exact ih0 _ _ _ _ _ _)
   | (with_reducible exact LeO.refl _)
   | (with_reducible exact LeO.none _)
   | (with_reducible refine LeO.ite ?_ ?_)
   | (with_reducible refine LeO.bind ?_ (fun _ => ?_))
   | exact LeO.none _
   | refine LeO.ite ?_ ?_
   | refine LeO.bind ?_ (fun _ => ?_)
set_option maxHeartbeats 8000000 in
set_option maxRecDepth 100000 in
theorem spec_l6Upload.calls (k : Nat) (a0_0 : Int) (A0_1 : Option Addr) (c0_1 : Nat) (l0_1 : List (S66)) (A0_2 : Option Addr) (c0_2 : Nat) (l0_2 : List (S68)) (a0_3 : Int) (a1 : Int) (r : Int) (w : World) (hr0_1 : Kd.C k66 w A0_1 l0_1.length l0_1) (hc0_1 : l0_1.length ≤ c0_1) (hr0_2 : Kd.C k68 w A0_2 l0_2.length l0_2) (hc0_2 : l0_2.length ≤ c0_2) (h : spec_l6Upload.f k a0_0 l0_1 l0_2 a0_3 a1 = some r) :
  Calls Try.prog 69 #[.agg #[.int .i64 a0_0, .slice A0_1 l0_1.length c0_1, .slice A0_2 l0_2.length c0_2, .int .i64 a0_3], .int .i64 a1] w fun e w' => e = .returned (.int .i64 r) ∧ Below w.heap.size w w' := by
 have hu31 := Try.underlying31
 have HR0_1 := Aside0.mk hr0_1
 have HC0_1 := Aside0.mk hc0_1
 clear hr0_1 hc0_1
 have HR0_2 := Aside0.mk hr0_2
 have HC0_2 := Aside0.mk hc0_2
 clear hr0_2 hc0_2
 have HB := Aside0.mk (Below.refl w.heap.size w)
 have H : (spec_l6Upload.l0 k a1 0 a0_0 l0_1 l0_2 a0_3) = some r := h
 clear h
 have H' := Aside0.mk H
 clear H
 go_enter Try.func69, Try.ntmps69
 go_wp2_with (first | ((with_reducible refine gate_dst (N := 2) rfl ?_); refine box_event ?hg (N := 2) ?hd (cs := #[.int .i64 a0_0, .slice A0_1 l0_1.length c0_1, .slice A0_2 l0_2.length c0_2, .int .i64 a0_3]) (t := 31) ?hr ?_; (case hd => rfl); (case hg => rfl); (case hr => exact zq2); intro gb302 hg w3 hbox hb; have BK302 := Aside0.mk hbox; have GW302 := Aside0.mk (zq260 : w.heap.size ≤ gb302); have GE302 := Aside0.mk (zq260 : w.heap.size ≤ gb302); replace HB := sB zq3 hb; clear hb hbox hg))
 go_loopg [5] k (fun kq v5 w' => ∃ (x5_1 : Int), v5 = .int .i64 x5_1 ∧ Aside0 (spec_l6Upload.l0 kq a1 x5_1 a0_0 l0_1 l0_2 a0_3 = some r) ∧ Aside0 (kq ≤ k) ∧ Aside0 (w'.heap[gb302]? = some (.cells #[.int .i64 a0_0, (.slice A0_1 l0_1.length c0_1), (.slice A0_2 l0_2.length c0_2), .int .i64 a0_3] 31 (0, 0))) ∧ Aside0 (Below w.heap.size w w'))
 case atStart => exact ⟨(0), zq6, H', ⟨Nat.le_refl _⟩, ⟨zq248⟩, ⟨zq249⟩⟩
 case round =>
  clear H'
  try clear p2
  obtain ⟨x5_1, rfl, HA, HK1, BK302, HB⟩ := hrel
  cases gk with
  | zero => exact absurd HA.out (by simp [spec_l6Upload.l0])
  | succ k1 =>
   have H := HA.out
   clear HA
   simp only [spec_l6Upload.l0] at H
   by_cases c4 : x5_1 < (l0_2.length : Int)
   ·
    rw [if_pos c4] at H
    have c4b0 := decide_eq_true c4
    clear c4
    by_cases c5 : 0 ≤ x5_1
    ·
     rw [if_pos c5] at H
     have c5b0 := decide_eq_true c5
     clear c5
     by_cases c6 : ((rd_T68 l0_2 x5_1).f0) = a1
     ·
      rw [if_pos c6] at H
      have c6b0 : (((rd_T68 l0_2 x5_1).f0) == a1) = true := beq_iff_eq.mpr c6
      have c6b1 : (((rd_T68 l0_2 x5_1).f0) != a1) = false := bne_eq_false_iff_eq.mpr c6
      clear c6
      obtain rfl := Option.some.inj H
      obtain ⟨hcz7_0, hcz7_1, hcz7_2, hcz7_3, hfz7_0, hfz7_1, hfz7_2, hfz7_3⟩ := c4 (w := wr) BK302
      have p303 : 0 ≤ (x5_1 : Int) := of_decide_eq_true zq7
      have q303 : x5_1 < (l0_2.length : Int) := of_decide_eq_true zq7
      obtain ⟨ad303, e303, hx303_0, hx303_1⟩ := at_T68 HR0_2.out x5_1 p303 q303
      cases e303
      replace hx303_0 := (HB.out.cell (World.block_lt_of_cell? w _ hx303_0)).trans hx303_0
      replace hx303_1 := (HB.out.cell (World.block_lt_of_cell? w _ hx303_1)).trans hx303_1
      replace p303 := eq_true p303
      replace q303 := eq_true q303
      go_wp2
      go_ret
      exact ⟨zq4, zq249⟩
     rw [if_neg c6] at H
     have c6b0 : (((rd_T68 l0_2 x5_1).f0) == a1) = false := beq_eq_false_iff_ne.mpr c6
     have c6b1 : (((rd_T68 l0_2 x5_1).f0) != a1) = true := bne_iff_ne.mpr c6
     have H' := Aside0.mk H
     clear H
     obtain ⟨hcz8_0, hcz8_1, hcz8_2, hcz8_3, hfz8_0, hfz8_1, hfz8_2, hfz8_3⟩ := c4 (w := wr) BK302
     have p303 : 0 ≤ (x5_1 : Int) := of_decide_eq_true zq7
     have q303 : x5_1 < (l0_2.length : Int) := of_decide_eq_true zq7
     obtain ⟨ad303, e303, hx303_0, hx303_1⟩ := at_T68 HR0_2.out x5_1 p303 q303
     cases e303
     replace hx303_0 := (HB.out.cell (World.block_lt_of_cell? w _ hx303_0)).trans hx303_0
     replace hx303_1 := (HB.out.cell (World.block_lt_of_cell? w _ hx303_1)).trans hx303_1
     replace p303 := eq_true p303
     replace q303 := eq_true q303
     go_wp2
     go_roundg k1
     case measure => have := HK1.out; omega
     case rel => exact ⟨(wrap64 (x5_1 + 1)), zq6, H', ⟨zq9⟩, ⟨zq248⟩, ⟨zq249⟩⟩
    exact zq323
   rw [if_neg c4] at H
   have c4b0 := decide_eq_false c4
   clear c4
   obtain rfl := Option.some.inj H
   obtain ⟨hcz9_0, hcz9_1, hcz9_2, hcz9_3, hfz9_0, hfz9_1, hfz9_2, hfz9_3⟩ := c4 (w := wr) BK302
   go_wp2
   go_ret
   exact ⟨zq4, zq249⟩

/-! ### spec_l6Chunk: function 72 -/
def spec_l6Chunk.f (k : Nat) (a0_0 : Int) (l0_1 : List (S66)) (l0_2 : List (S68)) (a0_3 : Int) (a1 : Int) (a2 : Int) (a3 : ByteArray) : Option (Int × (List (S66)) × (List (S68)) × Int × Int) := (spec_l6Copy.f a0_0 l0_1 l0_2 a0_3).bind fun bt306 => ((spec_l6Upload.f k a0_0 l0_1 l0_2 a0_3 a1).bind fun t315 => (if t315 < 0 then (some (bt306.1, bt306.2.1, bt306.2.2.1, bt306.2.2.2, 3)) else (if 0 ≤ t315 then (if t315 < (l0_2.length : Int) then (if a2 = (((rd_T68 l0_2 t315).f1).size : Int) then ((spec_l6Used.f k a0_0 l0_1 l0_2 a0_3).bind fun t317 => (if (wrap64 (t317 + (a3.size : Int))) > a0_0 then (some (bt306.1, bt306.2.1, bt306.2.2.1, bt306.2.2.2, 5)) else (if ((rd_T68 l0_2 t315).f1).size + a3.size ≤ 9223372036854775807 then (if t315 < (bt306.2.2.1.length : Int) then (some (bt306.1, bt306.2.1, (bt306.2.2.1.set (t315 : Int).toNat (⟨(rd_T68 bt306.2.2.1 t315).f0, ((rd_T68 l0_2 t315).f1) ++ a3⟩ : S68)), bt306.2.2.2, 0)) else (none)) else (none)))) else (some (bt306.1, bt306.2.1, bt306.2.2.1, bt306.2.2.2, 4))) else (none)) else (none))))
theorem spec_l6Chunk.mono : ∀ a0 a1 a2 a3 a4 a5 a6 k, LeO (spec_l6Chunk.f k a0 a1 a2 a3 a4 a5 a6) (spec_l6Chunk.f (k + 1) a0 a1 a2 a3 a4 a5 a6) := by
 intro a0 a1 a2 a3 a4 a5 a6 k
 unfold spec_l6Chunk.f
 repeat' first
   | (with_reducible exact spec_l6Upload.mono _ _ _ _ _ _)
   | (with_reducible exact spec_l6Used.mono _ _ _ _ _)
   | (with_reducible exact LeO.refl _)
   | (with_reducible exact LeO.none _)
   | (with_reducible refine LeO.ite ?_ ?_)
   | (with_reducible refine LeO.bind ?_ (fun _ => ?_))
   | exact LeO.none _
   | refine LeO.ite ?_ ?_
   | refine LeO.bind ?_ (fun _ => ?_)
def spec_l6Chunk.T7 : Bool × List (List Nat × List Nat) := (true, [([], []), ([0], [0]), ([], []), ([2], [2]), ([1, 3], [1, 3]), ([], []), ([5], [5]), ([4, 6], [4, 6])])
def spec_l6Chunk.B7 : List Nat := [0, 1, 0, 4, 15, 0, 32, 127]
theorem spec_l6Chunk.tab7 : rtab .any (opsOf Try.f72 7) = spec_l6Chunk.T7 := by kernel_rfl
theorem spec_l6Chunk.bits7 : waitsOk spec_l6Chunk.T7.2 spec_l6Chunk.B7 = true := by kernel_rfl
def spec_l6Chunk.T9 : Bool × List (List Nat × List Nat) := (true, [([], []), ([0], [0]), ([], []), ([], []), ([3], [3]), ([], []), ([4, 5], [4, 5]), ([6], [6]), ([7], [7]), ([], []), ([8, 9], [8, 9]), ([1, 2, 0, 1, 2, 3, 4, 5, 6, 7, 8, 9, 10], [1, 2]), ([11, 0, 1, 2, 3, 4, 5, 6, 7, 8, 9, 10], [11]), ([12, 10, 0, 1, 2, 3, 4, 5, 6, 7, 8, 9, 10], [10, 12])])
def spec_l6Chunk.B9 : List Nat := [0, 1, 0, 0, 8, 0, 56, 120, 248, 0, 1016, 2047, 4095, 8191]
theorem spec_l6Chunk.tab9 : rtab .any (opsOf Try.f72 9) = spec_l6Chunk.T9 := by kernel_rfl
theorem spec_l6Chunk.bits9 : waitsOk spec_l6Chunk.T9.2 spec_l6Chunk.B9 = true := by kernel_rfl
set_option maxHeartbeats 8000000 in
set_option maxRecDepth 100000 in
theorem spec_l6Chunk.calls (k : Nat) (a0_0 : Int) (A0_1 : Option Addr) (c0_1 : Nat) (l0_1 : List (S66)) (A0_2 : Option Addr) (c0_2 : Nat) (l0_2 : List (S68)) (a0_3 : Int) (a1 : Int) (a2 : Int) (a3 : ByteArray) (r1 : Int) (r2 : List (S66)) (r3 : List (S68)) (r4 : Int) (r5 : Int) (w : World) (hr0_1 : Kd.C k66 w A0_1 l0_1.length l0_1) (hc0_1 : l0_1.length ≤ c0_1) (hr0_2 : Kd.C k68 w A0_2 l0_2.length l0_2) (hc0_2 : l0_2.length ≤ c0_2) (h : spec_l6Chunk.f k a0_0 l0_1 l0_2 a0_3 a1 a2 a3 = some (r1, r2, r3, r4, r5)) :
  Calls Try.prog 72 #[.agg #[.int .i64 a0_0, .slice A0_1 l0_1.length c0_1, .slice A0_2 l0_2.length c0_2, .int .i64 a0_3], .int .i64 a1, .int .i64 a2, .string a3] w fun e w' => ∃ v1_ v2_ : Value, e = .returned (.tuple #[.agg #[.int .i64 r1, v1_, v2_, .int .i64 r4], .int .i64 r5]) ∧ Kd.R k66 66 w' w.heap.size (fun _ => True) v1_ r2 ∧ Kd.R k68 68 w' w.heap.size (fun _ => True) v2_ r3 ∧ Below w.heap.size w w' := by
 have hu31 := Try.underlying31
 have HR0_1 := Aside0.mk hr0_1
 have HC0_1 := Aside0.mk hc0_1
 clear hr0_1 hc0_1
 have HR0_2 := Aside0.mk hr0_2
 have HC0_2 := Aside0.mk hc0_2
 clear hr0_2 hc0_2
 have HB := Aside0.mk (Below.refl w.heap.size w)
 have H : ((spec_l6Copy.f a0_0 l0_1 l0_2 a0_3).bind fun bt306 => ((spec_l6Upload.f k a0_0 l0_1 l0_2 a0_3 a1).bind fun t315 => (if t315 < 0 then (some (bt306.1, bt306.2.1, bt306.2.2.1, bt306.2.2.2, 3)) else (if 0 ≤ t315 then (if t315 < (l0_2.length : Int) then (if a2 = (((rd_T68 l0_2 t315).f1).size : Int) then ((spec_l6Used.f k a0_0 l0_1 l0_2 a0_3).bind fun t317 => (if (wrap64 (t317 + (a3.size : Int))) > a0_0 then (some (bt306.1, bt306.2.1, bt306.2.2.1, bt306.2.2.2, 5)) else (if ((rd_T68 l0_2 t315).f1).size + a3.size ≤ 9223372036854775807 then (if t315 < (bt306.2.2.1.length : Int) then (some (bt306.1, bt306.2.1, (bt306.2.2.1.set (t315 : Int).toNat (⟨(rd_T68 bt306.2.2.1 t315).f0, ((rd_T68 l0_2 t315).f1) ++ a3⟩ : S68)), bt306.2.2.2, 0)) else (none)) else (none)))) else (some (bt306.1, bt306.2.1, bt306.2.2.1, bt306.2.2.2, 4))) else (none)) else (none))))) = some (r1, r2, r3, r4, r5) := h
 clear h
 replace H := Option.bind_eq_some_iff.mp H
 obtain ⟨⟨t306, t307, t310, t313⟩, A50, H⟩ := H
 replace H : ((spec_l6Upload.f k a0_0 l0_1 l0_2 a0_3 a1).bind fun t315 => (if t315 < 0 then (some (t306, t307, t310, t313, 3)) else (if 0 ≤ t315 then (if t315 < (l0_2.length : Int) then (if a2 = (((rd_T68 l0_2 t315).f1).size : Int) then ((spec_l6Used.f k a0_0 l0_1 l0_2 a0_3).bind fun t317 => (if (wrap64 (t317 + (a3.size : Int))) > a0_0 then (some (t306, t307, t310, t313, 5)) else (if ((rd_T68 l0_2 t315).f1).size + a3.size ≤ 9223372036854775807 then (if t315 < (t310.length : Int) then (some (t306, t307, (t310.set (t315 : Int).toNat (⟨(rd_T68 t310 t315).f0, ((rd_T68 l0_2 t315).f1) ++ a3⟩ : S68)), t313, 0)) else (none)) else (none)))) else (some (t306, t307, t310, t313, 4))) else (none)) else (none)))) = some (r1, r2, r3, r4, r5) := H
 have A5 := Aside0.mk A50
 clear A50
 replace H := Option.bind_eq_some_iff.mp H
 obtain ⟨t315, A60, H⟩ := H
 replace H : (if t315 < 0 then (some (t306, t307, t310, t313, 3)) else (if 0 ≤ t315 then (if t315 < (l0_2.length : Int) then (if a2 = (((rd_T68 l0_2 t315).f1).size : Int) then ((spec_l6Used.f k a0_0 l0_1 l0_2 a0_3).bind fun t317 => (if (wrap64 (t317 + (a3.size : Int))) > a0_0 then (some (t306, t307, t310, t313, 5)) else (if ((rd_T68 l0_2 t315).f1).size + a3.size ≤ 9223372036854775807 then (if t315 < (t310.length : Int) then (some (t306, t307, (t310.set (t315 : Int).toNat (⟨(rd_T68 t310 t315).f0, ((rd_T68 l0_2 t315).f1) ++ a3⟩ : S68)), t313, 0)) else (none)) else (none)))) else (some (t306, t307, t310, t313, 4))) else (none)) else (none))) = some (r1, r2, r3, r4, r5) := H
 have A6 := Aside0.mk A60
 clear A60
 by_cases c7 : t315 < 0
 ·
  rw [if_pos c7] at H
  have c7b0 := decide_eq_true c7
  clear c7
  simp only [Option.some.injEq, Prod.mk.injEq] at H
  obtain ⟨rfl, rfl, rfl, rfl, rfl⟩ := H
  go_enter Try.func72, Try.ntmps72
  go_wp2_with (first | ((with_reducible refine gate_dst (N := 4) rfl ?_); refine box_event ?hg (N := 4) ?hd (cs := #[.int .i64 a0_0, .slice A0_1 l0_1.length c0_1, .slice A0_2 l0_2.length c0_2, .int .i64 a0_3]) (t := 31) ?hr ?_; (case hd => rfl); (case hg => rfl); (case hr => exact zq2); intro gb304 hg w8 hbox hb; have BK304 := Aside0.mk hbox; have GW304 := Aside0.mk (zq260 : w.heap.size ≤ gb304); have GE304 := Aside0.mk (zq260 : w.heap.size ≤ gb304); replace HB := sB zq3 hb; clear hb hbox hg) | ((with_reducible refine gate_dst (N := 8) rfl ?_); refine box_event ?hg (N := 8) ?hd (cs := #[.int .i64 0, .slice none 0 0, .slice none 0 0, .int .i64 0]) (t := 31) ?hr ?_; (case hd => rfl); (case hg => rfl); (case hr => exact zq2); intro gb305 hg w9 hbox hb; have BK305 := Aside0.mk hbox; have GW305 := Aside0.mk (zq314 : w.heap.size ≤ gb305); have GE305 := Aside0.mk (zq314 : w.heap.size ≤ gb305); replace HB := sB zq251 hb; have NB304_305 := Aside0.mk (zq315 : gb304 ≠ gb305); have NB305_304 := Aside0.mk (zq316 : gb305 ≠ gb304); replace BK304 := bF BK304 zq250 hb; clear hb hbox hg; have hnb10 := NB304_305.out; have hnc10 := NB305_304.out; obtain ⟨hcz11_0, hcz11_1, hcz11_2, hcz11_3, hfz11_0, hfz11_1, hfz11_2, hfz11_3⟩ := c4 (w := w9) BK304) | ((with_reducible refine gC 68 rfl ?_); refine gL 13 Try.func68 #[.agg #[.int .i64 a0_0, .slice A0_1 l0_1.length c0_1, .slice A0_2 l0_2.length c0_2, .int .i64 a0_3]] ?_; (with_reducible refine (spec_l6Copy.calls a0_0 _ _ l0_1 _ _ l0_2 a0_3 t306 t307 t310 t313 _ ?_ ?_ ?_ ?_ A5.out).mono ?_); exact zq11; exact zq12; exact zq15; exact zq16; rintro e w12 ⟨v308, v311, rfl, ho0, ho1, hb⟩; refine ⟨_, rfl, ?_⟩; have HO309 := Aside0.mk (Kd.R_lower ho0 (below_size zq252)); have HO312 := Aside0.mk (Kd.R_lower ho1 (below_size zq252)); replace BK304 := bF BK304 zq250 hb; replace BK305 := bF BK305 zq253 hb; replace HB := sB zq252 hb; clear hb; (try clear ho0); (try clear ho1)) | ((with_reducible refine gate_dst (N := 10) rfl ?_); refine box_event ?hg (N := 10) ?hd (cs := #[.int .i64 0, .slice none 0 0, .slice none 0 0, .int .i64 0]) (t := 31) ?hr ?_; (case hd => rfl); (case hg => rfl); (case hr => exact zq2); intro gb314 hg w13 hbox hb; replace HO309 := rB zq254 hb; replace HO312 := rB zq255 hb; have BK314 := Aside0.mk hbox; have GW314 := Aside0.mk (zq317 : w.heap.size ≤ gb314); have GE314 := Aside0.mk (zq317 : w.heap.size ≤ gb314); replace HB := sB zq252 hb; have NB304_314 := Aside0.mk (zq315 : gb304 ≠ gb314); have NB314_304 := Aside0.mk (zq316 : gb314 ≠ gb304); replace BK304 := bF BK304 zq250 hb; have NB305_314 := Aside0.mk (zq318 : gb305 ≠ gb314); have NB314_305 := Aside0.mk (zq319 : gb314 ≠ gb305); replace BK305 := bF BK305 zq253 hb; clear hb hbox hg; have hnb14 := NB314_304.out; have hnc14 := NB304_314.out; have hnb15 := NB314_305.out; have hnc15 := NB305_314.out; obtain ⟨hcz16_0, hcz16_1, hcz16_2, hcz16_3, hfz16_0, hfz16_1, hfz16_2, hfz16_3⟩ := c4 (w := w13) BK314; obtain ⟨Ao17, co17, eo17⟩ := Kd.R_slice HO309.out; subst eo17; obtain ⟨Ao18, co18, eo18⟩ := Kd.R_slice HO312.out; subst eo18; obtain ⟨hcz19_0, hcz19_1, hcz19_2, hcz19_3, hfz19_0, hfz19_1, hfz19_2, hfz19_3⟩ := c4 (w := w13) BK304) | ((with_reducible refine gC 69 rfl ?_); refine gL 16 Try.func69 #[.agg #[.int .i64 a0_0, .slice A0_1 l0_1.length c0_1, .slice A0_2 l0_2.length c0_2, .int .i64 a0_3], .int .i64 a1] ?_; (with_reducible refine (spec_l6Upload.calls k a0_0 _ _ l0_1 _ _ l0_2 a0_3 a1 t315 _ ?_ ?_ ?_ ?_ A6.out).mono ?_); exact zq320; exact zq12; exact zq321; exact zq16; rintro e w20 ⟨rfl, hb⟩; refine ⟨_, rfl, ?_⟩; replace HO309 := rB (by (with_reducible repeat (first | apply Kd.R_alloc | apply Kd.R_drewN | apply Kd.R_drew)); exact (Kd.R_mono (Kd.R_far (p := ⟨gb314, 3, none⟩) (Kd.R_far (p := ⟨gb314, 2, none⟩) (Kd.R_far (p := ⟨gb314, 1, none⟩) (Kd.R_far (p := ⟨gb314, 0, none⟩) (Kd.R_types HO309.out BK314.out (by decide)) (fun _ hk => hk.2) (.int .i64 t306)) (fun _ hk => hk.2) (.slice Ao17 t307.length co17)) (fun _ hk => hk.2) (.slice Ao18 t310.length co18)) (fun _ hk => hk.2) (.int .i64 t313)) (fun _ h_ => h_.1))) hb; replace HO312 := rB (by (with_reducible repeat (first | apply Kd.R_alloc | apply Kd.R_drewN | apply Kd.R_drew)); exact (Kd.R_mono (Kd.R_far (p := ⟨gb314, 3, none⟩) (Kd.R_far (p := ⟨gb314, 2, none⟩) (Kd.R_far (p := ⟨gb314, 1, none⟩) (Kd.R_far (p := ⟨gb314, 0, none⟩) (Kd.R_types HO312.out BK314.out (by decide)) (fun _ hk => hk.2) (.int .i64 t306)) (fun _ hk => hk.2) (.slice Ao17 t307.length co17)) (fun _ hk => hk.2) (.slice Ao18 t310.length co18)) (fun _ hk => hk.2) (.int .i64 t313)) (fun _ h_ => h_.1))) hb; replace BK304 := bF BK304 zq257 hb; replace BK305 := bF BK305 zq258 hb; replace BK314 := bB (g := gb314) (o := .cells #[.int .i64 t306, .slice Ao17 t307.length co17, .slice Ao18 t310.length co18, .int .i64 t313] 31 (0, 0)) (by (with_reducible repeat (first | refine blk_drewN ?_ _ | refine blk_drew ?_ | refine blk_alloc ?_ _)); refine blk_put (cs := #[.int .i64 t306, .slice Ao17 t307.length co17, .slice Ao18 t310.length co18, .int .i64 0]) ?_ 3 _ rfl; (with_reducible repeat (first | refine blk_drewN ?_ _ | refine blk_drew ?_ | refine blk_alloc ?_ _)); refine blk_put (cs := #[.int .i64 t306, .slice Ao17 t307.length co17, .slice none 0 0, .int .i64 0]) ?_ 2 _ rfl; (with_reducible repeat (first | refine blk_drewN ?_ _ | refine blk_drew ?_ | refine blk_alloc ?_ _)); refine blk_put (cs := #[.int .i64 t306, .slice none 0 0, .slice none 0 0, .int .i64 0]) ?_ 1 _ rfl; (with_reducible repeat (first | refine blk_drewN ?_ _ | refine blk_drew ?_ | refine blk_alloc ?_ _)); refine blk_put (cs := #[.int .i64 0, .slice none 0 0, .slice none 0 0, .int .i64 0]) ?_ 0 _ rfl; (with_reducible repeat (first | refine blk_drewN ?_ _ | refine blk_drew ?_ | refine blk_alloc ?_ _)); exact BK314.out) hb; replace HB := sB zq256 hb; clear hb; obtain ⟨hcz21_0, hcz21_1, hcz21_2, hcz21_3, hfz21_0, hfz21_1, hfz21_2, hfz21_3⟩ := c4 (w := w20) BK314; obtain ⟨hcz22_0, hcz22_1, hcz22_2, hcz22_3, hfz22_0, hfz22_1, hfz22_2, hfz22_3⟩ := c4 (w := w20) BK305))
  refine bodyPost_ret (results_ct rfl _ _ gb305 31 #[.int .i64 t306, .slice Ao17 t307.length co17, .slice Ao18 t310.length co18, .int .i64 t313] (0, 0) _ rfl (by (with_reducible repeat (first | refine blk_drewN ?_ _ | refine blk_drew ?_ | refine blk_alloc ?_ _)); refine blk_put (cs := #[.int .i64 t306, .slice Ao17 t307.length co17, .slice Ao18 t310.length co18, .int .i64 0]) ?_ 3 _ rfl; (with_reducible repeat (first | refine blk_drewN ?_ _ | refine blk_drew ?_ | refine blk_alloc ?_ _)); refine blk_put (cs := #[.int .i64 t306, .slice Ao17 t307.length co17, .slice none 0 0, .int .i64 0]) ?_ 2 _ rfl; (with_reducible repeat (first | refine blk_drewN ?_ _ | refine blk_drew ?_ | refine blk_alloc ?_ _)); refine blk_put (cs := #[.int .i64 t306, .slice none 0 0, .slice none 0 0, .int .i64 0]) ?_ 1 _ rfl; (with_reducible repeat (first | refine blk_drewN ?_ _ | refine blk_drew ?_ | refine blk_alloc ?_ _)); refine blk_put (cs := #[.int .i64 0, .slice none 0 0, .slice none 0 0, .int .i64 0]) ?_ 0 _ rfl; (with_reducible repeat (first | refine blk_drewN ?_ _ | refine blk_drew ?_ | refine blk_alloc ?_ _)); exact BK305.out) Try.underlying31 rfl (by kernel_rfl)) rfl ?_
  exact ⟨_, _, zq4, by (with_reducible repeat (first | apply Kd.R_alloc | apply Kd.R_drewN | apply Kd.R_drew)); exact Kd.R_mono (Kd.R_far (p := ⟨gb305, 3, none⟩) (Kd.R_far (p := ⟨gb305, 2, none⟩) (Kd.R_far (p := ⟨gb305, 1, none⟩) (Kd.R_far (p := ⟨gb305, 0, none⟩) (Kd.R_types HO309.out BK305.out (by decide)) (fun _ hk => hk.2) (.int .i64 t306)) (fun _ hk => hk.2) (.slice Ao17 t307.length co17)) (fun _ hk => hk.2) (.slice Ao18 t310.length co18)) (fun _ hk => hk.2) (.int .i64 t313)) (fun _ hk => trivial), by (with_reducible repeat (first | apply Kd.R_alloc | apply Kd.R_drewN | apply Kd.R_drew)); exact Kd.R_mono (Kd.R_far (p := ⟨gb305, 3, none⟩) (Kd.R_far (p := ⟨gb305, 2, none⟩) (Kd.R_far (p := ⟨gb305, 1, none⟩) (Kd.R_far (p := ⟨gb305, 0, none⟩) (Kd.R_types HO312.out BK305.out (by decide)) (fun _ hk => hk.2) (.int .i64 t306)) (fun _ hk => hk.2) (.slice Ao17 t307.length co17)) (fun _ hk => hk.2) (.slice Ao18 t310.length co18)) (fun _ hk => hk.2) (.int .i64 t313)) (fun _ hk => trivial), zq256⟩
 rw [if_neg c7] at H
 have c7b0 := decide_eq_false c7
 clear c7
 by_cases c23 : 0 ≤ t315
 ·
  rw [if_pos c23] at H
  have c23b0 := decide_eq_true c23
  clear c23
  by_cases c24 : t315 < (l0_2.length : Int)
  ·
   rw [if_pos c24] at H
   have c24b0 := decide_eq_true c24
   clear c24
   by_cases c25 : a2 = (((rd_T68 l0_2 t315).f1).size : Int)
   ·
    rw [if_pos c25] at H
    have c25b0 : (a2 == (((rd_T68 l0_2 t315).f1).size : Int)) = true := beq_iff_eq.mpr c25
    have c25b1 : (a2 != (((rd_T68 l0_2 t315).f1).size : Int)) = false := bne_eq_false_iff_eq.mpr c25
    clear c25
    replace H := Option.bind_eq_some_iff.mp H
    obtain ⟨t317, A260, H⟩ := H
    replace H : (if (wrap64 (t317 + (a3.size : Int))) > a0_0 then (some (t306, t307, t310, t313, 5)) else (if ((rd_T68 l0_2 t315).f1).size + a3.size ≤ 9223372036854775807 then (if t315 < (t310.length : Int) then (some (t306, t307, (t310.set (t315 : Int).toNat (⟨(rd_T68 t310 t315).f0, ((rd_T68 l0_2 t315).f1) ++ a3⟩ : S68)), t313, 0)) else (none)) else (none))) = some (r1, r2, r3, r4, r5) := H
    have A26 := Aside0.mk A260
    clear A260
    by_cases c27 : (wrap64 (t317 + (a3.size : Int))) > a0_0
    ·
     rw [if_pos c27] at H
     have c27b0 : decide (a0_0 < (wrap64 (t317 + (a3.size : Int)))) = true := decide_eq_true c27
     clear c27
     simp only [Option.some.injEq, Prod.mk.injEq] at H
     obtain ⟨rfl, rfl, rfl, rfl, rfl⟩ := H
     go_enter Try.func72, Try.ntmps72
     try go_wp2_with (first | ((with_reducible refine gate_dst (N := 4) rfl ?_); refine box_event ?hg (N := 4) ?hd (cs := #[.int .i64 a0_0, .slice A0_1 l0_1.length c0_1, .slice A0_2 l0_2.length c0_2, .int .i64 a0_3]) (t := 31) ?hr ?_; (case hd => rfl); (case hg => rfl); (case hr => exact zq2); intro gb304 hg w28 hbox hb; have BK304 := Aside0.mk hbox; have GW304 := Aside0.mk (zq260 : w.heap.size ≤ gb304); have GE304 := Aside0.mk (zq260 : w.heap.size ≤ gb304); replace HB := sB zq3 hb; clear hb hbox hg) | ((with_reducible refine gate_dst (N := 8) rfl ?_); refine box_event ?hg (N := 8) ?hd (cs := #[.int .i64 0, .slice none 0 0, .slice none 0 0, .int .i64 0]) (t := 31) ?hr ?_; (case hd => rfl); (case hg => rfl); (case hr => exact zq2); intro gb305 hg w29 hbox hb; have BK305 := Aside0.mk hbox; have GW305 := Aside0.mk (zq314 : w.heap.size ≤ gb305); have GE305 := Aside0.mk (zq314 : w.heap.size ≤ gb305); replace HB := sB zq251 hb; have NB304_305 := Aside0.mk (zq315 : gb304 ≠ gb305); have NB305_304 := Aside0.mk (zq316 : gb305 ≠ gb304); replace BK304 := bF BK304 zq250 hb; clear hb hbox hg; have hnb30 := NB304_305.out; have hnc30 := NB305_304.out; obtain ⟨hcz31_0, hcz31_1, hcz31_2, hcz31_3, hfz31_0, hfz31_1, hfz31_2, hfz31_3⟩ := c4 (w := w29) BK304) | ((with_reducible refine gC 68 rfl ?_); refine gL 13 Try.func68 #[.agg #[.int .i64 a0_0, .slice A0_1 l0_1.length c0_1, .slice A0_2 l0_2.length c0_2, .int .i64 a0_3]] ?_; (with_reducible refine (spec_l6Copy.calls a0_0 _ _ l0_1 _ _ l0_2 a0_3 t306 t307 t310 t313 _ ?_ ?_ ?_ ?_ A5.out).mono ?_); exact zq11; exact zq12; exact zq15; exact zq16; rintro e w32 ⟨v308, v311, rfl, ho0, ho1, hb⟩; refine ⟨_, rfl, ?_⟩; have HO309 := Aside0.mk (Kd.R_lower ho0 (below_size zq252)); have HO312 := Aside0.mk (Kd.R_lower ho1 (below_size zq252)); replace BK304 := bF BK304 zq250 hb; replace BK305 := bF BK305 zq253 hb; replace HB := sB zq252 hb; clear hb; (try clear ho0); (try clear ho1)) | ((with_reducible refine gate_dst (N := 10) rfl ?_); refine box_event ?hg (N := 10) ?hd (cs := #[.int .i64 0, .slice none 0 0, .slice none 0 0, .int .i64 0]) (t := 31) ?hr ?_; (case hd => rfl); (case hg => rfl); (case hr => exact zq2); intro gb314 hg w33 hbox hb; replace HO309 := rB zq254 hb; replace HO312 := rB zq255 hb; have BK314 := Aside0.mk hbox; have GW314 := Aside0.mk (zq317 : w.heap.size ≤ gb314); have GE314 := Aside0.mk (zq317 : w.heap.size ≤ gb314); replace HB := sB zq252 hb; have NB304_314 := Aside0.mk (zq315 : gb304 ≠ gb314); have NB314_304 := Aside0.mk (zq316 : gb314 ≠ gb304); replace BK304 := bF BK304 zq250 hb; have NB305_314 := Aside0.mk (zq318 : gb305 ≠ gb314); have NB314_305 := Aside0.mk (zq319 : gb314 ≠ gb305); replace BK305 := bF BK305 zq253 hb; clear hb hbox hg; have hnb34 := NB314_304.out; have hnc34 := NB304_314.out; have hnb35 := NB314_305.out; have hnc35 := NB305_314.out; obtain ⟨hcz36_0, hcz36_1, hcz36_2, hcz36_3, hfz36_0, hfz36_1, hfz36_2, hfz36_3⟩ := c4 (w := w33) BK314; obtain ⟨Ao37, co37, eo37⟩ := Kd.R_slice HO309.out; subst eo37; obtain ⟨Ao38, co38, eo38⟩ := Kd.R_slice HO312.out; subst eo38; obtain ⟨hcz39_0, hcz39_1, hcz39_2, hcz39_3, hfz39_0, hfz39_1, hfz39_2, hfz39_3⟩ := c4 (w := w33) BK304) | ((with_reducible refine gC 69 rfl ?_); refine gL 16 Try.func69 #[.agg #[.int .i64 a0_0, .slice A0_1 l0_1.length c0_1, .slice A0_2 l0_2.length c0_2, .int .i64 a0_3], .int .i64 a1] ?_; (with_reducible refine (spec_l6Upload.calls k a0_0 _ _ l0_1 _ _ l0_2 a0_3 a1 t315 _ ?_ ?_ ?_ ?_ A6.out).mono ?_); exact zq320; exact zq12; exact zq321; exact zq16; rintro e w40 ⟨rfl, hb⟩; refine ⟨_, rfl, ?_⟩; replace HO309 := rB (by (with_reducible repeat (first | apply Kd.R_alloc | apply Kd.R_drewN | apply Kd.R_drew)); exact (Kd.R_mono (Kd.R_far (p := ⟨gb314, 3, none⟩) (Kd.R_far (p := ⟨gb314, 2, none⟩) (Kd.R_far (p := ⟨gb314, 1, none⟩) (Kd.R_far (p := ⟨gb314, 0, none⟩) (Kd.R_types HO309.out BK314.out (by decide)) (fun _ hk => hk.2) (.int .i64 t306)) (fun _ hk => hk.2) (.slice Ao37 t307.length co37)) (fun _ hk => hk.2) (.slice Ao38 t310.length co38)) (fun _ hk => hk.2) (.int .i64 t313)) (fun _ h_ => h_.1))) hb; replace HO312 := rB (by (with_reducible repeat (first | apply Kd.R_alloc | apply Kd.R_drewN | apply Kd.R_drew)); exact (Kd.R_mono (Kd.R_far (p := ⟨gb314, 3, none⟩) (Kd.R_far (p := ⟨gb314, 2, none⟩) (Kd.R_far (p := ⟨gb314, 1, none⟩) (Kd.R_far (p := ⟨gb314, 0, none⟩) (Kd.R_types HO312.out BK314.out (by decide)) (fun _ hk => hk.2) (.int .i64 t306)) (fun _ hk => hk.2) (.slice Ao37 t307.length co37)) (fun _ hk => hk.2) (.slice Ao38 t310.length co38)) (fun _ hk => hk.2) (.int .i64 t313)) (fun _ h_ => h_.1))) hb; replace BK304 := bF BK304 zq257 hb; replace BK305 := bF BK305 zq258 hb; replace BK314 := bB (g := gb314) (o := .cells #[.int .i64 t306, .slice Ao37 t307.length co37, .slice Ao38 t310.length co38, .int .i64 t313] 31 (0, 0)) (by (with_reducible repeat (first | refine blk_drewN ?_ _ | refine blk_drew ?_ | refine blk_alloc ?_ _)); refine blk_put (cs := #[.int .i64 t306, .slice Ao37 t307.length co37, .slice Ao38 t310.length co38, .int .i64 0]) ?_ 3 _ rfl; (with_reducible repeat (first | refine blk_drewN ?_ _ | refine blk_drew ?_ | refine blk_alloc ?_ _)); refine blk_put (cs := #[.int .i64 t306, .slice Ao37 t307.length co37, .slice none 0 0, .int .i64 0]) ?_ 2 _ rfl; (with_reducible repeat (first | refine blk_drewN ?_ _ | refine blk_drew ?_ | refine blk_alloc ?_ _)); refine blk_put (cs := #[.int .i64 t306, .slice none 0 0, .slice none 0 0, .int .i64 0]) ?_ 1 _ rfl; (with_reducible repeat (first | refine blk_drewN ?_ _ | refine blk_drew ?_ | refine blk_alloc ?_ _)); refine blk_put (cs := #[.int .i64 0, .slice none 0 0, .slice none 0 0, .int .i64 0]) ?_ 0 _ rfl; (with_reducible repeat (first | refine blk_drewN ?_ _ | refine blk_drew ?_ | refine blk_alloc ?_ _)); exact BK314.out) hb; replace HB := sB zq256 hb; clear hb; obtain ⟨hcz41_0, hcz41_1, hcz41_2, hcz41_3, hfz41_0, hfz41_1, hfz41_2, hfz41_3⟩ := c4 (w := w40) BK304; have p316 : 0 ≤ (t315 : Int) := of_decide_eq_true zq7; have q316 : t315 < (l0_2.length : Int) := of_decide_eq_true zq7; obtain ⟨ad316, e316, hx316_0, hx316_1⟩ := at_T68 HR0_2.out t315 p316 q316; cases e316; replace hx316_0 := (HB.out.cell (World.block_lt_of_cell? w _ hx316_0)).trans hx316_0; replace hx316_1 := (HB.out.cell (World.block_lt_of_cell? w _ hx316_1)).trans hx316_1; replace p316 := eq_true p316; replace q316 := eq_true q316))
     replace HO309 := Aside0.mk (Kd.R_drew HO309.out)
     replace HO312 := Aside0.mk (Kd.R_drew HO312.out)
     replace BK304 := Aside0.mk (blk_drew BK304.out)
     replace BK305 := Aside0.mk (blk_drew BK305.out)
     replace BK314 := Aside0.mk (blk_drew BK314.out)
     replace HB := Aside0.mk (below_drew1 HB.out)
     refine start_ (n := 8) (S := fun w' => w'.cell? ⟨gb304, 0, none⟩ = some (.int .i64 a0_0) ∧ w'.cell? ⟨gb304, 1, none⟩ = some (.slice A0_1 l0_1.length c0_1) ∧ w'.cell? ⟨gb304, 2, none⟩ = some (.slice (some ad316) l0_2.length c0_2) ∧ w'.cell? ⟨gb304, 3, none⟩ = some (.int .i64 a0_3)) (ds := []) (bA 8 0) (by kernel_rfl) rfl rfl ⟨(blk_cell BK304.out 0).trans rfl, (blk_cell BK304.out 1).trans rfl, (blk_cell BK304.out 2).trans rfl, (blk_cell BK304.out 3).trans rfl⟩ (fun hHeld => ?_); refine with_tabW spec_l6Chunk.tab7 spec_l6Chunk.bits7 (fun HT_ HW_ => ?_)
     generalize w40.drew = w42 at HO309 HO312 BK304 BK305 BK314 HB hHeld ⊢
     refine pV 2 32 8 4 ?_
     refine pV 3 33 8 12 ?_
     refine pV 5 35 8 44 ?_
     refine tV 0 30 8 45 rfl zq338 ?_
     refine tV 6 36 8 109 rfl zq338 ?_
     refine one_ (i := 1) (N := some 31) (bA 8 111) rfl rfl (one_of HT_.out (by kernel_rfl)) (by decide) (fun K hK => ?_)
     refine goes_ Try.func52 (by kernel_rfl) rfl #[.agg #[.int .i64 a0_0, .slice A0_1 l0_1.length c0_1, .slice (some ad316) l0_2.length c0_2, .int .i64 a0_3]] (by rfl) rfl rfl zq8 ?_
     with_reducible refine (spec_l6Used.calls k a0_0 _ _ l0_1 _ _ l0_2 a0_3 t317 _ ?side1 ?side2 ?side3 ?side4 A26.out).mono ?_
     (case side1 => exact zq11)
     (case side2 => exact zq12)
     (case side3 => exact zq15)
     (case side4 => exact zq16)
     rintro e w43 ⟨rfl, hb⟩
     refine ⟨_, rfl, ?_⟩
     replace HO309 := rB zq254 hb
     replace HO312 := rB zq255 hb
     replace BK304 := bF BK304 zq250 hb
     replace BK305 := bF BK305 zq253 hb
     replace BK314 := bF BK314 zq259 hb
     replace HB := sB zq256 hb
     (try clear hb)
     (try clear hb2)
     (try clear hk)
     (try clear hi)
     refine hK.out _ _ ⟨(blk_cell BK304.out 0).trans rfl, (blk_cell BK304.out 1).trans rfl, (blk_cell BK304.out 2).trans rfl, (blk_cell BK304.out 3).trans rfl⟩ (fun hHeld => ?_)
     clear hK K
     refine norm_ (a' := ?_) ?_ ?_
     rotate_left
     exact zq340
     refine pV 4 34 8 127 ?_
     refine pV 7 37 8 255 ?_
     refine done_ (done_of HT_.out (by kernel_rfl)) ?_
     obtain ⟨hcz44_0, hcz44_1, hcz44_2, hcz44_3, hfz44_0, hfz44_1, hfz44_2, hfz44_3⟩ := c4 (w := w43) BK314
     obtain ⟨hcz45_0, hcz45_1, hcz45_2, hcz45_3, hfz45_0, hfz45_1, hfz45_2, hfz45_3⟩ := c4 (w := w43) BK305
     try go_wp2
     refine bodyPost_ret (results_ct rfl _ _ gb305 31 #[.int .i64 t306, .slice Ao37 t307.length co37, .slice Ao38 t310.length co38, .int .i64 t313] (0, 0) _ rfl (by (with_reducible repeat (first | refine blk_drewN ?_ _ | refine blk_drew ?_ | refine blk_alloc ?_ _)); refine blk_put (cs := #[.int .i64 t306, .slice Ao37 t307.length co37, .slice Ao38 t310.length co38, .int .i64 0]) ?_ 3 _ rfl; (with_reducible repeat (first | refine blk_drewN ?_ _ | refine blk_drew ?_ | refine blk_alloc ?_ _)); refine blk_put (cs := #[.int .i64 t306, .slice Ao37 t307.length co37, .slice none 0 0, .int .i64 0]) ?_ 2 _ rfl; (with_reducible repeat (first | refine blk_drewN ?_ _ | refine blk_drew ?_ | refine blk_alloc ?_ _)); refine blk_put (cs := #[.int .i64 t306, .slice none 0 0, .slice none 0 0, .int .i64 0]) ?_ 1 _ rfl; (with_reducible repeat (first | refine blk_drewN ?_ _ | refine blk_drew ?_ | refine blk_alloc ?_ _)); refine blk_put (cs := #[.int .i64 0, .slice none 0 0, .slice none 0 0, .int .i64 0]) ?_ 0 _ rfl; (with_reducible repeat (first | refine blk_drewN ?_ _ | refine blk_drew ?_ | refine blk_alloc ?_ _)); exact BK305.out) Try.underlying31 rfl (by kernel_rfl)) rfl ?_
     exact ⟨_, _, zq4, by (with_reducible repeat (first | apply Kd.R_alloc | apply Kd.R_drewN | apply Kd.R_drew)); exact Kd.R_mono (Kd.R_far (p := ⟨gb305, 3, none⟩) (Kd.R_far (p := ⟨gb305, 2, none⟩) (Kd.R_far (p := ⟨gb305, 1, none⟩) (Kd.R_far (p := ⟨gb305, 0, none⟩) (Kd.R_types HO309.out BK305.out (by decide)) (fun _ hk => hk.2) (.int .i64 t306)) (fun _ hk => hk.2) (.slice Ao37 t307.length co37)) (fun _ hk => hk.2) (.slice Ao38 t310.length co38)) (fun _ hk => hk.2) (.int .i64 t313)) (fun _ hk => trivial), by (with_reducible repeat (first | apply Kd.R_alloc | apply Kd.R_drewN | apply Kd.R_drew)); exact Kd.R_mono (Kd.R_far (p := ⟨gb305, 3, none⟩) (Kd.R_far (p := ⟨gb305, 2, none⟩) (Kd.R_far (p := ⟨gb305, 1, none⟩) (Kd.R_far (p := ⟨gb305, 0, none⟩) (Kd.R_types HO312.out BK305.out (by decide)) (fun _ hk => hk.2) (.int .i64 t306)) (fun _ hk => hk.2) (.slice Ao37 t307.length co37)) (fun _ hk => hk.2) (.slice Ao38 t310.length co38)) (fun _ hk => hk.2) (.int .i64 t313)) (fun _ hk => trivial), zq256⟩
    rw [if_neg c27] at H
    have c27b0 : decide (a0_0 < (wrap64 (t317 + (a3.size : Int)))) = false := decide_eq_false c27
    clear c27
    by_cases c46 : ((rd_T68 l0_2 t315).f1).size + a3.size ≤ 9223372036854775807
    ·
     rw [if_pos c46] at H
     have c46b0 := eq_true c46
     have c46b1 := decide_eq_true c46
     try have c46b2 : (9223372036854775807 < ((rd_T68 l0_2 t315).f1).size + a3.size) = False := eq_false (Nat.not_lt.2 c46)
     by_cases c47 : t315 < (t310.length : Int)
     ·
      rw [if_pos c47] at H
      have c47b0 := decide_eq_true c47
      clear c47
      obtain ⟨y319, hy319⟩ : ∃ y_ : List (S68), y_ = (t310.set (t315 : Int).toNat (⟨(rd_T68 t310 t315).f0, ((rd_T68 l0_2 t315).f1) ++ a3⟩ : S68)) := ⟨_, rfl⟩
      replace H : (some (t306, t307, y319, t313, 0)) = some (r1, r2, r3, r4, r5) := by first | (rw [hy319]; with_reducible exact H) | (have H2_ := (Option.bind_some _ _).symm.trans H; rw [hy319]; with_reducible exact H2_) | (have H2_ := (Option.bind_some _ _).symm.trans H; with_reducible exact H2_) | with_reducible exact H | (rw [hy319]; exact H) | exact H
      have Ny319 := Aside0.mk hy319
      clear hy319
      simp only [Option.some.injEq, Prod.mk.injEq] at H
      obtain ⟨rfl, rfl, rfl, rfl, rfl⟩ := H
      go_enter Try.func72, Try.ntmps72
      try go_wp2_with (first | ((with_reducible refine gate_dst (N := 4) rfl ?_); refine box_event ?hg (N := 4) ?hd (cs := #[.int .i64 a0_0, .slice A0_1 l0_1.length c0_1, .slice A0_2 l0_2.length c0_2, .int .i64 a0_3]) (t := 31) ?hr ?_; (case hd => rfl); (case hg => rfl); (case hr => exact zq2); intro gb304 hg w49 hbox hb; have BK304 := Aside0.mk hbox; have GW304 := Aside0.mk (zq260 : w.heap.size ≤ gb304); have GE304 := Aside0.mk (zq260 : w.heap.size ≤ gb304); replace HB := sB zq3 hb; clear hb hbox hg) | ((with_reducible refine gate_dst (N := 8) rfl ?_); refine box_event ?hg (N := 8) ?hd (cs := #[.int .i64 0, .slice none 0 0, .slice none 0 0, .int .i64 0]) (t := 31) ?hr ?_; (case hd => rfl); (case hg => rfl); (case hr => exact zq2); intro gb305 hg w50 hbox hb; have BK305 := Aside0.mk hbox; have GW305 := Aside0.mk (zq314 : w.heap.size ≤ gb305); have GE305 := Aside0.mk (zq314 : w.heap.size ≤ gb305); replace HB := sB zq251 hb; have NB304_305 := Aside0.mk (zq315 : gb304 ≠ gb305); have NB305_304 := Aside0.mk (zq316 : gb305 ≠ gb304); replace BK304 := bF BK304 zq250 hb; clear hb hbox hg; have hnb51 := NB304_305.out; have hnc51 := NB305_304.out; obtain ⟨hcz52_0, hcz52_1, hcz52_2, hcz52_3, hfz52_0, hfz52_1, hfz52_2, hfz52_3⟩ := c4 (w := w50) BK304) | ((with_reducible refine gC 68 rfl ?_); refine gL 13 Try.func68 #[.agg #[.int .i64 a0_0, .slice A0_1 l0_1.length c0_1, .slice A0_2 l0_2.length c0_2, .int .i64 a0_3]] ?_; (with_reducible refine (spec_l6Copy.calls a0_0 _ _ l0_1 _ _ l0_2 a0_3 t306 t307 t310 t313 _ ?_ ?_ ?_ ?_ A5.out).mono ?_); exact zq11; exact zq12; exact zq15; exact zq16; rintro e w53 ⟨v308, v311, rfl, ho0, ho1, hb⟩; refine ⟨_, rfl, ?_⟩; have HO309 := Aside0.mk (Kd.R_lower ho0 (below_size zq252)); have HO312 := Aside0.mk (Kd.R_lower ho1 (below_size zq252)); replace BK304 := bF BK304 zq250 hb; replace BK305 := bF BK305 zq253 hb; replace HB := sB zq252 hb; clear hb; (try clear ho0); (try clear ho1)) | ((with_reducible refine gate_dst (N := 10) rfl ?_); refine box_event ?hg (N := 10) ?hd (cs := #[.int .i64 0, .slice none 0 0, .slice none 0 0, .int .i64 0]) (t := 31) ?hr ?_; (case hd => rfl); (case hg => rfl); (case hr => exact zq2); intro gb314 hg w54 hbox hb; replace HO309 := rB zq254 hb; replace HO312 := rB zq255 hb; have BK314 := Aside0.mk hbox; have GW314 := Aside0.mk (zq317 : w.heap.size ≤ gb314); have GE314 := Aside0.mk (zq317 : w.heap.size ≤ gb314); replace HB := sB zq252 hb; have NB304_314 := Aside0.mk (zq315 : gb304 ≠ gb314); have NB314_304 := Aside0.mk (zq316 : gb314 ≠ gb304); replace BK304 := bF BK304 zq250 hb; have NB305_314 := Aside0.mk (zq318 : gb305 ≠ gb314); have NB314_305 := Aside0.mk (zq319 : gb314 ≠ gb305); replace BK305 := bF BK305 zq253 hb; clear hb hbox hg; have hnb55 := NB314_304.out; have hnc55 := NB304_314.out; have hnb56 := NB314_305.out; have hnc56 := NB305_314.out; obtain ⟨hcz57_0, hcz57_1, hcz57_2, hcz57_3, hfz57_0, hfz57_1, hfz57_2, hfz57_3⟩ := c4 (w := w54) BK314; obtain ⟨Ao58, co58, eo58⟩ := Kd.R_slice HO309.out; subst eo58; obtain ⟨Ao59, co59, eo59⟩ := Kd.R_slice HO312.out; subst eo59; obtain ⟨hcz60_0, hcz60_1, hcz60_2, hcz60_3, hfz60_0, hfz60_1, hfz60_2, hfz60_3⟩ := c4 (w := w54) BK304) | ((with_reducible refine gC 69 rfl ?_); refine gL 16 Try.func69 #[.agg #[.int .i64 a0_0, .slice A0_1 l0_1.length c0_1, .slice A0_2 l0_2.length c0_2, .int .i64 a0_3], .int .i64 a1] ?_; (with_reducible refine (spec_l6Upload.calls k a0_0 _ _ l0_1 _ _ l0_2 a0_3 a1 t315 _ ?_ ?_ ?_ ?_ A6.out).mono ?_); exact zq320; exact zq12; exact zq321; exact zq16; rintro e w61 ⟨rfl, hb⟩; refine ⟨_, rfl, ?_⟩; replace HO309 := rB (by (with_reducible repeat (first | apply Kd.R_alloc | apply Kd.R_drewN | apply Kd.R_drew)); exact (Kd.R_mono (Kd.R_far (p := ⟨gb314, 3, none⟩) (Kd.R_far (p := ⟨gb314, 2, none⟩) (Kd.R_far (p := ⟨gb314, 1, none⟩) (Kd.R_far (p := ⟨gb314, 0, none⟩) (Kd.R_types HO309.out BK314.out (by decide)) (fun _ hk => hk.2) (.int .i64 t306)) (fun _ hk => hk.2) (.slice Ao58 t307.length co58)) (fun _ hk => hk.2) (.slice Ao59 t310.length co59)) (fun _ hk => hk.2) (.int .i64 t313)) (fun _ h_ => h_.1))) hb; replace HO312 := rB (by (with_reducible repeat (first | apply Kd.R_alloc | apply Kd.R_drewN | apply Kd.R_drew)); exact (Kd.R_mono (Kd.R_far (p := ⟨gb314, 3, none⟩) (Kd.R_far (p := ⟨gb314, 2, none⟩) (Kd.R_far (p := ⟨gb314, 1, none⟩) (Kd.R_far (p := ⟨gb314, 0, none⟩) (Kd.R_types HO312.out BK314.out (by decide)) (fun _ hk => hk.2) (.int .i64 t306)) (fun _ hk => hk.2) (.slice Ao58 t307.length co58)) (fun _ hk => hk.2) (.slice Ao59 t310.length co59)) (fun _ hk => hk.2) (.int .i64 t313)) (fun _ h_ => h_.1))) hb; replace BK304 := bF BK304 zq257 hb; replace BK305 := bF BK305 zq258 hb; replace BK314 := bB (g := gb314) (o := .cells #[.int .i64 t306, .slice Ao58 t307.length co58, .slice Ao59 t310.length co59, .int .i64 t313] 31 (0, 0)) (by (with_reducible repeat (first | refine blk_drewN ?_ _ | refine blk_drew ?_ | refine blk_alloc ?_ _)); refine blk_put (cs := #[.int .i64 t306, .slice Ao58 t307.length co58, .slice Ao59 t310.length co59, .int .i64 0]) ?_ 3 _ rfl; (with_reducible repeat (first | refine blk_drewN ?_ _ | refine blk_drew ?_ | refine blk_alloc ?_ _)); refine blk_put (cs := #[.int .i64 t306, .slice Ao58 t307.length co58, .slice none 0 0, .int .i64 0]) ?_ 2 _ rfl; (with_reducible repeat (first | refine blk_drewN ?_ _ | refine blk_drew ?_ | refine blk_alloc ?_ _)); refine blk_put (cs := #[.int .i64 t306, .slice none 0 0, .slice none 0 0, .int .i64 0]) ?_ 1 _ rfl; (with_reducible repeat (first | refine blk_drewN ?_ _ | refine blk_drew ?_ | refine blk_alloc ?_ _)); refine blk_put (cs := #[.int .i64 0, .slice none 0 0, .slice none 0 0, .int .i64 0]) ?_ 0 _ rfl; (with_reducible repeat (first | refine blk_drewN ?_ _ | refine blk_drew ?_ | refine blk_alloc ?_ _)); exact BK314.out) hb; replace HB := sB zq256 hb; clear hb; obtain ⟨hcz62_0, hcz62_1, hcz62_2, hcz62_3, hfz62_0, hfz62_1, hfz62_2, hfz62_3⟩ := c4 (w := w61) BK304; have p316 : 0 ≤ (t315 : Int) := of_decide_eq_true zq7; have q316 : t315 < (l0_2.length : Int) := of_decide_eq_true zq7; obtain ⟨ad316, e316, hx316_0, hx316_1⟩ := at_T68 HR0_2.out t315 p316 q316; cases e316; replace hx316_0 := (HB.out.cell (World.block_lt_of_cell? w _ hx316_0)).trans hx316_0; replace hx316_1 := (HB.out.cell (World.block_lt_of_cell? w _ hx316_1)).trans hx316_1; replace p316 := eq_true p316; replace q316 := eq_true q316))
      replace HO309 := Aside0.mk (Kd.R_drew HO309.out)
      replace HO312 := Aside0.mk (Kd.R_drew HO312.out)
      replace BK304 := Aside0.mk (blk_drew BK304.out)
      replace BK305 := Aside0.mk (blk_drew BK305.out)
      replace BK314 := Aside0.mk (blk_drew BK314.out)
      replace HB := Aside0.mk (below_drew1 HB.out)
      refine start_ (n := 8) (S := fun w' => w'.cell? ⟨gb304, 0, none⟩ = some (.int .i64 a0_0) ∧ w'.cell? ⟨gb304, 1, none⟩ = some (.slice A0_1 l0_1.length c0_1) ∧ w'.cell? ⟨gb304, 2, none⟩ = some (.slice (some ad316) l0_2.length c0_2) ∧ w'.cell? ⟨gb304, 3, none⟩ = some (.int .i64 a0_3)) (ds := []) (bA 8 0) (by kernel_rfl) rfl rfl ⟨(blk_cell BK304.out 0).trans rfl, (blk_cell BK304.out 1).trans rfl, (blk_cell BK304.out 2).trans rfl, (blk_cell BK304.out 3).trans rfl⟩ (fun hHeld => ?_); refine with_tabW spec_l6Chunk.tab7 spec_l6Chunk.bits7 (fun HT_ HW_ => ?_)
      generalize w61.drew = w63 at HO309 HO312 BK304 BK305 BK314 HB hHeld ⊢
      refine pV 2 32 8 4 ?_
      refine pV 3 33 8 12 ?_
      refine pV 5 35 8 44 ?_
      refine tV 0 30 8 45 rfl zq338 ?_
      refine tV 6 36 8 109 rfl zq338 ?_
      refine one_ (i := 1) (N := some 31) (bA 8 111) rfl rfl (one_of HT_.out (by kernel_rfl)) (by decide) (fun K hK => ?_)
      refine goes_ Try.func52 (by kernel_rfl) rfl #[.agg #[.int .i64 a0_0, .slice A0_1 l0_1.length c0_1, .slice (some ad316) l0_2.length c0_2, .int .i64 a0_3]] (by rfl) rfl rfl zq8 ?_
      with_reducible refine (spec_l6Used.calls k a0_0 _ _ l0_1 _ _ l0_2 a0_3 t317 _ ?side1 ?side2 ?side3 ?side4 A26.out).mono ?_
      (case side1 => exact zq11)
      (case side2 => exact zq12)
      (case side3 => exact zq15)
      (case side4 => exact zq16)
      rintro e w64 ⟨rfl, hb⟩
      refine ⟨_, rfl, ?_⟩
      replace HO309 := rB zq254 hb
      replace HO312 := rB zq255 hb
      replace BK304 := bF BK304 zq250 hb
      replace BK305 := bF BK305 zq253 hb
      replace BK314 := bF BK314 zq259 hb
      replace HB := sB zq256 hb
      (try clear hb)
      (try clear hb2)
      (try clear hk)
      (try clear hi)
      refine hK.out _ _ ⟨(blk_cell BK304.out 0).trans rfl, (blk_cell BK304.out 1).trans rfl, (blk_cell BK304.out 2).trans rfl, (blk_cell BK304.out 3).trans rfl⟩ (fun hHeld => ?_)
      clear hK K
      refine norm_ (a' := ?_) ?_ ?_
      rotate_left
      exact zq340
      refine pV 4 34 8 127 ?_
      refine pV 7 37 8 255 ?_
      refine done_ (done_of HT_.out (by kernel_rfl)) ?_
      try go_wp2
      replace HO309 := Aside0.mk (Kd.R_drew HO309.out)
      replace HO312 := Aside0.mk (Kd.R_drew HO312.out)
      replace BK304 := Aside0.mk (blk_drew BK304.out)
      replace BK305 := Aside0.mk (blk_drew BK305.out)
      replace BK314 := Aside0.mk (blk_drew BK314.out)
      replace HB := Aside0.mk (below_drew1 HB.out)
      have p318 : 0 ≤ (t315 : Int) := of_decide_eq_true zq7
      have q318 : t315 < (l0_2.length : Int) := of_decide_eq_true zq7
      obtain ⟨ad318, e318, hx318_0, hx318_1⟩ := at_T68 HR0_2.out t315 p318 q318
      have hw318_1 := hx318_1
      have hw318_0 := hx318_0
      obtain rfl : ad316 = ad318 := (by injection e318)
      replace hx318_0 := (HB.out.cell (World.block_lt_of_cell? w _ hx318_0)).trans hx318_0
      replace hx318_1 := (HB.out.cell (World.block_lt_of_cell? w _ hx318_1)).trans hx318_1
      replace p318 := eq_true p318
      replace q318 := eq_true q318
      have p48 : 0 ≤ (t315 : Int) := of_decide_eq_true zq7
      have q48 : (t315 : Int) < ((t310.length : Int) : Int) := of_decide_eq_true zq7
      obtain ⟨go48, co48, eo48, gb48, gl48, cl48, HG48⟩ := Kd.R_form HO312.out (by omega)
      (first | cases eo48 | (injection eo48 with ea_ en_ ec_; (first | subst ea_ | (injection ea_ with ea_; subst ea_)); subst ec_; clear en_))
      have GB48 := Aside0.mk gb48
      have GG48 := Aside0.mk HG48
      clear gb48 gl48 HG48
      obtain ⟨ce48, hcl48, hM48, hcc48, hfr48⟩ := Kd.R_elem HO312.out z68 (t315 : Int) p48 q48
      obtain rfl := k68_openM hM48
      have hx48_0 : World.cell? _ ⟨go48, (t315 : Int).toNat * 2, none⟩ = some (.int .i64 ((rd_T68 t310 t315).f0)) := hcc48 0 _ rfl
      have hx48_1 : World.cell? _ ⟨go48, (t315 : Int).toNat * 2 + 1, none⟩ = some (.string ((rd_T68 t310 t315).f1)) := hcc48 1 _ rfl
      have hf48_0 : World.frozen? _ ⟨go48, (t315 : Int).toNat * 2, none⟩ = false := (hfr48 0 (by decide))
      have hf48_1 : World.frozen? _ ⟨go48, (t315 : Int).toNat * 2 + 1, none⟩ = false := (hfr48 1 (by decide))
      clear hcl48 hcc48 hfr48 hM48
      replace p48 := eq_true p48
      replace q48 := eq_true q48
      obtain ⟨ce66, hcl66, hM66, hcc66, hfr66⟩ := Kd.R_elem HO312.out z68 (t315 : Int) (of_decide_eq_true zq7) zq322
      obtain rfl := k68_openM hM66
      have HP66 := (Kd.R_seg HO312.out (t315 : Int) (of_decide_eq_true zq7) zq322 (seg := [.string (((rd_T68 l0_2 t315).f1) ++ a3)]) (j := 1) hcl66 hcc66 (show 2 ≤ 2 from by decide) (x' := (⟨(rd_T68 t310 t315).f0, ((rd_T68 l0_2 t315).f1) ++ a3⟩ : S68)) (k68_mkM _ _ _ (⟨(rd_T68 t310 t315).f0, ((rd_T68 l0_2 t315).f1) ++ a3⟩ : S68) ) (fun _ hk => hk)).1
      rw [← Ny319.out] at HP66
      have HQ66 := Aside0.mk HP66
      clear hcl66 hcc66 hfr66 hM66 HP66
      refine start_ (n := 14) (S := fun w' => w'.cell? ⟨gb314, 0, none⟩ = some (.int .i64 t306) ∧ w'.cell? ⟨gb314, 1, none⟩ = some (.slice Ao58 t307.length co58) ∧ w'.cell? ⟨gb314, 2, none⟩ = some (.slice (some ⟨go48, 0, none⟩) t310.length co59) ∧ w'.cell? ⟨gb314, 3, none⟩ = some (.int .i64 t313) ∧ w'.cell? ⟨gb304, 0, none⟩ = some (.int .i64 a0_0) ∧ w'.cell? ⟨gb304, 1, none⟩ = some (.slice A0_1 l0_1.length c0_1) ∧ w'.cell? ⟨gb304, 2, none⟩ = some (.slice (some ad316) l0_2.length c0_2) ∧ w'.cell? ⟨gb304, 3, none⟩ = some (.int .i64 a0_3) ∧ w'.cell? (ad316.add ((t315).toNat * 2)) = some (.int .i64 ((rd_T68 l0_2 t315).f0)) ∧ w'.cell? ⟨(ad316.add ((t315).toNat * 2)).block, (ad316.add ((t315).toNat * 2)).off + 1, none⟩ = some (.string ((rd_T68 l0_2 t315).f1))) (ds := [13]) (bA 14 0) (by kernel_rfl) rfl rfl ⟨(blk_cell BK314.out 0).trans rfl, (blk_cell BK314.out 1).trans rfl, (blk_cell BK314.out 2).trans rfl, (blk_cell BK314.out 3).trans rfl, (blk_cell BK304.out 0).trans rfl, (blk_cell BK304.out 1).trans rfl, (blk_cell BK304.out 2).trans rfl, (blk_cell BK304.out 3).trans rfl, ((HB.out.cell (World.block_lt_of_cell? w _ hw318_0)).trans hw318_0), ((HB.out.cell (World.block_lt_of_cell? w _ hw318_1)).trans hw318_1)⟩ (fun hHeld => ?_); refine with_tabW spec_l6Chunk.tab9 spec_l6Chunk.bits9 (fun HT_ HW_ => ?_)
      generalize w64.drew = w65 at HO309 HO312 BK304 BK305 BK314 HB GG48 HQ66 hf48_0 hf48_1 hx318_0 hx318_1 hx48_0 hx48_1 hHeld ⊢
      refine pV 0 39 14 1 ?_
      refine pV 2 41 14 5 ?_
      refine pV 3 42 14 13 ?_
      refine pV 5 44 14 45 ?_
      refine pV 9 48 14 557 ?_
      refine tV 1 40 14 559 rfl zq349 ?_
      refine tV 4 43 14 575 rfl zq349 ?_
      refine pV 6 45 14 639 ?_
      refine pV 7 46 14 767 ?_
      refine tV 8 47 14 1023 rfl zq349 ?_
      refine pV 10 49 14 2047 ?_
      refine pV 11 50 14 4095 ?_
      refine pV 12 51 14 8191 ?_
      refine last_ (i := 13) (N := none) (bA 14 16383) rfl rfl (one_of HT_.out (by kernel_rfl)) (by decide) (fun K hK => ?_)
      refine skip_ (w1 := ?_) (by rfl) rfl ?_ ?_
      rotate_left
      ·
       go_simp
       rfl
      refine hK.out _ _ ?_
      clear hK K
      refine done_ (done_of HT_.out (by kernel_rfl)) ?_
      have n0_ : Aside0 (Kd.R k66 66 (w65.setCell ⟨go48, (t315 : Int).toNat * 2 + 1, none⟩ (.string (((rd_T68 l0_2 t315).f1) ++ a3))) w.heap.size (fun _ => True) (.slice Ao58 t307.length co58) t307) := ⟨by (with_reducible repeat (first | apply Kd.R_alloc | apply Kd.R_drewN | apply Kd.R_drew)); exact Kd.R_mono (Kd.R_far (p := ⟨go48, (t315 : Int).toNat * 2 + 1, none⟩) (Kd.R_types HO309.out (GG48.out.plain (by decide)) (by decide)) (fun _ hk => hk.2) (.string (((rd_T68 l0_2 t315).f1) ++ a3))) (fun _ hk => trivial)⟩
      have n1_ : Aside0 (Kd.R k68 68 (w65.setCell ⟨go48, (t315 : Int).toNat * 2 + 1, none⟩ (.string (((rd_T68 l0_2 t315).f1) ++ a3))) w.heap.size (fun _ => True) (.slice (some ⟨go48, 0, none⟩) t310.length co59) y319) := ⟨by (with_reducible repeat (first | apply Kd.R_alloc | apply Kd.R_drewN | apply Kd.R_drew)); exact HQ66.out⟩
      have n2_ : Aside0 ((w65.setCell ⟨go48, (t315 : Int).toNat * 2 + 1, none⟩ (.string (((rd_T68 l0_2 t315).f1) ++ a3))).heap[gb304]? = some (.cells #[.int .i64 a0_0, .slice A0_1 l0_1.length c0_1, .slice (some ad316) l0_2.length c0_2, .int .i64 a0_3] 31 (0, 0))) := ⟨by (with_reducible repeat (first | refine blk_drewN ?_ _ | refine blk_drew ?_ | refine blk_alloc ?_ _)); refine blk_far ?_ (by have h_ := Kd.R_ne HO312.out BK304.out (by decide); intro e_; exact h_ (by rw [e_]; rfl)) _; (with_reducible repeat (first | refine blk_drewN ?_ _ | refine blk_drew ?_ | refine blk_alloc ?_ _)); exact BK304.out⟩
      have n3_ : Aside0 ((w65.setCell ⟨go48, (t315 : Int).toNat * 2 + 1, none⟩ (.string (((rd_T68 l0_2 t315).f1) ++ a3))).heap[gb305]? = some (.cells #[.int .i64 0, .slice none 0 0, .slice none 0 0, .int .i64 0] 31 (0, 0))) := ⟨by (with_reducible repeat (first | refine blk_drewN ?_ _ | refine blk_drew ?_ | refine blk_alloc ?_ _)); refine blk_far ?_ (by have h_ := Kd.R_ne HO312.out BK305.out (by decide); intro e_; exact h_ (by rw [e_]; rfl)) _; (with_reducible repeat (first | refine blk_drewN ?_ _ | refine blk_drew ?_ | refine blk_alloc ?_ _)); exact BK305.out⟩
      have n4_ : Aside0 ((w65.setCell ⟨go48, (t315 : Int).toNat * 2 + 1, none⟩ (.string (((rd_T68 l0_2 t315).f1) ++ a3))).heap[gb314]? = some (.cells #[.int .i64 t306, .slice Ao58 t307.length co58, .slice (some ⟨go48, 0, none⟩) t310.length co59, .int .i64 t313] 31 (0, 0))) := ⟨by (with_reducible repeat (first | refine blk_drewN ?_ _ | refine blk_drew ?_ | refine blk_alloc ?_ _)); refine blk_far ?_ (by have h_ := Kd.R_ne HO312.out BK314.out (by decide); intro e_; exact h_ (by rw [e_]; rfl)) _; (with_reducible repeat (first | refine blk_drewN ?_ _ | refine blk_drew ?_ | refine blk_alloc ?_ _)); exact BK314.out⟩
      have n5_ : Aside0 (Below w.heap.size w (w65.setCell ⟨go48, (t315 : Int).toNat * 2 + 1, none⟩ (.string (((rd_T68 l0_2 t315).f1) ++ a3)))) := ⟨by repeat (first | (with_reducible first | exact HB.out | apply below_alloc | apply pw_below_drewN | apply below_drew1 | refine below_set ?_ GB48.out | refine below_set ?_ GE304.out | refine below_set ?_ GE305.out | refine below_set ?_ GE314.out) | exact HB.out)⟩
      (try clear HO309)
      (try clear HO312)
      (try clear BK304)
      (try clear BK305)
      (try clear BK314)
      (try clear HB)
      generalize (w65.setCell ⟨go48, (t315 : Int).toNat * 2 + 1, none⟩ (.string (((rd_T68 l0_2 t315).f1) ++ a3))) = w67 at n0_ n1_ n2_ n3_ n4_ n5_ ⊢
      have HO309 := n0_
      have HO312 := n1_
      have BK304 := n2_
      have BK305 := n3_
      have BK314 := n4_
      have HB := n5_
      clear n0_ n1_ n2_ n3_ n4_ n5_
      obtain ⟨hcz68_0, hcz68_1, hcz68_2, hcz68_3, hfz68_0, hfz68_1, hfz68_2, hfz68_3⟩ := c4 (w := w67) BK314
      obtain ⟨hcz69_0, hcz69_1, hcz69_2, hcz69_3, hfz69_0, hfz69_1, hfz69_2, hfz69_3⟩ := c4 (w := w67) BK305
      try go_wp2
      refine bodyPost_ret (results_ct rfl _ _ gb305 31 #[.int .i64 t306, .slice Ao58 t307.length co58, .slice (some ⟨go48, 0, none⟩) t310.length co59, .int .i64 t313] (0, 0) _ rfl (by (with_reducible repeat (first | refine blk_drewN ?_ _ | refine blk_drew ?_ | refine blk_alloc ?_ _)); refine blk_put (cs := #[.int .i64 t306, .slice Ao58 t307.length co58, .slice (some ⟨go48, 0, none⟩) t310.length co59, .int .i64 0]) ?_ 3 _ rfl; (with_reducible repeat (first | refine blk_drewN ?_ _ | refine blk_drew ?_ | refine blk_alloc ?_ _)); refine blk_put (cs := #[.int .i64 t306, .slice Ao58 t307.length co58, .slice none 0 0, .int .i64 0]) ?_ 2 _ rfl; (with_reducible repeat (first | refine blk_drewN ?_ _ | refine blk_drew ?_ | refine blk_alloc ?_ _)); refine blk_put (cs := #[.int .i64 t306, .slice none 0 0, .slice none 0 0, .int .i64 0]) ?_ 1 _ rfl; (with_reducible repeat (first | refine blk_drewN ?_ _ | refine blk_drew ?_ | refine blk_alloc ?_ _)); refine blk_put (cs := #[.int .i64 0, .slice none 0 0, .slice none 0 0, .int .i64 0]) ?_ 0 _ rfl; (with_reducible repeat (first | refine blk_drewN ?_ _ | refine blk_drew ?_ | refine blk_alloc ?_ _)); exact BK305.out) Try.underlying31 rfl (by kernel_rfl)) rfl ?_
      exact ⟨_, _, zq4, by (with_reducible repeat (first | apply Kd.R_alloc | apply Kd.R_drewN | apply Kd.R_drew)); exact Kd.R_mono (Kd.R_far (p := ⟨gb305, 3, none⟩) (Kd.R_far (p := ⟨gb305, 2, none⟩) (Kd.R_far (p := ⟨gb305, 1, none⟩) (Kd.R_far (p := ⟨gb305, 0, none⟩) (Kd.R_types HO309.out BK305.out (by decide)) (fun _ hk => hk.2) (.int .i64 t306)) (fun _ hk => hk.2) (.slice Ao58 t307.length co58)) (fun _ hk => hk.2) (.slice (some ⟨go48, 0, none⟩) t310.length co59)) (fun _ hk => hk.2) (.int .i64 t313)) (fun _ hk => trivial), by (with_reducible repeat (first | apply Kd.R_alloc | apply Kd.R_drewN | apply Kd.R_drew)); exact Kd.R_mono (Kd.R_far (p := ⟨gb305, 3, none⟩) (Kd.R_far (p := ⟨gb305, 2, none⟩) (Kd.R_far (p := ⟨gb305, 1, none⟩) (Kd.R_far (p := ⟨gb305, 0, none⟩) (Kd.R_types HO312.out BK305.out (by decide)) (fun _ hk => hk.2) (.int .i64 t306)) (fun _ hk => hk.2) (.slice Ao58 t307.length co58)) (fun _ hk => hk.2) (.slice (some ⟨go48, 0, none⟩) t310.length co59)) (fun _ hk => hk.2) (.int .i64 t313)) (fun _ hk => trivial), zq256⟩
     rw [if_neg c47] at H
     exact absurd H (by simp)
    rw [if_neg c46] at H
    exact absurd H (by simp)
   rw [if_neg c25] at H
   have c25b0 : (a2 == (((rd_T68 l0_2 t315).f1).size : Int)) = false := beq_eq_false_iff_ne.mpr c25
   have c25b1 : (a2 != (((rd_T68 l0_2 t315).f1).size : Int)) = true := bne_iff_ne.mpr c25
   simp only [Option.some.injEq, Prod.mk.injEq] at H
   obtain ⟨rfl, rfl, rfl, rfl, rfl⟩ := H
   go_enter Try.func72, Try.ntmps72
   go_wp2_with (first | ((with_reducible refine gate_dst (N := 4) rfl ?_); refine box_event ?hg (N := 4) ?hd (cs := #[.int .i64 a0_0, .slice A0_1 l0_1.length c0_1, .slice A0_2 l0_2.length c0_2, .int .i64 a0_3]) (t := 31) ?hr ?_; (case hd => rfl); (case hg => rfl); (case hr => exact zq2); intro gb304 hg w70 hbox hb; have BK304 := Aside0.mk hbox; have GW304 := Aside0.mk (zq260 : w.heap.size ≤ gb304); have GE304 := Aside0.mk (zq260 : w.heap.size ≤ gb304); replace HB := sB zq3 hb; clear hb hbox hg) | ((with_reducible refine gate_dst (N := 8) rfl ?_); refine box_event ?hg (N := 8) ?hd (cs := #[.int .i64 0, .slice none 0 0, .slice none 0 0, .int .i64 0]) (t := 31) ?hr ?_; (case hd => rfl); (case hg => rfl); (case hr => exact zq2); intro gb305 hg w71 hbox hb; have BK305 := Aside0.mk hbox; have GW305 := Aside0.mk (zq314 : w.heap.size ≤ gb305); have GE305 := Aside0.mk (zq314 : w.heap.size ≤ gb305); replace HB := sB zq251 hb; have NB304_305 := Aside0.mk (zq315 : gb304 ≠ gb305); have NB305_304 := Aside0.mk (zq316 : gb305 ≠ gb304); replace BK304 := bF BK304 zq250 hb; clear hb hbox hg; have hnb72 := NB304_305.out; have hnc72 := NB305_304.out; obtain ⟨hcz73_0, hcz73_1, hcz73_2, hcz73_3, hfz73_0, hfz73_1, hfz73_2, hfz73_3⟩ := c4 (w := w71) BK304) | ((with_reducible refine gC 68 rfl ?_); refine gL 13 Try.func68 #[.agg #[.int .i64 a0_0, .slice A0_1 l0_1.length c0_1, .slice A0_2 l0_2.length c0_2, .int .i64 a0_3]] ?_; (with_reducible refine (spec_l6Copy.calls a0_0 _ _ l0_1 _ _ l0_2 a0_3 t306 t307 t310 t313 _ ?_ ?_ ?_ ?_ A5.out).mono ?_); exact zq11; exact zq12; exact zq15; exact zq16; rintro e w74 ⟨v308, v311, rfl, ho0, ho1, hb⟩; refine ⟨_, rfl, ?_⟩; have HO309 := Aside0.mk (Kd.R_lower ho0 (below_size zq252)); have HO312 := Aside0.mk (Kd.R_lower ho1 (below_size zq252)); replace BK304 := bF BK304 zq250 hb; replace BK305 := bF BK305 zq253 hb; replace HB := sB zq252 hb; clear hb; (try clear ho0); (try clear ho1)) | ((with_reducible refine gate_dst (N := 10) rfl ?_); refine box_event ?hg (N := 10) ?hd (cs := #[.int .i64 0, .slice none 0 0, .slice none 0 0, .int .i64 0]) (t := 31) ?hr ?_; (case hd => rfl); (case hg => rfl); (case hr => exact zq2); intro gb314 hg w75 hbox hb; replace HO309 := rB zq254 hb; replace HO312 := rB zq255 hb; have BK314 := Aside0.mk hbox; have GW314 := Aside0.mk (zq317 : w.heap.size ≤ gb314); have GE314 := Aside0.mk (zq317 : w.heap.size ≤ gb314); replace HB := sB zq252 hb; have NB304_314 := Aside0.mk (zq315 : gb304 ≠ gb314); have NB314_304 := Aside0.mk (zq316 : gb314 ≠ gb304); replace BK304 := bF BK304 zq250 hb; have NB305_314 := Aside0.mk (zq318 : gb305 ≠ gb314); have NB314_305 := Aside0.mk (zq319 : gb314 ≠ gb305); replace BK305 := bF BK305 zq253 hb; clear hb hbox hg; have hnb76 := NB314_304.out; have hnc76 := NB304_314.out; have hnb77 := NB314_305.out; have hnc77 := NB305_314.out; obtain ⟨hcz78_0, hcz78_1, hcz78_2, hcz78_3, hfz78_0, hfz78_1, hfz78_2, hfz78_3⟩ := c4 (w := w75) BK314; obtain ⟨Ao79, co79, eo79⟩ := Kd.R_slice HO309.out; subst eo79; obtain ⟨Ao80, co80, eo80⟩ := Kd.R_slice HO312.out; subst eo80; obtain ⟨hcz81_0, hcz81_1, hcz81_2, hcz81_3, hfz81_0, hfz81_1, hfz81_2, hfz81_3⟩ := c4 (w := w75) BK304) | ((with_reducible refine gC 69 rfl ?_); refine gL 16 Try.func69 #[.agg #[.int .i64 a0_0, .slice A0_1 l0_1.length c0_1, .slice A0_2 l0_2.length c0_2, .int .i64 a0_3], .int .i64 a1] ?_; (with_reducible refine (spec_l6Upload.calls k a0_0 _ _ l0_1 _ _ l0_2 a0_3 a1 t315 _ ?_ ?_ ?_ ?_ A6.out).mono ?_); exact zq320; exact zq12; exact zq321; exact zq16; rintro e w82 ⟨rfl, hb⟩; refine ⟨_, rfl, ?_⟩; replace HO309 := rB (by (with_reducible repeat (first | apply Kd.R_alloc | apply Kd.R_drewN | apply Kd.R_drew)); exact (Kd.R_mono (Kd.R_far (p := ⟨gb314, 3, none⟩) (Kd.R_far (p := ⟨gb314, 2, none⟩) (Kd.R_far (p := ⟨gb314, 1, none⟩) (Kd.R_far (p := ⟨gb314, 0, none⟩) (Kd.R_types HO309.out BK314.out (by decide)) (fun _ hk => hk.2) (.int .i64 t306)) (fun _ hk => hk.2) (.slice Ao79 t307.length co79)) (fun _ hk => hk.2) (.slice Ao80 t310.length co80)) (fun _ hk => hk.2) (.int .i64 t313)) (fun _ h_ => h_.1))) hb; replace HO312 := rB (by (with_reducible repeat (first | apply Kd.R_alloc | apply Kd.R_drewN | apply Kd.R_drew)); exact (Kd.R_mono (Kd.R_far (p := ⟨gb314, 3, none⟩) (Kd.R_far (p := ⟨gb314, 2, none⟩) (Kd.R_far (p := ⟨gb314, 1, none⟩) (Kd.R_far (p := ⟨gb314, 0, none⟩) (Kd.R_types HO312.out BK314.out (by decide)) (fun _ hk => hk.2) (.int .i64 t306)) (fun _ hk => hk.2) (.slice Ao79 t307.length co79)) (fun _ hk => hk.2) (.slice Ao80 t310.length co80)) (fun _ hk => hk.2) (.int .i64 t313)) (fun _ h_ => h_.1))) hb; replace BK304 := bF BK304 zq257 hb; replace BK305 := bF BK305 zq258 hb; replace BK314 := bB (g := gb314) (o := .cells #[.int .i64 t306, .slice Ao79 t307.length co79, .slice Ao80 t310.length co80, .int .i64 t313] 31 (0, 0)) (by (with_reducible repeat (first | refine blk_drewN ?_ _ | refine blk_drew ?_ | refine blk_alloc ?_ _)); refine blk_put (cs := #[.int .i64 t306, .slice Ao79 t307.length co79, .slice Ao80 t310.length co80, .int .i64 0]) ?_ 3 _ rfl; (with_reducible repeat (first | refine blk_drewN ?_ _ | refine blk_drew ?_ | refine blk_alloc ?_ _)); refine blk_put (cs := #[.int .i64 t306, .slice Ao79 t307.length co79, .slice none 0 0, .int .i64 0]) ?_ 2 _ rfl; (with_reducible repeat (first | refine blk_drewN ?_ _ | refine blk_drew ?_ | refine blk_alloc ?_ _)); refine blk_put (cs := #[.int .i64 t306, .slice none 0 0, .slice none 0 0, .int .i64 0]) ?_ 1 _ rfl; (with_reducible repeat (first | refine blk_drewN ?_ _ | refine blk_drew ?_ | refine blk_alloc ?_ _)); refine blk_put (cs := #[.int .i64 0, .slice none 0 0, .slice none 0 0, .int .i64 0]) ?_ 0 _ rfl; (with_reducible repeat (first | refine blk_drewN ?_ _ | refine blk_drew ?_ | refine blk_alloc ?_ _)); exact BK314.out) hb; replace HB := sB zq256 hb; clear hb; obtain ⟨hcz83_0, hcz83_1, hcz83_2, hcz83_3, hfz83_0, hfz83_1, hfz83_2, hfz83_3⟩ := c4 (w := w82) BK304; have p316 : 0 ≤ (t315 : Int) := of_decide_eq_true zq7; have q316 : t315 < (l0_2.length : Int) := of_decide_eq_true zq7; obtain ⟨ad316, e316, hx316_0, hx316_1⟩ := at_T68 HR0_2.out t315 p316 q316; cases e316; replace hx316_0 := (HB.out.cell (World.block_lt_of_cell? w _ hx316_0)).trans hx316_0; replace hx316_1 := (HB.out.cell (World.block_lt_of_cell? w _ hx316_1)).trans hx316_1; replace p316 := eq_true p316; replace q316 := eq_true q316; obtain ⟨hcz84_0, hcz84_1, hcz84_2, hcz84_3, hfz84_0, hfz84_1, hfz84_2, hfz84_3⟩ := c4 (w := w82) BK314; obtain ⟨hcz85_0, hcz85_1, hcz85_2, hcz85_3, hfz85_0, hfz85_1, hfz85_2, hfz85_3⟩ := c4 (w := w82) BK305))
   refine bodyPost_ret (results_ct rfl _ _ gb305 31 #[.int .i64 t306, .slice Ao79 t307.length co79, .slice Ao80 t310.length co80, .int .i64 t313] (0, 0) _ rfl (by (with_reducible repeat (first | refine blk_drewN ?_ _ | refine blk_drew ?_ | refine blk_alloc ?_ _)); refine blk_put (cs := #[.int .i64 t306, .slice Ao79 t307.length co79, .slice Ao80 t310.length co80, .int .i64 0]) ?_ 3 _ rfl; (with_reducible repeat (first | refine blk_drewN ?_ _ | refine blk_drew ?_ | refine blk_alloc ?_ _)); refine blk_put (cs := #[.int .i64 t306, .slice Ao79 t307.length co79, .slice none 0 0, .int .i64 0]) ?_ 2 _ rfl; (with_reducible repeat (first | refine blk_drewN ?_ _ | refine blk_drew ?_ | refine blk_alloc ?_ _)); refine blk_put (cs := #[.int .i64 t306, .slice none 0 0, .slice none 0 0, .int .i64 0]) ?_ 1 _ rfl; (with_reducible repeat (first | refine blk_drewN ?_ _ | refine blk_drew ?_ | refine blk_alloc ?_ _)); refine blk_put (cs := #[.int .i64 0, .slice none 0 0, .slice none 0 0, .int .i64 0]) ?_ 0 _ rfl; (with_reducible repeat (first | refine blk_drewN ?_ _ | refine blk_drew ?_ | refine blk_alloc ?_ _)); exact BK305.out) Try.underlying31 rfl (by kernel_rfl)) rfl ?_
   exact ⟨_, _, zq4, by (with_reducible repeat (first | apply Kd.R_alloc | apply Kd.R_drewN | apply Kd.R_drew)); exact Kd.R_mono (Kd.R_far (p := ⟨gb305, 3, none⟩) (Kd.R_far (p := ⟨gb305, 2, none⟩) (Kd.R_far (p := ⟨gb305, 1, none⟩) (Kd.R_far (p := ⟨gb305, 0, none⟩) (Kd.R_types HO309.out BK305.out (by decide)) (fun _ hk => hk.2) (.int .i64 t306)) (fun _ hk => hk.2) (.slice Ao79 t307.length co79)) (fun _ hk => hk.2) (.slice Ao80 t310.length co80)) (fun _ hk => hk.2) (.int .i64 t313)) (fun _ hk => trivial), by (with_reducible repeat (first | apply Kd.R_alloc | apply Kd.R_drewN | apply Kd.R_drew)); exact Kd.R_mono (Kd.R_far (p := ⟨gb305, 3, none⟩) (Kd.R_far (p := ⟨gb305, 2, none⟩) (Kd.R_far (p := ⟨gb305, 1, none⟩) (Kd.R_far (p := ⟨gb305, 0, none⟩) (Kd.R_types HO312.out BK305.out (by decide)) (fun _ hk => hk.2) (.int .i64 t306)) (fun _ hk => hk.2) (.slice Ao79 t307.length co79)) (fun _ hk => hk.2) (.slice Ao80 t310.length co80)) (fun _ hk => hk.2) (.int .i64 t313)) (fun _ hk => trivial), zq256⟩
  rw [if_neg c24] at H
  exact absurd H (by simp)
 rw [if_neg c23] at H
 exact absurd H (by simp)

end Go.Proofs.Ytacaeebjanglgaa.QFnExactChunk
