/- Written by wip/myprint.py of this repo (the kit's print, with additions of this session). -/
import Derived.Test.YtklaigmpceacaaaQFnExactTakex0
set_option maxRecDepth 100000
namespace Go.Proofs.Ytklaigmpceacaaa.QFnExactTake
open Go.RowKit Go.Proofs.YtklaigmpceacaaaW.PrintWords Go.Proofs.YtklaigmpceacaaaW.PrintLast Go.Proofs.YtklaigmpceacaaaW.PrintMore
attribute [local go_sem] max2_int min2_int max_two min_two max_three min_three max_four min_four   -- for this text's walks alone
set_option linter.unusedVariables false
set_option linter.unusedSimpArgs false

/-! ### spec_l8Copy: function 39 -/
def spec_l8Copy.f (a0_0 : Int) (l0_1 : List (S39)) : Option (Int × (List (S39))) := (some (([] : List (S39)) : List (S39))).bind fun y117 => (if y117.length + l0_1.length < 3518437208883 then (some (a0_0, (y117 ++ l0_1))) else (none))
set_option maxHeartbeats 8000000 in
set_option maxRecDepth 100000 in
theorem spec_l8Copy.calls (a0_0 : Int) (A0_1 : Option Addr) (c0_1 : Nat) (l0_1 : List (S39)) (r1 : Int) (r2 : List (S39)) (w : World) (hr0_1 : Kd.C k39 w A0_1 l0_1.length l0_1) (hc0_1 : l0_1.length ≤ c0_1) (h : spec_l8Copy.f a0_0 l0_1 = some (r1, r2)) :
  Calls Try.prog 39 #[.agg #[.int .i64 a0_0, .slice A0_1 l0_1.length c0_1]] w fun e w' => ∃ v1_ : Value, e = .returned (.agg #[.int .i64 r1, v1_]) ∧ Kd.R k39 39 w' w.heap.size (fun _ => True) v1_ r2 ∧ Below w.heap.size w w' := by
 have hu37 := Try.underlying37
 have HR0_1 := Aside0.mk hr0_1
 have HC0_1 := Aside0.mk hc0_1
 clear hr0_1 hc0_1
 have HB := Aside0.mk (Below.refl w.heap.size w)
 have H : ((some (([] : List (S39)) : List (S39))).bind fun y117 => (if y117.length + l0_1.length < 3518437208883 then (some (a0_0, (y117 ++ l0_1))) else (none))) = some (r1, r2) := h
 clear h
 obtain ⟨y117, hy117⟩ : ∃ y_ : List (S39), y_ = (([] : List (S39))) := ⟨_, rfl⟩
 replace H : (if y117.length + l0_1.length < 3518437208883 then (some (a0_0, (y117 ++ l0_1))) else (none)) = some (r1, r2) := by first | (rw [hy117]; with_reducible exact H) | (have H2_ := (Option.bind_some _ _).symm.trans H; rw [hy117]; with_reducible exact H2_) | (have H2_ := (Option.bind_some _ _).symm.trans H; with_reducible exact H2_) | with_reducible exact H | (rw [hy117]; exact H) | exact H
 have Ny117 := Aside0.mk hy117
 clear hy117
 by_cases c2 : y117.length + l0_1.length < 3518437208883
 ·
  rw [if_pos c2] at H
  have LMc2 := Aside0.mk c2
  clear c2
  obtain ⟨y120, hy120⟩ : ∃ y_ : List (S39), y_ = (y117 ++ l0_1) := ⟨_, rfl⟩
  replace H : (some (a0_0, y120)) = some (r1, r2) := by first | (rw [hy120]; with_reducible exact H) | (have H2_ := (Option.bind_some _ _).symm.trans H; rw [hy120]; with_reducible exact H2_) | (have H2_ := (Option.bind_some _ _).symm.trans H; with_reducible exact H2_) | with_reducible exact H | (rw [hy120]; exact H) | exact H
  have Ny120 := Aside0.mk hy120
  clear hy120
  simp only [Option.some.injEq, Prod.mk.injEq] at H
  obtain ⟨rfl, rfl⟩ := H
  go_enter Try.func39, Try.ntmps39
  go_wp2_with (first | ((with_reducible refine gate_dst (N := 1) rfl ?_); refine box_event ?hg (N := 1) ?hd (cs := #[.int .i64 a0_0, .slice A0_1 l0_1.length c0_1]) (t := 37) ?hr ?_; (case hd => rfl); (case hg => rfl); (case hr => exact zq1); intro gb115 hg w3 hbox hb; have BK115 := Aside0.mk hbox; have GW115 := Aside0.mk (zq205 : w.heap.size ≤ gb115); have GE115 := Aside0.mk (zq205 : w.heap.size ≤ gb115); replace HB := sB zq2 hb; clear hb hbox hg) | ((with_reducible refine gate_dst (N := 2) rfl ?_); refine box_event ?hg (N := 2) ?hd (cs := #[.int .i64 0, .slice none 0 0]) (t := 37) ?hr ?_; (case hd => rfl); (case hg => rfl); (case hr => exact zq1); intro gb116 hg w4 hbox hb; have BK116 := Aside0.mk hbox; have GW116 := Aside0.mk (by rw [hg]; exact (below_size zq118) : w.heap.size ≤ gb116); have GE116 := Aside0.mk (by rw [hg]; exact (below_size zq118) : w.heap.size ≤ gb116); replace HB := sB zq118 hb; have NB115_116 := Aside0.mk (by rw [hg]; exact Nat.ne_of_lt (blk_lt (g := gb115) (o := .cells #[.int .i64 a0_0, .slice A0_1 l0_1.length c0_1] 37 (0, 0)) zq117) : gb115 ≠ gb116); have NB116_115 := Aside0.mk (by rw [hg]; exact Nat.ne_of_gt (blk_lt (g := gb115) (o := .cells #[.int .i64 a0_0, .slice A0_1 l0_1.length c0_1] 37 (0, 0)) zq117) : gb116 ≠ gb115); replace BK115 := bF BK115 zq117 hb; clear hb hbox hg) | ((with_reducible refine gate_dst (N := 3) rfl ?_); refine Kd.R_lit k39 _ 39 ?hg (N := 3) ?hd (xs := ([] : List (S39))) (inner := []) (ok := fun _ => True) (okp := fun _ => True) ?hr ?hp (fun _ hk => hk) trivial (Below.refl _ _) (Nat.le_refl _) (by simp) ?_; (case hd => rfl); (case hg => rfl); (case hr => exact zq1); (case hp => exact (Reps.none _ _)); intro v118 w5 ho6 hb hg_ hnew_; clear hg_ hnew_; (first | rw [← Ny117.out] at ho6 | (simp only [Int.reduceToNat] at ho6; rw [← Ny117.out] at ho6)); have HO119 := Aside0.mk (Kd.R_lower ho6 (below_size zq119)); replace BK115 := bF BK115 zq117 hb; replace BK116 := bF BK116 zq120 hb; replace HB := sB zq119 hb; clear hb ho6; have hnb7 := NB115_116.out; have hnc7 := NB116_115.out; obtain ⟨hcz8_0, hcz8_1, hfz8_0, hfz8_1⟩ := c2 (w := w5) BK115) | ((with_reducible refine gate_builtin (b := .append) (xs := #[.tmp 3, .tmp 5]) rfl ?_); at_builtin; refine Kd.R_append_rows k39 (w0 := w) w.heap.size rfl (.tmp 3) (.tmp 5) 35 39 (.agg #[(.int .i64 0), (.int .i64 0), (.int .i64 0), (.string ⟨#[]⟩)]) 40 rfl Try.underlying35 info39 rfl (by decide) (by omega) v118 y117 l0_1 _ _ _ (fun _ => True) (fun _ => False) rfl rfl ?aO ?aR (fun _ _ h => h) (fun _ h => h.elim) ?aF ?aB ?aS ?aL ?_; (case aR => exact zq9); (case aB => exact zq119); (case aF => exact (fun _ _ => trivial)); (case aO => exact (by (with_reducible repeat (first | apply Kd.R_alloc | apply Kd.R_drewN | apply Kd.R_drew)); exact HO119.out)); (case aS => exact (below_size zq119)); (case aL => have := LMc2.out; omega); intro v121 w9 ho hb hg hat; rw [← Ny120.out] at ho; have n0_ := Aside0.mk (blk_grown (g := gb115) (o := .cells #[.int .i64 a0_0, .slice A0_1 l0_1.length c0_1] 37 (0, 0)) zq117 hg (Kd.R_ne HO119.out BK115.out (by decide))); have n1_ := Aside0.mk (blk_grown (g := gb116) (o := .cells #[.int .i64 0, .slice none 0 0] 37 (0, 0)) zq120 hg (Kd.R_ne HO119.out BK116.out (by decide))); have n2_ := Aside0.mk (hb); have n3_ := Aside0.mk (ho); clear BK115; clear BK116; clear HB; clear HO119; have BK115 := n0_; have BK116 := n1_; have HB := n2_; have HO122 := n3_; clear n0_ n1_ n2_ n3_; clear ho hb hg hat; obtain ⟨Ao10, co10, eo10⟩ := Kd.R_slice HO122.out; subst eo10; obtain ⟨hcz11_0, hcz11_1, hfz11_0, hfz11_1⟩ := c2 (w := w9) BK115; obtain ⟨hcz12_0, hcz12_1, hfz12_0, hfz12_1⟩ := c2 (w := w9) BK116))
  refine bodyPost_ret (results_cell_row rfl _ _ gb116 37 #[.int .i64 a0_0, .slice Ao10 y120.length co10] (0, 0) _ rfl (by (with_reducible repeat (first | refine blk_drewN ?_ _ | refine blk_drew ?_ | refine blk_alloc ?_ _)); refine blk_put (cs := #[.int .i64 a0_0, .slice none 0 0]) ?_ 1 _ rfl; (with_reducible repeat (first | refine blk_drewN ?_ _ | refine blk_drew ?_ | refine blk_alloc ?_ _)); refine blk_put (cs := #[.int .i64 0, .slice none 0 0]) ?_ 0 _ rfl; (with_reducible repeat (first | refine blk_drewN ?_ _ | refine blk_drew ?_ | refine blk_alloc ?_ _)); refine blk_far ?_ NB116_115.out _; (with_reducible repeat (first | refine blk_drewN ?_ _ | refine blk_drew ?_ | refine blk_alloc ?_ _)); exact BK116.out) Try.underlying37 rfl (by kernel_rfl)) rfl ?_
  exact ⟨_, zq3, by (with_reducible repeat (first | apply Kd.R_alloc | apply Kd.R_drewN | apply Kd.R_drew)); exact Kd.R_mono (Kd.R_far (p := ⟨gb116, 1, none⟩) (Kd.R_far (p := ⟨gb116, 0, none⟩) (Kd.R_far (p := ⟨gb115, 1, none⟩) (Kd.R_types (Kd.R_types HO122.out BK115.out (by decide)) BK116.out (by decide)) (fun _ hk => hk.1.2) (.slice Ao10 y120.length co10)) (fun _ hk => hk.2) (.int .i64 a0_0)) (fun _ hk => hk.2) (.slice Ao10 y120.length co10)) (fun _ hk => trivial), zq119⟩
 rw [if_neg c2] at H
 exact absurd H (by simp)

end Go.Proofs.Ytklaigmpceacaaa.QFnExactTake
