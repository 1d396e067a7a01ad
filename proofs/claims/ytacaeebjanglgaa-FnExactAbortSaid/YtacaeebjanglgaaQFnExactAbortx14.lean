/- Written by wip/myprint.py of this repo (the kit's print, with additions of this session). -/
import Derived.Test.YtacaeebjanglgaaQFnExactAbortx0
import Derived.Test.YtacaeebjanglgaaQFnExactAbortx13
set_option maxRecDepth 100000
namespace Go.Proofs.Ytacaeebjanglgaa.QFnExactAbort
open Go.RowKit Go.Proofs.YtacaeebjanglgaaW.PrintWords Go.Proofs.YtacaeebjanglgaaW.PrintLast Go.Proofs.YtacaeebjanglgaaW.PrintMore
attribute [local go_sem] max2_int min2_int max_two min_two max_three min_three max_four min_four   -- for this text's walks alone
set_option linter.unusedVariables false
set_option linter.unusedSimpArgs false

/-! ### impl_copyStore: function 65 -/
def impl_copyStore.f (a0_0 : Int) (l0_1 : List (S66)) (l0_2 : List (S68)) (a0_3 : Int) : Option (Int × (List (S66)) × (List (S68)) × Int) := (some (([] : List (S66)) : List (S66))).bind fun y373 => (if y373.length + l0_1.length < 4398046511104 then ((some (([] : List (S68)) : List (S68))).bind fun y379 => (if y379.length + l0_2.length < 5864062014805 then (some (a0_0, (y373 ++ l0_1), (y379 ++ l0_2), a0_3)) else (none))) else (none))
set_option maxHeartbeats 8000000 in
set_option maxRecDepth 100000 in
theorem impl_copyStore.calls (a0_0 : Int) (A0_1 : Option Addr) (c0_1 : Nat) (l0_1 : List (S66)) (A0_2 : Option Addr) (c0_2 : Nat) (l0_2 : List (S68)) (a0_3 : Int) (r1 : Int) (r2 : List (S66)) (r3 : List (S68)) (r4 : Int) (w : World) (hr0_1 : Kd.C k66 w A0_1 l0_1.length l0_1) (hc0_1 : l0_1.length ≤ c0_1) (hr0_2 : Kd.C k68 w A0_2 l0_2.length l0_2) (hc0_2 : l0_2.length ≤ c0_2) (h : impl_copyStore.f a0_0 l0_1 l0_2 a0_3 = some (r1, r2, r3, r4)) :
  Calls Try.prog 65 #[.agg #[.int .i64 a0_0, .slice A0_1 l0_1.length c0_1, .slice A0_2 l0_2.length c0_2, .int .i64 a0_3]] w fun e w' => ∃ v1_ v2_ : Value, e = .returned (.agg #[.int .i64 r1, v1_, v2_, .int .i64 r4]) ∧ Kd.R k66 66 w' w.heap.size (fun _ => True) v1_ r2 ∧ Kd.R k68 68 w' w.heap.size (fun _ => True) v2_ r3 ∧ Below w.heap.size w w' := by
 have hu31 := Try.underlying31
 have HR0_1 := Aside0.mk hr0_1
 have HC0_1 := Aside0.mk hc0_1
 clear hr0_1 hc0_1
 have HR0_2 := Aside0.mk hr0_2
 have HC0_2 := Aside0.mk hc0_2
 clear hr0_2 hc0_2
 have HB := Aside0.mk (Below.refl w.heap.size w)
 have H : ((some (([] : List (S66)) : List (S66))).bind fun y373 => (if y373.length + l0_1.length < 4398046511104 then ((some (([] : List (S68)) : List (S68))).bind fun y379 => (if y379.length + l0_2.length < 5864062014805 then (some (a0_0, (y373 ++ l0_1), (y379 ++ l0_2), a0_3)) else (none))) else (none))) = some (r1, r2, r3, r4) := h
 clear h
 obtain ⟨y373, hy373⟩ : ∃ y_ : List (S66), y_ = (([] : List (S66))) := ⟨_, rfl⟩
 replace H : (if y373.length + l0_1.length < 4398046511104 then ((some (([] : List (S68)) : List (S68))).bind fun y379 => (if y379.length + l0_2.length < 5864062014805 then (some (a0_0, (y373 ++ l0_1), (y379 ++ l0_2), a0_3)) else (none))) else (none)) = some (r1, r2, r3, r4) := by first | (rw [hy373]; with_reducible exact H) | (have H2_ := (Option.bind_some _ _).symm.trans H; rw [hy373]; with_reducible exact H2_) | (have H2_ := (Option.bind_some _ _).symm.trans H; with_reducible exact H2_) | with_reducible exact H | (rw [hy373]; exact H) | exact H
 have Ny373 := Aside0.mk hy373
 clear hy373
 by_cases c2 : y373.length + l0_1.length < 4398046511104
 ·
  rw [if_pos c2] at H
  have LMc2 := Aside0.mk c2
  clear c2
  obtain ⟨y376, hy376⟩ : ∃ y_ : List (S66), y_ = (y373 ++ l0_1) := ⟨_, rfl⟩
  replace H : ((some (([] : List (S68)) : List (S68))).bind fun y379 => (if y379.length + l0_2.length < 5864062014805 then (some (a0_0, y376, (y379 ++ l0_2), a0_3)) else (none))) = some (r1, r2, r3, r4) := by first | (rw [hy376]; with_reducible exact H) | (have H2_ := (Option.bind_some _ _).symm.trans H; rw [hy376]; with_reducible exact H2_) | (have H2_ := (Option.bind_some _ _).symm.trans H; with_reducible exact H2_) | with_reducible exact H | (rw [hy376]; exact H) | exact H
  have Ny376 := Aside0.mk hy376
  clear hy376
  obtain ⟨y379, hy379⟩ : ∃ y_ : List (S68), y_ = (([] : List (S68))) := ⟨_, rfl⟩
  replace H : (if y379.length + l0_2.length < 5864062014805 then (some (a0_0, y376, (y379 ++ l0_2), a0_3)) else (none)) = some (r1, r2, r3, r4) := by first | (rw [hy379]; with_reducible exact H) | (have H2_ := (Option.bind_some _ _).symm.trans H; rw [hy379]; with_reducible exact H2_) | (have H2_ := (Option.bind_some _ _).symm.trans H; with_reducible exact H2_) | with_reducible exact H | (rw [hy379]; exact H) | exact H
  have Ny379 := Aside0.mk hy379
  clear hy379
  by_cases c3 : y379.length + l0_2.length < 5864062014805
  ·
   rw [if_pos c3] at H
   have LMc3 := Aside0.mk c3
   clear c3
   obtain ⟨y382, hy382⟩ : ∃ y_ : List (S68), y_ = (y379 ++ l0_2) := ⟨_, rfl⟩
   replace H : (some (a0_0, y376, y382, a0_3)) = some (r1, r2, r3, r4) := by first | (rw [hy382]; with_reducible exact H) | (have H2_ := (Option.bind_some _ _).symm.trans H; rw [hy382]; with_reducible exact H2_) | (have H2_ := (Option.bind_some _ _).symm.trans H; with_reducible exact H2_) | with_reducible exact H | (rw [hy382]; exact H) | exact H
   have Ny382 := Aside0.mk hy382
   clear hy382
   simp only [Option.some.injEq, Prod.mk.injEq] at H
   obtain ⟨rfl, rfl, rfl, rfl⟩ := H
   go_enter Try.func65, Try.ntmps65
   go_wp2_with (first | ((with_reducible refine gate_dst (N := 1) rfl ?_); refine box_event ?hg (N := 1) ?hd (cs := #[.int .i64 a0_0, .slice A0_1 l0_1.length c0_1, .slice A0_2 l0_2.length c0_2, .int .i64 a0_3]) (t := 31) ?hr ?_; (case hd => rfl); (case hg => rfl); (case hr => exact zq2); intro gb371 hg w4 hbox hb; have BK371 := Aside0.mk hbox; have GW371 := Aside0.mk (zq255 : w.heap.size ≤ gb371); have GE371 := Aside0.mk (zq255 : w.heap.size ≤ gb371); replace HB := sB zq3 hb; clear hb hbox hg) | ((with_reducible refine gate_dst (N := 2) rfl ?_); refine box_event ?hg (N := 2) ?hd (cs := #[.int .i64 0, .slice none 0 0, .slice none 0 0, .int .i64 0]) (t := 31) ?hr ?_; (case hd => rfl); (case hg => rfl); (case hr => exact zq2); intro gb372 hg w5 hbox hb; have BK372 := Aside0.mk hbox; have GW372 := Aside0.mk (by rw [hg]; exact (below_size zq65) : w.heap.size ≤ gb372); have GE372 := Aside0.mk (by rw [hg]; exact (below_size zq65) : w.heap.size ≤ gb372); replace HB := sB zq65 hb; have NB371_372 := Aside0.mk (by rw [hg]; exact Nat.ne_of_lt (blk_lt (g := gb371) (o := .cells #[.int .i64 a0_0, .slice A0_1 l0_1.length c0_1, .slice A0_2 l0_2.length c0_2, .int .i64 a0_3] 31 (0, 0)) zq64) : gb371 ≠ gb372); have NB372_371 := Aside0.mk (by rw [hg]; exact Nat.ne_of_gt (blk_lt (g := gb371) (o := .cells #[.int .i64 a0_0, .slice A0_1 l0_1.length c0_1, .slice A0_2 l0_2.length c0_2, .int .i64 a0_3] 31 (0, 0)) zq64) : gb372 ≠ gb371); replace BK371 := bF BK371 zq64 hb; clear hb hbox hg) | ((with_reducible refine gate_dst (N := 3) rfl ?_); refine Kd.R_lit k66 _ 66 ?hg (N := 3) ?hd (xs := ([] : List (S66))) (inner := []) (ok := fun _ => True) (okp := fun _ => True) ?hr ?hp (fun _ hk => hk) trivial (Below.refl _ _) (Nat.le_refl _) (by simp) ?_; (case hd => rfl); (case hg => rfl); (case hr => exact zq2); (case hp => exact zq41); intro v374 w6 ho7 hb hg_ hnew_; clear hg_ hnew_; (first | rw [← Ny373.out] at ho7 | (simp only [Int.reduceToNat] at ho7; rw [← Ny373.out] at ho7)); have HO375 := Aside0.mk (Kd.R_lower ho7 (below_size zq66)); replace BK371 := bF BK371 zq64 hb; replace BK372 := bF BK372 zq67 hb; replace HB := sB zq66 hb; clear hb ho7; have hnb8 := NB371_372.out; have hnc8 := NB372_371.out; obtain ⟨hcz9_0, hcz9_1, hcz9_2, hcz9_3, hfz9_0, hfz9_1, hfz9_2, hfz9_3⟩ := c4 (w := w6) BK371) | ((with_reducible refine gate_builtin (b := .append) (xs := #[.tmp 3, .tmp 5]) rfl ?_); at_builtin; refine Kd.R_append_rows k66 (w0 := w) w.heap.size rfl (.tmp 3) (.tmp 5) 28 66 (.agg #[(.string ⟨#[]⟩), (.string ⟨#[]⟩)]) 32 rfl Try.underlying28 info66 rfl (by decide) (by omega) v374 y373 l0_1 _ _ _ (fun _ => True) (fun _ => False) rfl rfl ?aO ?aR (fun _ _ h => h) (fun _ h => h.elim) ?aF ?aB ?aS ?aL ?_; (case aR => exact zq11); (case aB => exact zq66); (case aF => exact zq39); (case aO => exact (by (with_reducible repeat (first | apply Kd.R_alloc | apply Kd.R_drewN | apply Kd.R_drew)); exact HO375.out)); (case aS => exact (below_size zq66)); (case aL => have := LMc2.out; omega); intro v377 w10 ho hb hg hat; rw [← Ny376.out] at ho; have n0_ := Aside0.mk (blk_grown (g := gb371) (o := .cells #[.int .i64 a0_0, .slice A0_1 l0_1.length c0_1, .slice A0_2 l0_2.length c0_2, .int .i64 a0_3] 31 (0, 0)) zq64 hg (Kd.R_ne HO375.out BK371.out (by decide))); have n1_ := Aside0.mk (blk_grown (g := gb372) (o := .cells #[.int .i64 0, .slice none 0 0, .slice none 0 0, .int .i64 0] 31 (0, 0)) zq67 hg (Kd.R_ne HO375.out BK372.out (by decide))); have n2_ := Aside0.mk (hb); have n3_ := Aside0.mk (ho); clear BK371; clear BK372; clear HB; clear HO375; have BK371 := n0_; have BK372 := n1_; have HB := n2_; have HO378 := n3_; clear n0_ n1_ n2_ n3_; clear ho hb hg hat; obtain ⟨Ao11, co11, eo11⟩ := Kd.R_slice HO378.out; subst eo11; obtain ⟨hcz12_0, hcz12_1, hcz12_2, hcz12_3, hfz12_0, hfz12_1, hfz12_2, hfz12_3⟩ := c4 (w := w10) BK371) | ((with_reducible refine gate_dst (N := 8) rfl ?_); refine Kd.R_lit k68 _ 68 ?hg (N := 8) ?hd (xs := ([] : List (S68))) (inner := []) (ok := fun _ => True) (okp := fun _ => True) ?hr ?hp (fun _ hk => hk) trivial (Below.refl _ _) (Nat.le_refl _) (by simp) ?_; (case hd => rfl); (case hg => rfl); (case hr => exact zq2); (case hp => exact zq41); intro v380 w13 ho14 hb hg_ hnew_; clear hg_ hnew_; (first | rw [← Ny379.out] at ho14 | (simp only [Int.reduceToNat] at ho14; rw [← Ny379.out] at ho14)); replace HO378 := rB (by (with_reducible repeat (first | apply Kd.R_alloc | apply Kd.R_drewN | apply Kd.R_drew)); exact (Kd.R_mono (Kd.R_far (p := ⟨gb371, 1, none⟩) (Kd.R_types HO378.out BK371.out (by decide)) (fun _ hk => hk.2) (.slice Ao11 y376.length co11)) (fun _ h_ => h_.1))) hb; have HO381 := Aside0.mk (Kd.R_lower ho14 (below_size zq66)); replace BK371 := bB (g := gb371) (o := .cells #[.int .i64 a0_0, .slice Ao11 y376.length co11, .slice A0_2 l0_2.length c0_2, .int .i64 a0_3] 31 (0, 0)) (by (with_reducible repeat (first | refine blk_drewN ?_ _ | refine blk_drew ?_ | refine blk_alloc ?_ _)); refine blk_put (cs := #[.int .i64 a0_0, .slice A0_1 l0_1.length c0_1, .slice A0_2 l0_2.length c0_2, .int .i64 a0_3]) ?_ 1 _ rfl; (with_reducible repeat (first | refine blk_drewN ?_ _ | refine blk_drew ?_ | refine blk_alloc ?_ _)); exact BK371.out) hb; replace BK372 := bF BK372 (by (with_reducible repeat (first | refine blk_drewN ?_ _ | refine blk_drew ?_ | refine blk_alloc ?_ _)); refine blk_far ?_ NB372_371.out _; (with_reducible repeat (first | refine blk_drewN ?_ _ | refine blk_drew ?_ | refine blk_alloc ?_ _)); exact BK372.out) hb; replace HB := sB zq66 hb; clear hb ho14; obtain ⟨hcz15_0, hcz15_1, hcz15_2, hcz15_3, hfz15_0, hfz15_1, hfz15_2, hfz15_3⟩ := c4 (w := w13) BK371) | ((with_reducible refine gate_builtin (b := .append) (xs := #[.tmp 8, .tmp 10]) rfl ?_); at_builtin; refine Kd.R_append_rows k68 (w0 := w) w.heap.size rfl (.tmp 8) (.tmp 10) 29 68 (.agg #[(.int .i64 0), (.string ⟨#[]⟩)]) 24 rfl Try.underlying29 info68 rfl (by decide) (by omega) v380 y379 l0_2 _ _ _ (fun _ => True) (fun _ => False) rfl rfl ?aO ?aR (fun _ _ h => h) (fun _ h => h.elim) ?aF ?aB ?aS ?aL ?_; (case aR => exact zq15); (case aB => exact zq66); (case aF => exact zq39); (case aO => exact zq68); (case aS => exact (below_size zq66)); (case aL => have := LMc3.out; omega); intro v383 w16 ho hb hg hat; rw [← Ny382.out] at ho; have n0_ := Aside0.mk (blk_grown (g := gb371) (o := .cells #[.int .i64 a0_0, .slice Ao11 y376.length co11, .slice A0_2 l0_2.length c0_2, .int .i64 a0_3] 31 (0, 0)) zq64 hg (Kd.R_ne HO381.out BK371.out (by decide))); have n1_ := Aside0.mk (blk_grown (g := gb372) (o := .cells #[.int .i64 0, .slice none 0 0, .slice none 0 0, .int .i64 0] 31 (0, 0)) zq67 hg (Kd.R_ne HO381.out BK372.out (by decide))); have n2_ := Aside0.mk (Kd.R_over' (by (with_reducible repeat (first | apply Kd.R_alloc | apply Kd.R_drewN | apply Kd.R_drew)); exact HO378.out) (Kd.R_typed zq68) (by decide) hg); have n3_ := Aside0.mk (hb); have n4_ := Aside0.mk (ho); clear BK371; clear BK372; clear HO378; clear HB; clear HO381; have BK371 := n0_; have BK372 := n1_; have HO378 := n2_; have HB := n3_; have HO384 := n4_; clear n0_ n1_ n2_ n3_ n4_; clear ho hb hg hat; obtain ⟨Ao17, co17, eo17⟩ := Kd.R_slice HO384.out; subst eo17; obtain ⟨hcz18_0, hcz18_1, hcz18_2, hcz18_3, hfz18_0, hfz18_1, hfz18_2, hfz18_3⟩ := c4 (w := w16) BK371; obtain ⟨hcz19_0, hcz19_1, hcz19_2, hcz19_3, hfz19_0, hfz19_1, hfz19_2, hfz19_3⟩ := c4 (w := w16) BK372))
   refine bodyPost_ret (results_cell_row rfl _ _ gb372 31 #[.int .i64 a0_0, .slice Ao11 y376.length co11, .slice Ao17 y382.length co17, .int .i64 a0_3] (0, 0) _ rfl (by (with_reducible repeat (first | refine blk_drewN ?_ _ | refine blk_drew ?_ | refine blk_alloc ?_ _)); refine blk_put (cs := #[.int .i64 a0_0, .slice Ao11 y376.length co11, .slice Ao17 y382.length co17, .int .i64 0]) ?_ 3 _ rfl; (with_reducible repeat (first | refine blk_drewN ?_ _ | refine blk_drew ?_ | refine blk_alloc ?_ _)); refine blk_put (cs := #[.int .i64 a0_0, .slice Ao11 y376.length co11, .slice none 0 0, .int .i64 0]) ?_ 2 _ rfl; (with_reducible repeat (first | refine blk_drewN ?_ _ | refine blk_drew ?_ | refine blk_alloc ?_ _)); refine blk_put (cs := #[.int .i64 a0_0, .slice none 0 0, .slice none 0 0, .int .i64 0]) ?_ 1 _ rfl; (with_reducible repeat (first | refine blk_drewN ?_ _ | refine blk_drew ?_ | refine blk_alloc ?_ _)); refine blk_put (cs := #[.int .i64 0, .slice none 0 0, .slice none 0 0, .int .i64 0]) ?_ 0 _ rfl; (with_reducible repeat (first | refine blk_drewN ?_ _ | refine blk_drew ?_ | refine blk_alloc ?_ _)); refine blk_far ?_ NB372_371.out _; (with_reducible repeat (first | refine blk_drewN ?_ _ | refine blk_drew ?_ | refine blk_alloc ?_ _)); exact BK372.out) Try.underlying31 rfl (by kernel_rfl)) rfl ?_
   exact ⟨_, _, zq4, by (with_reducible repeat (first | apply Kd.R_alloc | apply Kd.R_drewN | apply Kd.R_drew)); exact Kd.R_mono (Kd.R_far (p := ⟨gb372, 3, none⟩) (Kd.R_far (p := ⟨gb372, 2, none⟩) (Kd.R_far (p := ⟨gb372, 1, none⟩) (Kd.R_far (p := ⟨gb372, 0, none⟩) (Kd.R_far (p := ⟨gb371, 2, none⟩) (Kd.R_types (Kd.R_types HO378.out BK371.out (by decide)) BK372.out (by decide)) (fun _ hk => hk.1.2) (.slice Ao17 y382.length co17)) (fun _ hk => hk.2) (.int .i64 a0_0)) (fun _ hk => hk.2) (.slice Ao11 y376.length co11)) (fun _ hk => hk.2) (.slice Ao17 y382.length co17)) (fun _ hk => hk.2) (.int .i64 a0_3)) (fun _ hk => trivial), by (with_reducible repeat (first | apply Kd.R_alloc | apply Kd.R_drewN | apply Kd.R_drew)); exact Kd.R_mono (Kd.R_far (p := ⟨gb372, 3, none⟩) (Kd.R_far (p := ⟨gb372, 2, none⟩) (Kd.R_far (p := ⟨gb372, 1, none⟩) (Kd.R_far (p := ⟨gb372, 0, none⟩) (Kd.R_far (p := ⟨gb371, 2, none⟩) (Kd.R_types (Kd.R_types HO384.out BK371.out (by decide)) BK372.out (by decide)) (fun _ hk => hk.1.2) (.slice Ao17 y382.length co17)) (fun _ hk => hk.2) (.int .i64 a0_0)) (fun _ hk => hk.2) (.slice Ao11 y376.length co11)) (fun _ hk => hk.2) (.slice Ao17 y382.length co17)) (fun _ hk => hk.2) (.int .i64 a0_3)) (fun _ hk => trivial), zq66⟩
  exact zq314
 exact zq315

/-! ### impl_uploadOf: function 70 (walked by hand) -/
/-- The first place from i on whose first field is x, or -1. -/
def impl_uploadOf.at (l : List S68) (x : Int) : Nat → Nat → Int
 | 0, _ => -1
 | d + 1, i => if (rd_T68 l (i : Int)).f0 = x then (i : Int) else impl_uploadOf.at l x d (i + 1)
set_option maxHeartbeats 8000000 in
theorem impl_uploadOf.index (l : List S68) (A : Option Addr) (c : Nat) (g : Nat) (x : Int) (w : World) (hr : Kd.C k68 w A l.length l) (hc : l.length ≤ c) (hm : l.length ≤ 4611686018427387904) (hx : w.cell? ⟨g, 0, none⟩ = some (.int .i64 x)) :
  Calls Try.prog 96 #[.slice A l.length c, .func (.func 97) #[] #[.pointer (some ⟨g, 0, none⟩)]] w fun e w' => e = .returned (.int .i64 (impl_uploadOf.at l x l.length 0)) ∧ Below w.heap.size w w' := by
 have HR := Aside0.mk hr
 have HC := Aside0.mk hc
 have HM := Aside0.mk hm
 have HX := Aside0.mk hx
 obtain ⟨n, hn⟩ : ∃ n, n = l.length := ⟨_, rfl⟩
 clear hr hc hm hx
 go_enter Try.func96, Try.ntmps96
 go_wp2
 go_loopg [8] l.length (fun kq v8 w' => ∃ (i : Nat) (x8 : Int), v8 = .int .i64 x8 ∧ Aside0 (x8 = (i : Int)) ∧ Aside0 (i + kq = l.length) ∧ Aside0 (impl_uploadOf.at l x kq i = impl_uploadOf.at l x l.length 0) ∧ Aside0 (Below w.heap.size w w'))
 case atStart => exact ⟨0, 0, rfl, ⟨rfl⟩, ⟨by omega⟩, ⟨rfl⟩, ⟨Below.refl _ _⟩⟩
 case round =>
  obtain ⟨i, x8, rfl, HI, hi, HE, HB⟩ := hrel
  cases gk with
  | zero =>
   have c1 : decide (x8 < (l.length : Int)) = false := decide_eq_false zq69
   go_wp2
   go_ret
   exact ⟨by rw [← HE.out]; rfl, HB.out⟩
  | succ k1 =>
   have c1 : decide (x8 < (l.length : Int)) = true := decide_eq_true zq69
   have b1 := eq_true (show 0 ≤ x8 by have := HI.out; omega)
   have b2 := eq_true (show x8 < (l.length : Int) by have := HI.out; have := hi.out; omega)
   obtain ⟨ad, e1, h0, h1⟩ := at_T68 HR.out x8 (by have := HI.out; omega) zq69
   subst e1
   have hx0 : wr.cell? (ad.add (x8.toNat * 2)) = some (.int .i64 (rd_T68 l x8).f0) := (HB.out.cell (World.block_lt_of_cell? w _ h0)).trans h0
   have hx1 : wr.cell? ⟨(ad.add (x8.toNat * 2)).block, (ad.add (x8.toNat * 2)).off + 1, none⟩ = some (.string (rd_T68 l x8).f1) := (HB.out.cell (World.block_lt_of_cell? w _ h1)).trans h1
   have hxg : wr.cell? ⟨g, 0, none⟩ = some (.int .i64 x) := (HB.out.cell (World.block_lt_of_cell? w _ HX.out)).trans HX.out
   have hxa : ∀ o, (wr.alloc o).cell? ⟨g, 0, none⟩ = some (.int .i64 x) := fun o => (World.cell?_alloc_lt _ _ _ (World.block_lt_of_cell? _ _ hxg)).trans hxg
   clear h0 h1
   by_cases hq : (rd_T68 l x8).f0 = x
   ·
    have q1 : ((rd_T68 l x8).f0 == x) = true := beq_iff_eq.mpr hq
    have HQ := Aside0.mk hq; clear hq
    go_wp2
    go_ret
    refine ⟨?_, HB.out.alloc (below_size HB.out) _⟩
    rw [← HE.out]
    show _ = Ending.returned (Value.int IntKind.i64 (impl_uploadOf.at l x (k1 + 1) i))
    unfold impl_uploadOf.at
    rw [if_pos (by have := HI.out; subst this; exact HQ.out), HI.out]
    rfl
   have q1 : ((rd_T68 l x8).f0 == x) = false := beq_eq_false_iff_ne.mpr hq
   have HQ := Aside0.mk hq; clear hq
   go_wp2
   go_roundg k1
   case measure => omega
   case rel =>
    refine ⟨i + 1, wrap64 (x8 + 1), rfl, ⟨?_⟩, ⟨by have := hi.out; omega⟩, ⟨?_⟩, ⟨HB.out.alloc (below_size HB.out) _⟩⟩
    ·
     rw [HI.out]; have := hi.out; have := HM.out; unfold wrap64; omega
    rw [← HE.out]
    show _ = impl_uploadOf.at l x (k1 + 1) i
    conv => rhs; unfold impl_uploadOf.at
    rw [if_neg (by have := HI.out; subst this; exact HQ.out)]
theorem impl_uploadOf.two (w : World) (o1 o2 : Obj) : Below w.heap.size w ((w.alloc o1).alloc o2) :=
 have h1 := (Below.refl w.heap.size w).alloc (Nat.le_refl _) o1
 h1.alloc (below_size h1) o2
theorem impl_uploadOf.cell2 (w : World) (o1 : Obj) (x : Int) (t : TypeId) : ((w.alloc o1).alloc (.cells #[.int .i64 x] t)).cell? ⟨w.heap.size + 1, 0, none⟩ = some (.int .i64 x) :=
 (blk_cell (t := t) (cs := #[.int .i64 x]) (show ((w.heap.push o1).push (.cells #[.int .i64 x] t))[w.heap.size + 1]? = _ by rw [show w.heap.size + 1 = (w.heap.push o1).size by simp, Array.getElem?_push_size]) 0).trans rfl
set_option maxHeartbeats 8000000 in
theorem impl_uploadOf.uploadOf (q : Int) (A1 : Option Addr) (c1 : Nat) (l1 : List S66) (A2 : Option Addr) (c2 : Nat) (l2 : List S68) (nx id : Int) (w : World) (hr1 : Kd.C k66 w A1 l1.length l1) (hc1 : l1.length ≤ c1) (hr2 : Kd.C k68 w A2 l2.length l2) (hc2 : l2.length ≤ c2) (hm : l2.length ≤ 4611686018427387904) :
  Calls Try.prog 70 #[.agg #[.int .i64 q, .slice A1 l1.length c1, .slice A2 l2.length c2, .int .i64 nx], .int .i64 id] w fun e w' => e = .returned (.int .i64 (impl_uploadOf.at l2 id l2.length 0)) ∧ Below w.heap.size w w' := by
 have HR := Aside0.mk hr2
 have HC := Aside0.mk hc2
 have HM := Aside0.mk hm
 clear hr1 hc1 hr2 hc2 hm
 have hk2 : Kd.C k68 ((w.alloc (.cells #[.int .i64 q, .slice A1 l1.length c1, .slice A2 l2.length c2, .int .i64 nx] 31)).alloc (.cells #[.int .i64 id] 2)) A2 l2.length l2 := Kd.C_alloc (Kd.C_alloc HR.out _) _
 have hcell := impl_uploadOf.cell2 w (.cells #[.int .i64 q, .slice A1 l1.length c1, .slice A2 l2.length c2, .int .i64 nx] 31) id 2
 have hb2 := impl_uploadOf.two w (.cells #[.int .i64 q, .slice A1 l1.length c1, .slice A2 l2.length c2, .int .i64 nx] 31) (.cells #[.int .i64 id] 2)
 go_enter Try.func70, Try.ntmps70
 go_wp2_with (first | ((with_reducible refine gC 96 rfl ?_); refine gL 8 Try.func96 #[.slice A2 l2.length c2, .func (.func 97) #[] #[.pointer (some ⟨w.heap.size + 1, 0, none⟩)]] ?_; refine (impl_uploadOf.index l2 A2 c2 (w.heap.size + 1) id _ hk2 HC.out HM.out hcell).mono ?_; rintro e w7 ⟨rfl, hb⟩; refine ⟨_, rfl, ?_⟩; have HB := Aside0.mk (below_step hb2 hb); clear hb))
 go_ret
 exact ⟨rfl, HB.out⟩
def impl_uploadOf.f (a0_0 : Int) (l0_1 : List S66) (l0_2 : List S68) (a0_3 : Int) (a1 : Int) : Option Int := if l0_2.length ≤ 4611686018427387904 then some (impl_uploadOf.at l0_2 a1 l0_2.length 0) else none
theorem impl_uploadOf.calls (a0_0 : Int) (A0_1 : Option Addr) (c0_1 : Nat) (l0_1 : List S66) (A0_2 : Option Addr) (c0_2 : Nat) (l0_2 : List S68) (a0_3 : Int) (a1 : Int) (r : Int) (w : World) (hr0_1 : Kd.C k66 w A0_1 l0_1.length l0_1) (hc0_1 : l0_1.length ≤ c0_1) (hr0_2 : Kd.C k68 w A0_2 l0_2.length l0_2) (hc0_2 : l0_2.length ≤ c0_2) (h : impl_uploadOf.f a0_0 l0_1 l0_2 a0_3 a1 = some r) :
  Calls Try.prog 70 #[.agg #[.int .i64 a0_0, .slice A0_1 l0_1.length c0_1, .slice A0_2 l0_2.length c0_2, .int .i64 a0_3], .int .i64 a1] w fun e w' => e = .returned (.int .i64 r) ∧ Below w.heap.size w w' := by
 unfold impl_uploadOf.f at h
 split at h
 ·
  rename_i hg
  injection h with h
  subst h
  exact impl_uploadOf.uploadOf a0_0 A0_1 c0_1 l0_1 A0_2 c0_2 l0_2 a0_3 a1 w hr0_1 hc0_1 hr0_2 hc0_2 hg
 exact absurd h (by simp)

/-! ### impl_Upload: function 71 (walked by hand) -/
section
open Go.Proofs.Ytacaeebjanglgaa.Clear
def impl_Upload.f (l0 : List (S68)) (a1 : Int) (a2 : Int) : Option (List (S68)) := if 0 ≤ a1 ∧ a2 = a1 + 1 ∧ a2 ≤ (l0.length : Int) then some (l0.eraseIdx a1.toNat) else none
def impl_Upload.T5 : Bool × List (List Nat × List Nat) := (true, [([], []), ([], []), ([0, 1], [0, 1]), ([], []), ([], []), ([3, 4], [3, 4]), ([2, 5], [2, 5]), ([6, 6, 0, 1, 2, 3, 4, 5, 6], [0, 3, 6])])
def impl_Upload.B5 : List Nat := [0, 0, 3, 0, 0, 24, 63, 127]
theorem impl_Upload.tab5 : rtab .any (opsOf Try.f71 5) = impl_Upload.T5 := by kernel_rfl
theorem impl_Upload.bits5 : waitsOk impl_Upload.T5.2 impl_Upload.B5 = true := by kernel_rfl
set_option maxHeartbeats 8000000 in
theorem impl_Upload.calls (P0_ : Nat → Prop) (u9000_ : Value) (l0 : List (S68)) (a1 : Int) (a2 : Int) (r : List (S68)) (w0 w : World) (hB : Below w0.heap.size w0 w) (ho0 : Kd.R k68 68 w w0.heap.size P0_ u9000_ l0) (h : impl_Upload.f l0 a1 a2 = some r) :
  Calls Try.prog 71 #[u9000_, .int .i64 a1, .int .i64 a2] w fun e w' => ∃ v0_ : Value, e = .returned v0_ ∧ Kd.R k68 68 w' w0.heap.size (fun k_ => (P0_ k_ ∨ w.heap.size ≤ k_)) v0_ r ∧ Below w0.heap.size w0 w' ∧ Kept w w' (fun k_ => P0_ k_) := by
 unfold impl_Upload.f at h
 split at h
 case isFalse => exact absurd h (by simp)
 rename_i hg
 injection h with h
 subst h
 obtain ⟨h1, h2, h3⟩ := hg
 obtain ⟨g, cap, rfl, hbg, hgw, _⟩ := Kd.R_form ho0 (by omega)
 obtain ⟨_, hcap, hC⟩ := Kd.R_reads' ho0
 have HO := Aside0.mk ho0
 have HB := Aside0.mk hB
 have HBS := Aside0.mk hB.size
 have HBG := Aside0.mk hbg
 have HP := Aside0.mk (ho0.1 g (by simp [Value.ownBlock]))
 have H1 := Aside0.mk (show 0 ≤ a1 ∧ a2 = a1 + 1 ∧ a2 ≤ (l0.length : Int) ∧ l0.length ≤ cap from ⟨h1, h2, h3, hcap⟩)
 have s1 := eq_true h1
 have s2 := eq_true (show a1 ≤ a2 by omega)
 have s3 := eq_true h3
 have s4 := eq_true (show (l0.length : Int) ≤ (cap : Int) by omega)
 have s5 := eq_true (show a1 ≤ (l0.length : Int) by omega)
 have s6 : (a1 == a2) = false := by simp; omega
 have s7 := eq_true (show 0 ≤ a2 by omega)
 have s8 := eq_false (show ¬ l0.length = a1.toNat by omega)
 have s9 := eq_true (show a1 ≤ (cap : Int) by omega)
 have e2 := Aside0.mk (show a2.toNat = a1.toNat + 1 by omega)
 clear h1 h2 h3 hcap hC ho0 hB hbg hgw
 go_enter Try.func71, Try.ntmps71
 go_wp2
 refine start_ (n := 8) (S := fun w' => True) (ds := []) #[false, false, false, false, false, false, false, false] (by kernel_rfl) rfl rfl trivial (fun hHeld => ?_)
 refine with_tabW impl_Upload.tab5 impl_Upload.bits5 (fun HT_ HW_ => ?_)
 skip
 refine pure_ (i := 0) (N := some 20) (v := ?_) (a' := ?_) #[true, false, false, false, false, false, false, false] rfl rfl (any_of HT_.out (by kernel_rfl)) (fun _ _ _ h => h) (Or.inl ⟨by rfl, ?_⟩) ?_ ?_
 rotate_left
 exact zq318
 rotate_left
 exact zq319
 refine pure_ (i := 1) (N := some 21) (v := ?_) (a' := ?_) #[true, true, false, false, false, false, false, false] rfl rfl (any_of HT_.out (by kernel_rfl)) (fun _ _ _ h => h) (Or.inl ⟨by rfl, ?_⟩) ?_ ?_
 rotate_left
 exact zq318
 rotate_left
 exact zq319
 refine pure_ (i := 2) (N := some 22) (v := ?_) (a' := ?_) #[true, true, true, false, false, false, false, false] rfl rfl (any_of HT_.out (by kernel_rfl)) (fun _ _ _ h => h) (Or.inl ⟨by rfl, ?_⟩) ?_ ?_
 rotate_left
 exact zq318
 rotate_left
 exact zq319
 refine pure_ (i := 3) (N := some 23) (v := ?_) (a' := ?_) #[true, true, true, true, false, false, false, false] rfl rfl (any_of HT_.out (by kernel_rfl)) (fun _ _ _ h => h) (Or.inl ⟨by rfl, ?_⟩) ?_ ?_
 rotate_left
 exact zq318
 rotate_left
 exact zq319
 refine pure_ (i := 4) (N := some 24) (v := ?_) (a' := ?_) #[true, true, true, true, true, false, false, false] rfl rfl (any_of HT_.out (by kernel_rfl)) (fun _ _ _ h => h) (Or.inl ⟨by rfl, ?_⟩) ?_ ?_
 rotate_left
 exact zq318
 rotate_left
 exact zq319
 refine pure_ (i := 5) (N := some 25) (v := ?_) (a' := ?_) #[true, true, true, true, true, true, false, false] rfl rfl (any_of HT_.out (by kernel_rfl)) (fun _ _ _ h => h) (Or.inl ⟨by rfl, ?_⟩) ?_ ?_
 rotate_left
 exact zq318
 rotate_left
 exact zq319
 refine one_ (i := 6) (N := some 26) #[true, true, true, true, true, true, true, false] rfl rfl (one_of HT_.out (by kernel_rfl)) (by decide) (fun K hK => ?_)
 refine Kd.R_delete_step k68 (w0 := w0) w0.heap.size (by rfl) (.tmp 22) (.tmp 25) 29 68 rfl Try.underlying29 (by kernel_rfl) (g := g) (n := l0.length) (c := cap) (k := a1.toNat) rfl rfl ?hA ?hm (by (with_reducible repeat (first | apply Kd.R_alloc | apply Kd.R_drewN | apply Kd.R_drew)); exact HO.out) ?hk zq3 HBS.out ?_
 case hA =>
  rw [e2.out]
  split
  ·
   rfl
  show some _ = some (Addr.add _ ((a1.toNat + 1) * 2))
  unfold Addr.add
  rw [if_neg (by omega)]
  simp
 case hm => rw [e2.out]
 case hk => have := H1.out; omega
 intro w1 ho hb hg
 refine hK.out _ _ trivial (fun hHeld => ?_)
 clear hK K
 refine norm_ (a' := ?_) ?_ ?_
 rotate_left
 exact zq327
 refine pure_ (i := 7) (N := some 0) (v := ?_) (a' := ?_) #[true, true, true, true, true, true, true, true] rfl rfl (any_of HT_.out (by kernel_rfl)) (fun _ _ _ h => h) (Or.inl ⟨by rfl, ?_⟩) ?_ ?_
 rotate_left
 exact zq318
 rotate_left
 exact zq319
 refine done_ (done_of HT_.out (by kernel_rfl)) ?_
 generalize hA25 : (if cap = a2.toNat then (some ⟨g, 0, none⟩ : Option Addr) else some ⟨g, a2.toNat * 2, none⟩) = A25
 clear hA25
 generalize hn1 : l0.length - 1 = n1 at ho ⊢
 have hn2 := H1.out
 have t1 := eq_true (show n1 ≤ l0.length by omega)
 have t2 := eq_true (show l0.length ≤ cap by omega)
 have t3 := eq_false (show ¬ cap = n1 by omega)
 have t4 := Aside0.mk (show l0.length - n1 = 1 ∧ n1 < cap by omega)
 have HO1 := Aside0.mk ho
 have HB1 := Aside0.mk hb
 have HG1 := Aside0.mk hg
 clear hn1 hn2 ho hb hg HO HB
 go_wp2_with (first | ((with_reducible refine gate_builtin (b := .clear) (xs := #[.tmp 31]) rfl ?_); refine R_clear k68 (w0 := w0) w0.heap.size rfl (.tmp 31) 29 68 rfl Try.underlying29 (.agg #[.int .i64 0, .string ⟨#[]⟩]) (by kernel_rfl) rfl (by simp [Value.cells]; decide) (by decide) (g := g) (n := n1) (c := cap) (c2 := cap - n1) ?hX HO1.out t4.out.2 HB1.out HBG.out ?_; (case hX => show Value.slice _ _ _ = _; rw [t4.out.1]; rfl); intro w2 ho2 hb2 hg2))
 all_goals
  go_ret
  exact ⟨_, rfl, Kd.R_mono ho2 (fun _ h => .inl h), hb2, ⟨Nat.le_trans HG1.out.size hg2.size, fun k hk hn => (hg2.block k (Nat.lt_of_lt_of_le hk HG1.out.size) (fun e => hn (by injection e with e; rw [e]; exact HP.out))).trans (HG1.out.block k hk (fun e => hn (by injection e with e; rw [e]; exact HP.out)))⟩⟩
end

/-! ### impl_Abort: function 34 -/
def impl_Abort.f (k : Nat) (a0_0 : Int) (l0_1 : List (S66)) (l0_2 : List (S68)) (a0_3 : Int) (a1 : Int) : Option (Int × (List (S66)) × (List (S68)) × Int × Int) := (impl_copyStore.f a0_0 l0_1 l0_2 a0_3).bind fun bt387 => ((impl_uploadOf.f a0_0 l0_1 l0_2 a0_3 a1).bind fun t396 => ((impl_isStore.f k a0_0 l0_1 l0_2 a0_3).bind fun t397 => (if t397 = true then (if t396 < 0 then (some (bt387.1, bt387.2.1, bt387.2.2.1, bt387.2.2.2, 3)) else ((impl_Upload.f bt387.2.2.1 t396 (wrap64 (t396 + 1))).bind fun t398 => (some (bt387.1, bt387.2.1, t398, bt387.2.2.2, 0)))) else (some (0, ([] : List (S66)), ([] : List (S68)), 0, 1)))))
theorem impl_Abort.mono : ∀ a0 a1 a2 a3 a4 k, LeO (impl_Abort.f k a0 a1 a2 a3 a4) (impl_Abort.f (k + 1) a0 a1 a2 a3 a4) := by
 intro a0 a1 a2 a3 a4 k
 unfold impl_Abort.f
 repeat' first
   | (with_reducible exact impl_isStore.mono _ _ _ _ _)
   | (with_reducible exact LeO.refl _)
   | (with_reducible exact LeO.none _)
   | (with_reducible refine LeO.ite ?_ ?_)
   | (with_reducible refine LeO.bind ?_ (fun _ => ?_))
   | exact LeO.none _
   | refine LeO.ite ?_ ?_
   | refine LeO.bind ?_ (fun _ => ?_)
set_option maxHeartbeats 8000000 in
set_option maxRecDepth 100000 in
theorem impl_Abort.calls (k : Nat) (a0_0 : Int) (A0_1 : Option Addr) (c0_1 : Nat) (l0_1 : List (S66)) (A0_2 : Option Addr) (c0_2 : Nat) (l0_2 : List (S68)) (a0_3 : Int) (a1 : Int) (r1 : Int) (r2 : List (S66)) (r3 : List (S68)) (r4 : Int) (r5 : Int) (w : World) (hr0_1 : Kd.C k66 w A0_1 l0_1.length l0_1) (hc0_1 : l0_1.length ≤ c0_1) (hr0_2 : Kd.C k68 w A0_2 l0_2.length l0_2) (hc0_2 : l0_2.length ≤ c0_2) (h : impl_Abort.f k a0_0 l0_1 l0_2 a0_3 a1 = some (r1, r2, r3, r4, r5)) :
  Calls Try.prog 34 #[.agg #[.int .i64 a0_0, .slice A0_1 l0_1.length c0_1, .slice A0_2 l0_2.length c0_2, .int .i64 a0_3], .int .i64 a1] w fun e w' => ∃ v1_ v2_ : Value, e = .returned (.tuple #[.agg #[.int .i64 r1, v1_, v2_, .int .i64 r4], .int .i64 r5]) ∧ Kd.R k66 66 w' w.heap.size (fun _ => True) v1_ r2 ∧ Kd.R k68 68 w' w.heap.size (fun _ => True) v2_ r3 ∧ Below w.heap.size w w' := by
 have hu31 := Try.underlying31
 have HR0_1 := Aside0.mk hr0_1
 have HC0_1 := Aside0.mk hc0_1
 clear hr0_1 hc0_1
 have HR0_2 := Aside0.mk hr0_2
 have HC0_2 := Aside0.mk hc0_2
 clear hr0_2 hc0_2
 have HB := Aside0.mk (Below.refl w.heap.size w)
 have H : ((impl_copyStore.f a0_0 l0_1 l0_2 a0_3).bind fun bt387 => ((impl_uploadOf.f a0_0 l0_1 l0_2 a0_3 a1).bind fun t396 => ((impl_isStore.f k a0_0 l0_1 l0_2 a0_3).bind fun t397 => (if t397 = true then (if t396 < 0 then (some (bt387.1, bt387.2.1, bt387.2.2.1, bt387.2.2.2, 3)) else ((impl_Upload.f bt387.2.2.1 t396 (wrap64 (t396 + 1))).bind fun t398 => (some (bt387.1, bt387.2.1, t398, bt387.2.2.2, 0)))) else (some (0, ([] : List (S66)), ([] : List (S68)), 0, 1)))))) = some (r1, r2, r3, r4, r5) := h
 clear h
 replace H := Option.bind_eq_some_iff.mp H
 obtain ⟨⟨t387, t388, t391, t394⟩, A30, H⟩ := H
 replace H : ((impl_uploadOf.f a0_0 l0_1 l0_2 a0_3 a1).bind fun t396 => ((impl_isStore.f k a0_0 l0_1 l0_2 a0_3).bind fun t397 => (if t397 = true then (if t396 < 0 then (some (t387, t388, t391, t394, 3)) else ((impl_Upload.f t391 t396 (wrap64 (t396 + 1))).bind fun t398 => (some (t387, t388, t398, t394, 0)))) else (some (0, ([] : List (S66)), ([] : List (S68)), 0, 1))))) = some (r1, r2, r3, r4, r5) := H
 have A3 := Aside0.mk A30
 clear A30
 replace H := Option.bind_eq_some_iff.mp H
 obtain ⟨t396, A40, H⟩ := H
 replace H : ((impl_isStore.f k a0_0 l0_1 l0_2 a0_3).bind fun t397 => (if t397 = true then (if t396 < 0 then (some (t387, t388, t391, t394, 3)) else ((impl_Upload.f t391 t396 (wrap64 (t396 + 1))).bind fun t398 => (some (t387, t388, t398, t394, 0)))) else (some (0, ([] : List (S66)), ([] : List (S68)), 0, 1)))) = some (r1, r2, r3, r4, r5) := H
 have A4 := Aside0.mk A40
 clear A40
 replace H := Option.bind_eq_some_iff.mp H
 obtain ⟨t397, A50, H⟩ := H
 replace H : (if t397 = true then (if t396 < 0 then (some (t387, t388, t391, t394, 3)) else ((impl_Upload.f t391 t396 (wrap64 (t396 + 1))).bind fun t398 => (some (t387, t388, t398, t394, 0)))) else (some (0, ([] : List (S66)), ([] : List (S68)), 0, 1))) = some (r1, r2, r3, r4, r5) := H
 have A5 := Aside0.mk A50
 clear A50
 by_cases c6 : t397 = true
 ·
  subst c6
  have H1 : (if t396 < 0 then (some (t387, t388, t391, t394, 3)) else ((impl_Upload.f t391 t396 (wrap64 (t396 + 1))).bind fun t398 => (some (t387, t388, t398, t394, 0)))) = some (r1, r2, r3, r4, r5) := by rw [if_pos rfl] at H; exact H
  clear H
  have H := H1
  clear H1
  by_cases c7 : t396 < 0
  ·
   rw [if_pos c7] at H
   have c7b0 := decide_eq_true c7
   clear c7
   simp only [Option.some.injEq, Prod.mk.injEq] at H
   obtain ⟨rfl, rfl, rfl, rfl, rfl⟩ := H
   go_enter Try.func34, Try.ntmps34
   go_wp2_with (first | ((with_reducible refine gate_dst (N := 2) rfl ?_); refine box_event ?hg (N := 2) ?hd (cs := #[.int .i64 a0_0, .slice A0_1 l0_1.length c0_1, .slice A0_2 l0_2.length c0_2, .int .i64 a0_3]) (t := 31) ?hr ?_; (case hd => rfl); (case hg => rfl); (case hr => exact zq2); intro gb385 hg w8 hbox hb; have BK385 := Aside0.mk hbox; have GW385 := Aside0.mk (zq255 : w.heap.size ≤ gb385); have GE385 := Aside0.mk (zq255 : w.heap.size ≤ gb385); replace HB := sB zq3 hb; clear hb hbox hg) | ((with_reducible refine gate_dst (N := 4) rfl ?_); refine box_event ?hg (N := 4) ?hd (cs := #[.int .i64 0, .slice none 0 0, .slice none 0 0, .int .i64 0]) (t := 31) ?hr ?_; (case hd => rfl); (case hg => rfl); (case hr => exact zq2); intro gb386 hg w9 hbox hb; have BK386 := Aside0.mk hbox; have GW386 := Aside0.mk (zq272 : w.heap.size ≤ gb386); have GE386 := Aside0.mk (zq272 : w.heap.size ≤ gb386); replace HB := sB zq71 hb; have NB385_386 := Aside0.mk (zq273 : gb385 ≠ gb386); have NB386_385 := Aside0.mk (zq274 : gb386 ≠ gb385); replace BK385 := bF BK385 zq70 hb; clear hb hbox hg; have hnb10 := NB385_386.out; have hnc10 := NB386_385.out; obtain ⟨hcz11_0, hcz11_1, hcz11_2, hcz11_3, hfz11_0, hfz11_1, hfz11_2, hfz11_3⟩ := c4 (w := w9) BK385) | ((with_reducible refine gC 65 rfl ?_); refine gL 9 Try.func65 #[.agg #[.int .i64 a0_0, .slice A0_1 l0_1.length c0_1, .slice A0_2 l0_2.length c0_2, .int .i64 a0_3]] ?_; (with_reducible refine (impl_copyStore.calls a0_0 _ _ l0_1 _ _ l0_2 a0_3 t387 t388 t391 t394 _ ?_ ?_ ?_ ?_ A3.out).mono ?_); exact zq11; exact zq12; exact zq15; exact zq16; rintro e w12 ⟨v389, v392, rfl, ho0, ho1, hb⟩; refine ⟨_, rfl, ?_⟩; have HO390 := Aside0.mk (Kd.R_lower ho0 (below_size zq72)); have HO393 := Aside0.mk (Kd.R_lower ho1 (below_size zq72)); replace BK385 := bF BK385 zq70 hb; replace BK386 := bF BK386 zq73 hb; replace HB := sB zq72 hb; clear hb; (try clear ho0); (try clear ho1)) | ((with_reducible refine gate_dst (N := 6) rfl ?_); refine box_event ?hg (N := 6) ?hd (cs := #[.int .i64 0, .slice none 0 0, .slice none 0 0, .int .i64 0]) (t := 31) ?hr ?_; (case hd => rfl); (case hg => rfl); (case hr => exact zq2); intro gb395 hg w13 hbox hb; replace HO390 := rB zq74 hb; replace HO393 := rB zq75 hb; have BK395 := Aside0.mk hbox; have GW395 := Aside0.mk (zq275 : w.heap.size ≤ gb395); have GE395 := Aside0.mk (zq275 : w.heap.size ≤ gb395); replace HB := sB zq72 hb; have NB385_395 := Aside0.mk (zq273 : gb385 ≠ gb395); have NB395_385 := Aside0.mk (zq274 : gb395 ≠ gb385); replace BK385 := bF BK385 zq70 hb; have NB386_395 := Aside0.mk (zq276 : gb386 ≠ gb395); have NB395_386 := Aside0.mk (zq277 : gb395 ≠ gb386); replace BK386 := bF BK386 zq73 hb; clear hb hbox hg; have hnb14 := NB395_385.out; have hnc14 := NB385_395.out; have hnb15 := NB395_386.out; have hnc15 := NB386_395.out; obtain ⟨hcz16_0, hcz16_1, hcz16_2, hcz16_3, hfz16_0, hfz16_1, hfz16_2, hfz16_3⟩ := c4 (w := w13) BK395; obtain ⟨Ao17, co17, eo17⟩ := Kd.R_slice HO390.out; subst eo17; obtain ⟨Ao18, co18, eo18⟩ := Kd.R_slice HO393.out; subst eo18; obtain ⟨hcz19_0, hcz19_1, hcz19_2, hcz19_3, hfz19_0, hfz19_1, hfz19_2, hfz19_3⟩ := c4 (w := w13) BK385) | ((with_reducible refine gC 70 rfl ?_); refine gL 12 Try.func70 #[.agg #[.int .i64 a0_0, .slice A0_1 l0_1.length c0_1, .slice A0_2 l0_2.length c0_2, .int .i64 a0_3], .int .i64 a1] ?_; (with_reducible refine (impl_uploadOf.calls a0_0 _ _ l0_1 _ _ l0_2 a0_3 a1 t396 _ ?_ ?_ ?_ ?_ A4.out).mono ?_); exact zq278; exact zq12; exact zq279; exact zq16; rintro e w20 ⟨rfl, hb⟩; refine ⟨_, rfl, ?_⟩; replace HO390 := rB (by (with_reducible repeat (first | apply Kd.R_alloc | apply Kd.R_drewN | apply Kd.R_drew)); exact (Kd.R_mono (Kd.R_far (p := ⟨gb395, 3, none⟩) (Kd.R_far (p := ⟨gb395, 2, none⟩) (Kd.R_far (p := ⟨gb395, 1, none⟩) (Kd.R_far (p := ⟨gb395, 0, none⟩) (Kd.R_types HO390.out BK395.out (by decide)) (fun _ hk => hk.2) (.int .i64 t387)) (fun _ hk => hk.2) (.slice Ao17 t388.length co17)) (fun _ hk => hk.2) (.slice Ao18 t391.length co18)) (fun _ hk => hk.2) (.int .i64 t394)) (fun _ h_ => h_.1))) hb; replace HO393 := rB (by (with_reducible repeat (first | apply Kd.R_alloc | apply Kd.R_drewN | apply Kd.R_drew)); exact (Kd.R_mono (Kd.R_far (p := ⟨gb395, 3, none⟩) (Kd.R_far (p := ⟨gb395, 2, none⟩) (Kd.R_far (p := ⟨gb395, 1, none⟩) (Kd.R_far (p := ⟨gb395, 0, none⟩) (Kd.R_types HO393.out BK395.out (by decide)) (fun _ hk => hk.2) (.int .i64 t387)) (fun _ hk => hk.2) (.slice Ao17 t388.length co17)) (fun _ hk => hk.2) (.slice Ao18 t391.length co18)) (fun _ hk => hk.2) (.int .i64 t394)) (fun _ h_ => h_.1))) hb; replace BK385 := bF BK385 zq77 hb; replace BK386 := bF BK386 zq78 hb; replace BK395 := bB (g := gb395) (o := .cells #[.int .i64 t387, .slice Ao17 t388.length co17, .slice Ao18 t391.length co18, .int .i64 t394] 31 (0, 0)) (by (with_reducible repeat (first | refine blk_drewN ?_ _ | refine blk_drew ?_ | refine blk_alloc ?_ _)); refine blk_put (cs := #[.int .i64 t387, .slice Ao17 t388.length co17, .slice Ao18 t391.length co18, .int .i64 0]) ?_ 3 _ rfl; (with_reducible repeat (first | refine blk_drewN ?_ _ | refine blk_drew ?_ | refine blk_alloc ?_ _)); refine blk_put (cs := #[.int .i64 t387, .slice Ao17 t388.length co17, .slice none 0 0, .int .i64 0]) ?_ 2 _ rfl; (with_reducible repeat (first | refine blk_drewN ?_ _ | refine blk_drew ?_ | refine blk_alloc ?_ _)); refine blk_put (cs := #[.int .i64 t387, .slice none 0 0, .slice none 0 0, .int .i64 0]) ?_ 1 _ rfl; (with_reducible repeat (first | refine blk_drewN ?_ _ | refine blk_drew ?_ | refine blk_alloc ?_ _)); refine blk_put (cs := #[.int .i64 0, .slice none 0 0, .slice none 0 0, .int .i64 0]) ?_ 0 _ rfl; (with_reducible repeat (first | refine blk_drewN ?_ _ | refine blk_drew ?_ | refine blk_alloc ?_ _)); exact BK395.out) hb; replace HB := sB zq76 hb; clear hb; obtain ⟨hcz21_0, hcz21_1, hcz21_2, hcz21_3, hfz21_0, hfz21_1, hfz21_2, hfz21_3⟩ := c4 (w := w20) BK385) | ((with_reducible refine gC 55 rfl ?_); refine gL 14 Try.func55 #[.agg #[.int .i64 a0_0, .slice A0_1 l0_1.length c0_1, .slice A0_2 l0_2.length c0_2, .int .i64 a0_3]] ?_; (with_reducible refine (impl_isStore.calls k a0_0 _ _ l0_1 _ _ l0_2 a0_3 true _ ?_ ?_ ?_ ?_ A5.out).mono ?_); exact zq11; exact zq12; exact zq15; exact zq16; rintro e w22 ⟨rfl, hb⟩; refine ⟨_, rfl, ?_⟩; replace HO390 := rB zq74 hb; replace HO393 := rB zq75 hb; replace BK385 := bF BK385 zq70 hb; replace BK386 := bF BK386 zq73 hb; replace BK395 := bF BK395 zq79 hb; replace HB := sB zq76 hb; clear hb; obtain ⟨hcz23_0, hcz23_1, hcz23_2, hcz23_3, hfz23_0, hfz23_1, hfz23_2, hfz23_3⟩ := c4 (w := w22) BK395; obtain ⟨hcz24_0, hcz24_1, hcz24_2, hcz24_3, hfz24_0, hfz24_1, hfz24_2, hfz24_3⟩ := c4 (w := w22) BK386))
   refine bodyPost_ret (results_ct rfl _ _ gb386 31 #[.int .i64 t387, .slice Ao17 t388.length co17, .slice Ao18 t391.length co18, .int .i64 t394] (0, 0) _ rfl (by (with_reducible repeat (first | refine blk_drewN ?_ _ | refine blk_drew ?_ | refine blk_alloc ?_ _)); refine blk_put (cs := #[.int .i64 t387, .slice Ao17 t388.length co17, .slice Ao18 t391.length co18, .int .i64 0]) ?_ 3 _ rfl; (with_reducible repeat (first | refine blk_drewN ?_ _ | refine blk_drew ?_ | refine blk_alloc ?_ _)); refine blk_put (cs := #[.int .i64 t387, .slice Ao17 t388.length co17, .slice none 0 0, .int .i64 0]) ?_ 2 _ rfl; (with_reducible repeat (first | refine blk_drewN ?_ _ | refine blk_drew ?_ | refine blk_alloc ?_ _)); refine blk_put (cs := #[.int .i64 t387, .slice none 0 0, .slice none 0 0, .int .i64 0]) ?_ 1 _ rfl; (with_reducible repeat (first | refine blk_drewN ?_ _ | refine blk_drew ?_ | refine blk_alloc ?_ _)); refine blk_put (cs := #[.int .i64 0, .slice none 0 0, .slice none 0 0, .int .i64 0]) ?_ 0 _ rfl; (with_reducible repeat (first | refine blk_drewN ?_ _ | refine blk_drew ?_ | refine blk_alloc ?_ _)); exact BK386.out) Try.underlying31 rfl (by kernel_rfl)) rfl ?_
   exact ⟨_, _, zq4, by (with_reducible repeat (first | apply Kd.R_alloc | apply Kd.R_drewN | apply Kd.R_drew)); exact Kd.R_mono (Kd.R_far (p := ⟨gb386, 3, none⟩) (Kd.R_far (p := ⟨gb386, 2, none⟩) (Kd.R_far (p := ⟨gb386, 1, none⟩) (Kd.R_far (p := ⟨gb386, 0, none⟩) (Kd.R_types HO390.out BK386.out (by decide)) (fun _ hk => hk.2) (.int .i64 t387)) (fun _ hk => hk.2) (.slice Ao17 t388.length co17)) (fun _ hk => hk.2) (.slice Ao18 t391.length co18)) (fun _ hk => hk.2) (.int .i64 t394)) (fun _ hk => trivial), by (with_reducible repeat (first | apply Kd.R_alloc | apply Kd.R_drewN | apply Kd.R_drew)); exact Kd.R_mono (Kd.R_far (p := ⟨gb386, 3, none⟩) (Kd.R_far (p := ⟨gb386, 2, none⟩) (Kd.R_far (p := ⟨gb386, 1, none⟩) (Kd.R_far (p := ⟨gb386, 0, none⟩) (Kd.R_types HO393.out BK386.out (by decide)) (fun _ hk => hk.2) (.int .i64 t387)) (fun _ hk => hk.2) (.slice Ao17 t388.length co17)) (fun _ hk => hk.2) (.slice Ao18 t391.length co18)) (fun _ hk => hk.2) (.int .i64 t394)) (fun _ hk => trivial), zq76⟩
  rw [if_neg c7] at H
  have c7b0 := decide_eq_false c7
  clear c7
  replace H := Option.bind_eq_some_iff.mp H
  obtain ⟨t398, A250, H⟩ := H
  replace H : (some (t387, t388, t398, t394, 0)) = some (r1, r2, r3, r4, r5) := H
  have A25 := Aside0.mk A250
  clear A250
  simp only [Option.some.injEq, Prod.mk.injEq] at H
  obtain ⟨rfl, rfl, rfl, rfl, rfl⟩ := H
  go_enter Try.func34, Try.ntmps34
  go_wp2_with (first | ((with_reducible refine gate_dst (N := 2) rfl ?_); refine box_event ?hg (N := 2) ?hd (cs := #[.int .i64 a0_0, .slice A0_1 l0_1.length c0_1, .slice A0_2 l0_2.length c0_2, .int .i64 a0_3]) (t := 31) ?hr ?_; (case hd => rfl); (case hg => rfl); (case hr => exact zq2); intro gb385 hg w26 hbox hb; have BK385 := Aside0.mk hbox; have GW385 := Aside0.mk (zq255 : w.heap.size ≤ gb385); have GE385 := Aside0.mk (zq255 : w.heap.size ≤ gb385); replace HB := sB zq3 hb; clear hb hbox hg) | ((with_reducible refine gate_dst (N := 4) rfl ?_); refine box_event ?hg (N := 4) ?hd (cs := #[.int .i64 0, .slice none 0 0, .slice none 0 0, .int .i64 0]) (t := 31) ?hr ?_; (case hd => rfl); (case hg => rfl); (case hr => exact zq2); intro gb386 hg w27 hbox hb; have BK386 := Aside0.mk hbox; have GW386 := Aside0.mk (zq272 : w.heap.size ≤ gb386); have GE386 := Aside0.mk (zq272 : w.heap.size ≤ gb386); replace HB := sB zq71 hb; have NB385_386 := Aside0.mk (zq273 : gb385 ≠ gb386); have NB386_385 := Aside0.mk (zq274 : gb386 ≠ gb385); replace BK385 := bF BK385 zq70 hb; clear hb hbox hg; have hnb28 := NB385_386.out; have hnc28 := NB386_385.out; obtain ⟨hcz29_0, hcz29_1, hcz29_2, hcz29_3, hfz29_0, hfz29_1, hfz29_2, hfz29_3⟩ := c4 (w := w27) BK385) | ((with_reducible refine gC 65 rfl ?_); refine gL 9 Try.func65 #[.agg #[.int .i64 a0_0, .slice A0_1 l0_1.length c0_1, .slice A0_2 l0_2.length c0_2, .int .i64 a0_3]] ?_; (with_reducible refine (impl_copyStore.calls a0_0 _ _ l0_1 _ _ l0_2 a0_3 t387 t388 t391 t394 _ ?_ ?_ ?_ ?_ A3.out).mono ?_); exact zq11; exact zq12; exact zq15; exact zq16; rintro e w30 ⟨v389, v392, rfl, ho0, ho1, hb⟩; refine ⟨_, rfl, ?_⟩; have HO390 := Aside0.mk (Kd.R_lower ho0 (below_size zq72)); have HO393 := Aside0.mk (Kd.R_lower ho1 (below_size zq72)); replace BK385 := bF BK385 zq70 hb; replace BK386 := bF BK386 zq73 hb; replace HB := sB zq72 hb; clear hb; (try clear ho0); (try clear ho1)) | ((with_reducible refine gate_dst (N := 6) rfl ?_); refine box_event ?hg (N := 6) ?hd (cs := #[.int .i64 0, .slice none 0 0, .slice none 0 0, .int .i64 0]) (t := 31) ?hr ?_; (case hd => rfl); (case hg => rfl); (case hr => exact zq2); intro gb395 hg w31 hbox hb; replace HO390 := rB zq74 hb; replace HO393 := rB zq75 hb; have BK395 := Aside0.mk hbox; have GW395 := Aside0.mk (zq275 : w.heap.size ≤ gb395); have GE395 := Aside0.mk (zq275 : w.heap.size ≤ gb395); replace HB := sB zq72 hb; have NB385_395 := Aside0.mk (zq273 : gb385 ≠ gb395); have NB395_385 := Aside0.mk (zq274 : gb395 ≠ gb385); replace BK385 := bF BK385 zq70 hb; have NB386_395 := Aside0.mk (zq276 : gb386 ≠ gb395); have NB395_386 := Aside0.mk (zq277 : gb395 ≠ gb386); replace BK386 := bF BK386 zq73 hb; clear hb hbox hg; have hnb32 := NB395_385.out; have hnc32 := NB385_395.out; have hnb33 := NB395_386.out; have hnc33 := NB386_395.out; obtain ⟨hcz34_0, hcz34_1, hcz34_2, hcz34_3, hfz34_0, hfz34_1, hfz34_2, hfz34_3⟩ := c4 (w := w31) BK395; obtain ⟨Ao35, co35, eo35⟩ := Kd.R_slice HO390.out; subst eo35; obtain ⟨Ao36, co36, eo36⟩ := Kd.R_slice HO393.out; subst eo36; obtain ⟨hcz37_0, hcz37_1, hcz37_2, hcz37_3, hfz37_0, hfz37_1, hfz37_2, hfz37_3⟩ := c4 (w := w31) BK385) | ((with_reducible refine gC 70 rfl ?_); refine gL 12 Try.func70 #[.agg #[.int .i64 a0_0, .slice A0_1 l0_1.length c0_1, .slice A0_2 l0_2.length c0_2, .int .i64 a0_3], .int .i64 a1] ?_; (with_reducible refine (impl_uploadOf.calls a0_0 _ _ l0_1 _ _ l0_2 a0_3 a1 t396 _ ?_ ?_ ?_ ?_ A4.out).mono ?_); exact zq278; exact zq12; exact zq279; exact zq16; rintro e w38 ⟨rfl, hb⟩; refine ⟨_, rfl, ?_⟩; replace HO390 := rB (by (with_reducible repeat (first | apply Kd.R_alloc | apply Kd.R_drewN | apply Kd.R_drew)); exact (Kd.R_mono (Kd.R_far (p := ⟨gb395, 3, none⟩) (Kd.R_far (p := ⟨gb395, 2, none⟩) (Kd.R_far (p := ⟨gb395, 1, none⟩) (Kd.R_far (p := ⟨gb395, 0, none⟩) (Kd.R_types HO390.out BK395.out (by decide)) (fun _ hk => hk.2) (.int .i64 t387)) (fun _ hk => hk.2) (.slice Ao35 t388.length co35)) (fun _ hk => hk.2) (.slice Ao36 t391.length co36)) (fun _ hk => hk.2) (.int .i64 t394)) (fun _ h_ => h_.1))) hb; replace HO393 := rB (by (with_reducible repeat (first | apply Kd.R_alloc | apply Kd.R_drewN | apply Kd.R_drew)); exact (Kd.R_mono (Kd.R_far (p := ⟨gb395, 3, none⟩) (Kd.R_far (p := ⟨gb395, 2, none⟩) (Kd.R_far (p := ⟨gb395, 1, none⟩) (Kd.R_far (p := ⟨gb395, 0, none⟩) (Kd.R_types HO393.out BK395.out (by decide)) (fun _ hk => hk.2) (.int .i64 t387)) (fun _ hk => hk.2) (.slice Ao35 t388.length co35)) (fun _ hk => hk.2) (.slice Ao36 t391.length co36)) (fun _ hk => hk.2) (.int .i64 t394)) (fun _ h_ => h_.1))) hb; replace BK385 := bF BK385 zq77 hb; replace BK386 := bF BK386 zq78 hb; replace BK395 := bB (g := gb395) (o := .cells #[.int .i64 t387, .slice Ao35 t388.length co35, .slice Ao36 t391.length co36, .int .i64 t394] 31 (0, 0)) (by (with_reducible repeat (first | refine blk_drewN ?_ _ | refine blk_drew ?_ | refine blk_alloc ?_ _)); refine blk_put (cs := #[.int .i64 t387, .slice Ao35 t388.length co35, .slice Ao36 t391.length co36, .int .i64 0]) ?_ 3 _ rfl; (with_reducible repeat (first | refine blk_drewN ?_ _ | refine blk_drew ?_ | refine blk_alloc ?_ _)); refine blk_put (cs := #[.int .i64 t387, .slice Ao35 t388.length co35, .slice none 0 0, .int .i64 0]) ?_ 2 _ rfl; (with_reducible repeat (first | refine blk_drewN ?_ _ | refine blk_drew ?_ | refine blk_alloc ?_ _)); refine blk_put (cs := #[.int .i64 t387, .slice none 0 0, .slice none 0 0, .int .i64 0]) ?_ 1 _ rfl; (with_reducible repeat (first | refine blk_drewN ?_ _ | refine blk_drew ?_ | refine blk_alloc ?_ _)); refine blk_put (cs := #[.int .i64 0, .slice none 0 0, .slice none 0 0, .int .i64 0]) ?_ 0 _ rfl; (with_reducible repeat (first | refine blk_drewN ?_ _ | refine blk_drew ?_ | refine blk_alloc ?_ _)); exact BK395.out) hb; replace HB := sB zq76 hb; clear hb; obtain ⟨hcz39_0, hcz39_1, hcz39_2, hcz39_3, hfz39_0, hfz39_1, hfz39_2, hfz39_3⟩ := c4 (w := w38) BK385) | ((with_reducible refine gC 55 rfl ?_); refine gL 14 Try.func55 #[.agg #[.int .i64 a0_0, .slice A0_1 l0_1.length c0_1, .slice A0_2 l0_2.length c0_2, .int .i64 a0_3]] ?_; (with_reducible refine (impl_isStore.calls k a0_0 _ _ l0_1 _ _ l0_2 a0_3 true _ ?_ ?_ ?_ ?_ A5.out).mono ?_); exact zq11; exact zq12; exact zq15; exact zq16; rintro e w40 ⟨rfl, hb⟩; refine ⟨_, rfl, ?_⟩; replace HO390 := rB zq74 hb; replace HO393 := rB zq75 hb; replace BK385 := bF BK385 zq70 hb; replace BK386 := bF BK386 zq73 hb; replace BK395 := bF BK395 zq79 hb; replace HB := sB zq76 hb; clear hb; obtain ⟨hcz41_0, hcz41_1, hcz41_2, hcz41_3, hfz41_0, hfz41_1, hfz41_2, hfz41_3⟩ := c4 (w := w40) BK395) | ((with_reducible refine gC 71 rfl ?_); refine gL 25 Try.func71 #[.slice Ao36 t391.length co36, .int .i64 t396, .int .i64 (wrap64 (t396 + 1))] ?_; (with_reducible refine (impl_Upload.calls (fun k_ => some k_ = (.slice Ao36 t391.length co36 : Value).ownBlock) (.slice Ao36 t391.length co36) t391 t396 (wrap64 (t396 + 1)) t398 w _ ?_ ?_ A25.out).mono ?_); exact zq76; exact Kd.R_tight rfl HO393.out; rintro e w42 ⟨v399, rfl, ho0, hb, hkp⟩; refine ⟨_, rfl, ?_⟩; have n0_ := Aside0.mk (blk_kept (by first | with_reducible exact BK385.out | exact blk_drewN BK385.out _ | exact blk_drewN (blk_drewN BK385.out _) _ | ((with_reducible repeat (first | refine blk_drewN ?_ _ | refine blk_drew ?_ | refine blk_alloc ?_ _)); exact BK385.out)) hkp (fun hs_ => (fun e_ => (Kd.R_ne HO393.out BK385.out (by decide)) e_) hs_)); have n1_ := Aside0.mk (blk_kept (by first | with_reducible exact BK386.out | exact blk_drewN BK386.out _ | exact blk_drewN (blk_drewN BK386.out _) _ | ((with_reducible repeat (first | refine blk_drewN ?_ _ | refine blk_drew ?_ | refine blk_alloc ?_ _)); exact BK386.out)) hkp (fun hs_ => (fun e_ => (Kd.R_ne HO393.out BK386.out (by decide)) e_) hs_)); have n2_ := Aside0.mk (Kd.R_mono (ok' := fun k_ => True) (Kd.R_keptB ((Kd.R_apart' HO390.out (Kd.R_typed HO393.out) (by decide))) hkp (fun k_ hk_ hs_ => by first | exact (hk_.2) hs_ | simp_all)) (fun k_ hk_ => trivial)); have n3_ := Aside0.mk (blk_kept (by first | with_reducible exact BK395.out | exact blk_drewN BK395.out _ | exact blk_drewN (blk_drewN BK395.out _) _ | ((with_reducible repeat (first | refine blk_drewN ?_ _ | refine blk_drew ?_ | refine blk_alloc ?_ _)); exact BK395.out)) hkp (fun hs_ => (fun e_ => (Kd.R_ne HO393.out BK395.out (by decide)) e_) hs_)); have n4_ := Aside0.mk (Kd.R_mono (ok' := fun k_ => True) ho0 (fun k_ hk_ => trivial)); have n5_ := Aside0.mk (hb); clear BK385; clear BK386; clear HO390; clear BK395; clear HB; clear HO393; have BK385 := n0_; have BK386 := n1_; have HO390 := n2_; have BK395 := n3_; have HO400 := n4_; have HB := n5_; clear n0_ n1_ n2_ n3_ n4_ n5_; clear hb; (try clear hkp); (try clear ho0); obtain ⟨Ao43, co43, eo43⟩ := Kd.R_slice HO400.out; subst eo43; obtain ⟨hcz44_0, hcz44_1, hcz44_2, hcz44_3, hfz44_0, hfz44_1, hfz44_2, hfz44_3⟩ := c4 (w := w42) BK395; obtain ⟨hcz45_0, hcz45_1, hcz45_2, hcz45_3, hfz45_0, hfz45_1, hfz45_2, hfz45_3⟩ := c4 (w := w42) BK386))
  refine bodyPost_ret (results_ct rfl _ _ gb386 31 #[.int .i64 t387, .slice Ao35 t388.length co35, .slice Ao43 t398.length co43, .int .i64 t394] (0, 0) _ rfl (by (with_reducible repeat (first | refine blk_drewN ?_ _ | refine blk_drew ?_ | refine blk_alloc ?_ _)); refine blk_put (cs := #[.int .i64 t387, .slice Ao35 t388.length co35, .slice Ao43 t398.length co43, .int .i64 0]) ?_ 3 _ rfl; (with_reducible repeat (first | refine blk_drewN ?_ _ | refine blk_drew ?_ | refine blk_alloc ?_ _)); refine blk_put (cs := #[.int .i64 t387, .slice Ao35 t388.length co35, .slice none 0 0, .int .i64 0]) ?_ 2 _ rfl; (with_reducible repeat (first | refine blk_drewN ?_ _ | refine blk_drew ?_ | refine blk_alloc ?_ _)); refine blk_put (cs := #[.int .i64 t387, .slice none 0 0, .slice none 0 0, .int .i64 0]) ?_ 1 _ rfl; (with_reducible repeat (first | refine blk_drewN ?_ _ | refine blk_drew ?_ | refine blk_alloc ?_ _)); refine blk_put (cs := #[.int .i64 0, .slice none 0 0, .slice none 0 0, .int .i64 0]) ?_ 0 _ rfl; (with_reducible repeat (first | refine blk_drewN ?_ _ | refine blk_drew ?_ | refine blk_alloc ?_ _)); refine blk_far ?_ NB386_395.out _; (with_reducible repeat (first | refine blk_drewN ?_ _ | refine blk_drew ?_ | refine blk_alloc ?_ _)); exact BK386.out) Try.underlying31 rfl (by kernel_rfl)) rfl ?_
  exact ⟨_, _, zq4, by (with_reducible repeat (first | apply Kd.R_alloc | apply Kd.R_drewN | apply Kd.R_drew)); exact Kd.R_mono (Kd.R_far (p := ⟨gb386, 3, none⟩) (Kd.R_far (p := ⟨gb386, 2, none⟩) (Kd.R_far (p := ⟨gb386, 1, none⟩) (Kd.R_far (p := ⟨gb386, 0, none⟩) (Kd.R_far (p := ⟨gb395, 2, none⟩) (Kd.R_types (Kd.R_types HO390.out BK395.out (by decide)) BK386.out (by decide)) (fun _ hk => hk.1.2) (.slice Ao43 t398.length co43)) (fun _ hk => hk.2) (.int .i64 t387)) (fun _ hk => hk.2) (.slice Ao35 t388.length co35)) (fun _ hk => hk.2) (.slice Ao43 t398.length co43)) (fun _ hk => hk.2) (.int .i64 t394)) (fun _ hk => trivial), by (with_reducible repeat (first | apply Kd.R_alloc | apply Kd.R_drewN | apply Kd.R_drew)); exact Kd.R_mono (Kd.R_far (p := ⟨gb386, 3, none⟩) (Kd.R_far (p := ⟨gb386, 2, none⟩) (Kd.R_far (p := ⟨gb386, 1, none⟩) (Kd.R_far (p := ⟨gb386, 0, none⟩) (Kd.R_far (p := ⟨gb395, 2, none⟩) (Kd.R_types (Kd.R_types HO400.out BK395.out (by decide)) BK386.out (by decide)) (fun _ hk => hk.1.2) (.slice Ao43 t398.length co43)) (fun _ hk => hk.2) (.int .i64 t387)) (fun _ hk => hk.2) (.slice Ao35 t388.length co35)) (fun _ hk => hk.2) (.slice Ao43 t398.length co43)) (fun _ hk => hk.2) (.int .i64 t394)) (fun _ hk => trivial), zq76⟩
 replace c6 := Bool.eq_false_iff.mpr c6
 subst c6
 have H1 : (some (0, ([] : List (S66)), ([] : List (S68)), 0, 1)) = some (r1, r2, r3, r4, r5) := by rw [if_neg (show ¬ (false = true) by decide)] at H; exact H
 clear H
 have H := H1
 clear H1
 simp only [Option.some.injEq, Prod.mk.injEq] at H
 obtain ⟨rfl, rfl, rfl, rfl, rfl⟩ := H
 go_enter Try.func34, Try.ntmps34
 go_wp2_with (first | ((with_reducible refine gate_dst (N := 2) rfl ?_); refine box_event ?hg (N := 2) ?hd (cs := #[.int .i64 a0_0, .slice A0_1 l0_1.length c0_1, .slice A0_2 l0_2.length c0_2, .int .i64 a0_3]) (t := 31) ?hr ?_; (case hd => rfl); (case hg => rfl); (case hr => exact zq2); intro gb385 hg w46 hbox hb; have BK385 := Aside0.mk hbox; have GW385 := Aside0.mk (zq255 : w.heap.size ≤ gb385); have GE385 := Aside0.mk (zq255 : w.heap.size ≤ gb385); replace HB := sB zq3 hb; clear hb hbox hg) | ((with_reducible refine gate_dst (N := 4) rfl ?_); refine box_event ?hg (N := 4) ?hd (cs := #[.int .i64 0, .slice none 0 0, .slice none 0 0, .int .i64 0]) (t := 31) ?hr ?_; (case hd => rfl); (case hg => rfl); (case hr => exact zq2); intro gb386 hg w47 hbox hb; have BK386 := Aside0.mk hbox; have GW386 := Aside0.mk (zq272 : w.heap.size ≤ gb386); have GE386 := Aside0.mk (zq272 : w.heap.size ≤ gb386); replace HB := sB zq71 hb; have NB385_386 := Aside0.mk (zq273 : gb385 ≠ gb386); have NB386_385 := Aside0.mk (zq274 : gb386 ≠ gb385); replace BK385 := bF BK385 zq70 hb; clear hb hbox hg; have hnb48 := NB385_386.out; have hnc48 := NB386_385.out; obtain ⟨hcz49_0, hcz49_1, hcz49_2, hcz49_3, hfz49_0, hfz49_1, hfz49_2, hfz49_3⟩ := c4 (w := w47) BK385) | ((with_reducible refine gC 65 rfl ?_); refine gL 9 Try.func65 #[.agg #[.int .i64 a0_0, .slice A0_1 l0_1.length c0_1, .slice A0_2 l0_2.length c0_2, .int .i64 a0_3]] ?_; (with_reducible refine (impl_copyStore.calls a0_0 _ _ l0_1 _ _ l0_2 a0_3 t387 t388 t391 t394 _ ?_ ?_ ?_ ?_ A3.out).mono ?_); exact zq11; exact zq12; exact zq15; exact zq16; rintro e w50 ⟨v389, v392, rfl, ho0, ho1, hb⟩; refine ⟨_, rfl, ?_⟩; have HO390 := Aside0.mk (Kd.R_lower ho0 (below_size zq72)); have HO393 := Aside0.mk (Kd.R_lower ho1 (below_size zq72)); replace BK385 := bF BK385 zq70 hb; replace BK386 := bF BK386 zq73 hb; replace HB := sB zq72 hb; clear hb; (try clear ho0); (try clear ho1)) | ((with_reducible refine gate_dst (N := 6) rfl ?_); refine box_event ?hg (N := 6) ?hd (cs := #[.int .i64 0, .slice none 0 0, .slice none 0 0, .int .i64 0]) (t := 31) ?hr ?_; (case hd => rfl); (case hg => rfl); (case hr => exact zq2); intro gb395 hg w51 hbox hb; replace HO390 := rB zq74 hb; replace HO393 := rB zq75 hb; have BK395 := Aside0.mk hbox; have GW395 := Aside0.mk (zq275 : w.heap.size ≤ gb395); have GE395 := Aside0.mk (zq275 : w.heap.size ≤ gb395); replace HB := sB zq72 hb; have NB385_395 := Aside0.mk (zq273 : gb385 ≠ gb395); have NB395_385 := Aside0.mk (zq274 : gb395 ≠ gb385); replace BK385 := bF BK385 zq70 hb; have NB386_395 := Aside0.mk (zq276 : gb386 ≠ gb395); have NB395_386 := Aside0.mk (zq277 : gb395 ≠ gb386); replace BK386 := bF BK386 zq73 hb; clear hb hbox hg; have hnb52 := NB395_385.out; have hnc52 := NB385_395.out; have hnb53 := NB395_386.out; have hnc53 := NB386_395.out; obtain ⟨hcz54_0, hcz54_1, hcz54_2, hcz54_3, hfz54_0, hfz54_1, hfz54_2, hfz54_3⟩ := c4 (w := w51) BK395; obtain ⟨Ao55, co55, eo55⟩ := Kd.R_slice HO390.out; subst eo55; obtain ⟨Ao56, co56, eo56⟩ := Kd.R_slice HO393.out; subst eo56; obtain ⟨hcz57_0, hcz57_1, hcz57_2, hcz57_3, hfz57_0, hfz57_1, hfz57_2, hfz57_3⟩ := c4 (w := w51) BK385) | ((with_reducible refine gC 70 rfl ?_); refine gL 12 Try.func70 #[.agg #[.int .i64 a0_0, .slice A0_1 l0_1.length c0_1, .slice A0_2 l0_2.length c0_2, .int .i64 a0_3], .int .i64 a1] ?_; (with_reducible refine (impl_uploadOf.calls a0_0 _ _ l0_1 _ _ l0_2 a0_3 a1 t396 _ ?_ ?_ ?_ ?_ A4.out).mono ?_); exact zq278; exact zq12; exact zq279; exact zq16; rintro e w58 ⟨rfl, hb⟩; refine ⟨_, rfl, ?_⟩; replace HO390 := rB (by (with_reducible repeat (first | apply Kd.R_alloc | apply Kd.R_drewN | apply Kd.R_drew)); exact (Kd.R_mono (Kd.R_far (p := ⟨gb395, 3, none⟩) (Kd.R_far (p := ⟨gb395, 2, none⟩) (Kd.R_far (p := ⟨gb395, 1, none⟩) (Kd.R_far (p := ⟨gb395, 0, none⟩) (Kd.R_types HO390.out BK395.out (by decide)) (fun _ hk => hk.2) (.int .i64 t387)) (fun _ hk => hk.2) (.slice Ao55 t388.length co55)) (fun _ hk => hk.2) (.slice Ao56 t391.length co56)) (fun _ hk => hk.2) (.int .i64 t394)) (fun _ h_ => h_.1))) hb; replace HO393 := rB (by (with_reducible repeat (first | apply Kd.R_alloc | apply Kd.R_drewN | apply Kd.R_drew)); exact (Kd.R_mono (Kd.R_far (p := ⟨gb395, 3, none⟩) (Kd.R_far (p := ⟨gb395, 2, none⟩) (Kd.R_far (p := ⟨gb395, 1, none⟩) (Kd.R_far (p := ⟨gb395, 0, none⟩) (Kd.R_types HO393.out BK395.out (by decide)) (fun _ hk => hk.2) (.int .i64 t387)) (fun _ hk => hk.2) (.slice Ao55 t388.length co55)) (fun _ hk => hk.2) (.slice Ao56 t391.length co56)) (fun _ hk => hk.2) (.int .i64 t394)) (fun _ h_ => h_.1))) hb; replace BK385 := bF BK385 zq77 hb; replace BK386 := bF BK386 zq78 hb; replace BK395 := bB (g := gb395) (o := .cells #[.int .i64 t387, .slice Ao55 t388.length co55, .slice Ao56 t391.length co56, .int .i64 t394] 31 (0, 0)) (by (with_reducible repeat (first | refine blk_drewN ?_ _ | refine blk_drew ?_ | refine blk_alloc ?_ _)); refine blk_put (cs := #[.int .i64 t387, .slice Ao55 t388.length co55, .slice Ao56 t391.length co56, .int .i64 0]) ?_ 3 _ rfl; (with_reducible repeat (first | refine blk_drewN ?_ _ | refine blk_drew ?_ | refine blk_alloc ?_ _)); refine blk_put (cs := #[.int .i64 t387, .slice Ao55 t388.length co55, .slice none 0 0, .int .i64 0]) ?_ 2 _ rfl; (with_reducible repeat (first | refine blk_drewN ?_ _ | refine blk_drew ?_ | refine blk_alloc ?_ _)); refine blk_put (cs := #[.int .i64 t387, .slice none 0 0, .slice none 0 0, .int .i64 0]) ?_ 1 _ rfl; (with_reducible repeat (first | refine blk_drewN ?_ _ | refine blk_drew ?_ | refine blk_alloc ?_ _)); refine blk_put (cs := #[.int .i64 0, .slice none 0 0, .slice none 0 0, .int .i64 0]) ?_ 0 _ rfl; (with_reducible repeat (first | refine blk_drewN ?_ _ | refine blk_drew ?_ | refine blk_alloc ?_ _)); exact BK395.out) hb; replace HB := sB zq76 hb; clear hb; obtain ⟨hcz59_0, hcz59_1, hcz59_2, hcz59_3, hfz59_0, hfz59_1, hfz59_2, hfz59_3⟩ := c4 (w := w58) BK385) | ((with_reducible refine gC 55 rfl ?_); refine gL 14 Try.func55 #[.agg #[.int .i64 a0_0, .slice A0_1 l0_1.length c0_1, .slice A0_2 l0_2.length c0_2, .int .i64 a0_3]] ?_; (with_reducible refine (impl_isStore.calls k a0_0 _ _ l0_1 _ _ l0_2 a0_3 false _ ?_ ?_ ?_ ?_ A5.out).mono ?_); exact zq11; exact zq12; exact zq15; exact zq16; rintro e w60 ⟨rfl, hb⟩; refine ⟨_, rfl, ?_⟩; replace HO390 := rB zq74 hb; replace HO393 := rB zq75 hb; replace BK385 := bF BK385 zq70 hb; replace BK386 := bF BK386 zq73 hb; replace BK395 := bF BK395 zq79 hb; replace HB := sB zq76 hb; clear hb; obtain ⟨hcz61_0, hcz61_1, hcz61_2, hcz61_3, hfz61_0, hfz61_1, hfz61_2, hfz61_3⟩ := c4 (w := w60) BK386))
 refine bodyPost_ret (results_ct rfl _ _ gb386 31 #[.int .i64 0, .slice none 0 0, .slice none 0 0, .int .i64 0] (0, 0) _ rfl (by (with_reducible repeat (first | refine blk_drewN ?_ _ | refine blk_drew ?_ | refine blk_alloc ?_ _)); refine blk_put (cs := #[.int .i64 0, .slice none 0 0, .slice none 0 0, .int .i64 0]) ?_ 3 _ rfl; (with_reducible repeat (first | refine blk_drewN ?_ _ | refine blk_drew ?_ | refine blk_alloc ?_ _)); refine blk_put (cs := #[.int .i64 0, .slice none 0 0, .slice none 0 0, .int .i64 0]) ?_ 2 _ rfl; (with_reducible repeat (first | refine blk_drewN ?_ _ | refine blk_drew ?_ | refine blk_alloc ?_ _)); refine blk_put (cs := #[.int .i64 0, .slice none 0 0, .slice none 0 0, .int .i64 0]) ?_ 1 _ rfl; (with_reducible repeat (first | refine blk_drewN ?_ _ | refine blk_drew ?_ | refine blk_alloc ?_ _)); refine blk_put (cs := #[.int .i64 0, .slice none 0 0, .slice none 0 0, .int .i64 0]) ?_ 0 _ rfl; (with_reducible repeat (first | refine blk_drewN ?_ _ | refine blk_drew ?_ | refine blk_alloc ?_ _)); exact BK386.out) Try.underlying31 rfl (by kernel_rfl)) rfl ?_
 exact ⟨_, _, zq4, zq80, zq80, zq76⟩

end Go.Proofs.Ytacaeebjanglgaa.QFnExactAbort
