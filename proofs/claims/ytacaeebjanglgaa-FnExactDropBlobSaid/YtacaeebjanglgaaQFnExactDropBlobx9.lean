/- Written by wip/myprint.py of this repo (the kit's print, with additions of this session). -/
import Derived.Test.YtacaeebjanglgaaQFnExactDropBlobx0
import Derived.Test.YtacaeebjanglgaaQFnExactDropBlobx8
set_option maxRecDepth 100000
namespace Go.Proofs.Ytacaeebjanglgaa.QFnExactDropBlob
open Go.RowKit Go.Proofs.YtacaeebjanglgaaW.PrintWords Go.Proofs.YtacaeebjanglgaaW.PrintLast Go.Proofs.YtacaeebjanglgaaW.PrintMore
attribute [local go_sem] max2_int min2_int max_two min_two max_three min_three max_four min_four   -- for this text's walks alone
set_option linter.unusedVariables false
set_option linter.unusedSimpArgs false

/-! ### spec_l6Blob: function 59 -/
def spec_l6Blob.l0 : Nat → ByteArray → Int → Int → List (S66) → List (S68) → Int → Option (Int)
 | 0, _, _, _, _, _, _ => none
 | k + 1, x1, x5, x289000, x289001, x289002, x289003 => if x5 < (x289001.length : Int) then (if 0 ≤ x5 then (if ((rd_T66 x289001 x5).f0).toList = x1.toList then (some x5) else (spec_l6Blob.l0 k x1 (wrap64 (x5 + 1)) x289000 x289001 x289002 x289003)) else (none)) else (some (-1))
def spec_l6Blob.f (k : Nat) (a0_0 : Int) (l0_1 : List (S66)) (l0_2 : List (S68)) (a0_3 : Int) (a1 : ByteArray) : Option (Int) := spec_l6Blob.l0 k a1 0 a0_0 l0_1 l0_2 a0_3
theorem spec_l6Blob.mono_l : ∀ k, (∀ y0 y1 y2 y3 y4 y5, LeO (spec_l6Blob.l0 k y0 y1 y2 y3 y4 y5) (spec_l6Blob.l0 (k + 1) y0 y1 y2 y3 y4 y5))
 | 0 => fun _ _ _ _ _ _ r h => by simp [spec_l6Blob.l0] at h
 | k + 1 => by
  have ih0 := spec_l6Blob.mono_l k
  ·
   intro y0 y1 y2 y3 y4 y5
   unfold spec_l6Blob.l0
   repeat' first
   | (with_reducible exact ih0 _ _ _ _ _ _)
   | (with_reducible exact LeO.refl _)
   | (with_reducible exact LeO.none _)
   | (with_reducible refine LeO.ite ?_ ?_)
   | (with_reducible refine LeO.bind ?_ (fun _ => ?_))
   | exact LeO.none _
   | refine LeO.ite ?_ ?_
   | refine LeO.bind ?_ (fun _ => ?_)
theorem spec_l6Blob.mono : ∀ a0 a1 a2 a3 a4 k, LeO (spec_l6Blob.f k a0 a1 a2 a3 a4) (spec_l6Blob.f (k + 1) a0 a1 a2 a3 a4) := by
 intro a0 a1 a2 a3 a4 k
 have ih0 := spec_l6Blob.mono_l k
 unfold spec_l6Blob.f
 repeat' first
   | (with_reducible exact ih0 _ _ _ _ _ _)
   | (with_reducible exact LeO.refl _)
   | (with_reducible exact LeO.none _)
   | (with_reducible refine LeO.ite ?_ ?_)
   | (with_reducible refine LeO.bind ?_ (fun _ => ?_))
   | exact LeO.none _
   | refine LeO.ite ?_ ?_
   | refine LeO.bind ?_ (fun _ => ?_)
set_option maxHeartbeats 8000000 in
set_option maxRecDepth 100000 in
theorem spec_l6Blob.calls (k : Nat) (a0_0 : Int) (A0_1 : Option Addr) (c0_1 : Nat) (l0_1 : List (S66)) (A0_2 : Option Addr) (c0_2 : Nat) (l0_2 : List (S68)) (a0_3 : Int) (a1 : ByteArray) (r : Int) (w : World) (hr0_1 : Kd.C k66 w A0_1 l0_1.length l0_1) (hc0_1 : l0_1.length ≤ c0_1) (hr0_2 : Kd.C k68 w A0_2 l0_2.length l0_2) (hc0_2 : l0_2.length ≤ c0_2) (h : spec_l6Blob.f k a0_0 l0_1 l0_2 a0_3 a1 = some r) :
  Calls Try.prog 59 #[.agg #[.int .i64 a0_0, .slice A0_1 l0_1.length c0_1, .slice A0_2 l0_2.length c0_2, .int .i64 a0_3], .string a1] w fun e w' => e = .returned (.int .i64 r) ∧ Below w.heap.size w w' := by
 have hu31 := Try.underlying31
 have HR0_1 := Aside0.mk hr0_1
 have HC0_1 := Aside0.mk hc0_1
 clear hr0_1 hc0_1
 have HR0_2 := Aside0.mk hr0_2
 have HC0_2 := Aside0.mk hc0_2
 clear hr0_2 hc0_2
 have HB := Aside0.mk (Below.refl w.heap.size w)
 have H : (spec_l6Blob.l0 k a1 0 a0_0 l0_1 l0_2 a0_3) = some r := h
 clear h
 have H' := Aside0.mk H
 clear H
 go_enter Try.func59, Try.ntmps59
 go_wp2_with (first | ((with_reducible refine gate_dst (N := 2) rfl ?_); refine box_event ?hg (N := 2) ?hd (cs := #[.int .i64 a0_0, .slice A0_1 l0_1.length c0_1, .slice A0_2 l0_2.length c0_2, .int .i64 a0_3]) (t := 31) ?hr ?_; (case hd => rfl); (case hg => rfl); (case hr => exact zq2); intro gb288 hg w3 hbox hb; have BK288 := Aside0.mk hbox; have GW288 := Aside0.mk (zq254 : w.heap.size ≤ gb288); have GE288 := Aside0.mk (zq254 : w.heap.size ≤ gb288); replace HB := sB zq3 hb; clear hb hbox hg))
 go_loopg [5] k (fun kq v5 w' => ∃ (x5_1 : Int), v5 = .int .i64 x5_1 ∧ Aside0 (spec_l6Blob.l0 kq a1 x5_1 a0_0 l0_1 l0_2 a0_3 = some r) ∧ Aside0 (kq ≤ k) ∧ Aside0 (w'.heap[gb288]? = some (.cells #[.int .i64 a0_0, (.slice A0_1 l0_1.length c0_1), (.slice A0_2 l0_2.length c0_2), .int .i64 a0_3] 31 (0, 0))) ∧ Aside0 (Below w.heap.size w w'))
 case atStart => exact ⟨(0), zq6, H', ⟨Nat.le_refl _⟩, ⟨zq232⟩, ⟨zq233⟩⟩
 case round =>
  clear H'
  try clear p2
  obtain ⟨x5_1, rfl, HA, HK1, BK288, HB⟩ := hrel
  cases gk with
  | zero => exact absurd HA.out (by simp [spec_l6Blob.l0])
  | succ k1 =>
   have H := HA.out
   clear HA
   simp only [spec_l6Blob.l0] at H
   by_cases c4 : x5_1 < (l0_1.length : Int)
   ·
    rw [if_pos c4] at H
    have c4b0 := decide_eq_true c4
    clear c4
    by_cases c5 : 0 ≤ x5_1
    ·
     rw [if_pos c5] at H
     have c5b0 := decide_eq_true c5
     clear c5
     by_cases c6 : ((rd_T66 l0_1 x5_1).f0).toList = a1.toList
     ·
      rw [if_pos c6] at H
      have c6b0 : (((rd_T66 l0_1 x5_1).f0).toList == a1.toList) = true := beq_iff_eq.mpr c6
      have c6b1 : (((rd_T66 l0_1 x5_1).f0).toList != a1.toList) = false := bne_eq_false_iff_eq.mpr c6
      clear c6
      obtain rfl := Option.some.inj H
      obtain ⟨hcz7_0, hcz7_1, hcz7_2, hcz7_3, hfz7_0, hfz7_1, hfz7_2, hfz7_3⟩ := c4 (w := wr) BK288
      have p289 : 0 ≤ (x5_1 : Int) := of_decide_eq_true zq7
      have q289 : x5_1 < (l0_1.length : Int) := of_decide_eq_true zq7
      obtain ⟨ad289, e289, hx289_0, hx289_1⟩ := at_T66 HR0_1.out x5_1 p289 q289
      cases e289
      replace hx289_0 := (HB.out.cell (World.block_lt_of_cell? w _ hx289_0)).trans hx289_0
      replace hx289_1 := (HB.out.cell (World.block_lt_of_cell? w _ hx289_1)).trans hx289_1
      replace p289 := eq_true p289
      replace q289 := eq_true q289
      go_wp2
      go_ret
      exact ⟨zq4, zq233⟩
     rw [if_neg c6] at H
     have c6b0 : (((rd_T66 l0_1 x5_1).f0).toList == a1.toList) = false := beq_eq_false_iff_ne.mpr c6
     have c6b1 : (((rd_T66 l0_1 x5_1).f0).toList != a1.toList) = true := bne_iff_ne.mpr c6
     have H' := Aside0.mk H
     clear H
     obtain ⟨hcz8_0, hcz8_1, hcz8_2, hcz8_3, hfz8_0, hfz8_1, hfz8_2, hfz8_3⟩ := c4 (w := wr) BK288
     have p289 : 0 ≤ (x5_1 : Int) := of_decide_eq_true zq7
     have q289 : x5_1 < (l0_1.length : Int) := of_decide_eq_true zq7
     obtain ⟨ad289, e289, hx289_0, hx289_1⟩ := at_T66 HR0_1.out x5_1 p289 q289
     cases e289
     replace hx289_0 := (HB.out.cell (World.block_lt_of_cell? w _ hx289_0)).trans hx289_0
     replace hx289_1 := (HB.out.cell (World.block_lt_of_cell? w _ hx289_1)).trans hx289_1
     replace p289 := eq_true p289
     replace q289 := eq_true q289
     go_wp2
     go_roundg k1
     case measure => have := HK1.out; omega
     case rel => exact ⟨(wrap64 (x5_1 + 1)), zq6, H', ⟨zq9⟩, ⟨zq232⟩, ⟨zq233⟩⟩
    exact zq307
   rw [if_neg c4] at H
   have c4b0 := decide_eq_false c4
   clear c4
   obtain rfl := Option.some.inj H
   obtain ⟨hcz9_0, hcz9_1, hcz9_2, hcz9_3, hfz9_0, hfz9_1, hfz9_2, hfz9_3⟩ := c4 (w := wr) BK288
   go_wp2
   go_ret
   exact ⟨zq4, zq233⟩

/-! ### spec_l6Copy: function 68 -/
def spec_l6Copy.f (a0_0 : Int) (l0_1 : List (S66)) (l0_2 : List (S68)) (a0_3 : Int) : Option (Int × (List (S66)) × (List (S68)) × Int) := (some (([] : List (S66)) : List (S66))).bind fun y292 => (if y292.length + l0_1.length < 4398046511104 then ((some (([] : List (S68)) : List (S68))).bind fun y298 => (if y298.length + l0_2.length < 5864062014805 then (some (a0_0, (y292 ++ l0_1), (y298 ++ l0_2), a0_3)) else (none))) else (none))
set_option maxHeartbeats 8000000 in
set_option maxRecDepth 100000 in
theorem spec_l6Copy.calls (a0_0 : Int) (A0_1 : Option Addr) (c0_1 : Nat) (l0_1 : List (S66)) (A0_2 : Option Addr) (c0_2 : Nat) (l0_2 : List (S68)) (a0_3 : Int) (r1 : Int) (r2 : List (S66)) (r3 : List (S68)) (r4 : Int) (w : World) (hr0_1 : Kd.C k66 w A0_1 l0_1.length l0_1) (hc0_1 : l0_1.length ≤ c0_1) (hr0_2 : Kd.C k68 w A0_2 l0_2.length l0_2) (hc0_2 : l0_2.length ≤ c0_2) (h : spec_l6Copy.f a0_0 l0_1 l0_2 a0_3 = some (r1, r2, r3, r4)) :
  Calls Try.prog 68 #[.agg #[.int .i64 a0_0, .slice A0_1 l0_1.length c0_1, .slice A0_2 l0_2.length c0_2, .int .i64 a0_3]] w fun e w' => ∃ v1_ v2_ : Value, e = .returned (.agg #[.int .i64 r1, v1_, v2_, .int .i64 r4]) ∧ Kd.R k66 66 w' w.heap.size (fun _ => True) v1_ r2 ∧ Kd.R k68 68 w' w.heap.size (fun _ => True) v2_ r3 ∧ Below w.heap.size w w' := by
 have hu31 := Try.underlying31
 have HR0_1 := Aside0.mk hr0_1
 have HC0_1 := Aside0.mk hc0_1
 clear hr0_1 hc0_1
 have HR0_2 := Aside0.mk hr0_2
 have HC0_2 := Aside0.mk hc0_2
 clear hr0_2 hc0_2
 have HB := Aside0.mk (Below.refl w.heap.size w)
 have H : ((some (([] : List (S66)) : List (S66))).bind fun y292 => (if y292.length + l0_1.length < 4398046511104 then ((some (([] : List (S68)) : List (S68))).bind fun y298 => (if y298.length + l0_2.length < 5864062014805 then (some (a0_0, (y292 ++ l0_1), (y298 ++ l0_2), a0_3)) else (none))) else (none))) = some (r1, r2, r3, r4) := h
 clear h
 obtain ⟨y292, hy292⟩ : ∃ y_ : List (S66), y_ = (([] : List (S66))) := ⟨_, rfl⟩
 replace H : (if y292.length + l0_1.length < 4398046511104 then ((some (([] : List (S68)) : List (S68))).bind fun y298 => (if y298.length + l0_2.length < 5864062014805 then (some (a0_0, (y292 ++ l0_1), (y298 ++ l0_2), a0_3)) else (none))) else (none)) = some (r1, r2, r3, r4) := by first | (rw [hy292]; with_reducible exact H) | (have H2_ := (Option.bind_some _ _).symm.trans H; rw [hy292]; with_reducible exact H2_) | (have H2_ := (Option.bind_some _ _).symm.trans H; with_reducible exact H2_) | with_reducible exact H | (rw [hy292]; exact H) | exact H
 have Ny292 := Aside0.mk hy292
 clear hy292
 by_cases c2 : y292.length + l0_1.length < 4398046511104
 ·
  rw [if_pos c2] at H
  have LMc2 := Aside0.mk c2
  clear c2
  obtain ⟨y295, hy295⟩ : ∃ y_ : List (S66), y_ = (y292 ++ l0_1) := ⟨_, rfl⟩
  replace H : ((some (([] : List (S68)) : List (S68))).bind fun y298 => (if y298.length + l0_2.length < 5864062014805 then (some (a0_0, y295, (y298 ++ l0_2), a0_3)) else (none))) = some (r1, r2, r3, r4) := by first | (rw [hy295]; with_reducible exact H) | (have H2_ := (Option.bind_some _ _).symm.trans H; rw [hy295]; with_reducible exact H2_) | (have H2_ := (Option.bind_some _ _).symm.trans H; with_reducible exact H2_) | with_reducible exact H | (rw [hy295]; exact H) | exact H
  have Ny295 := Aside0.mk hy295
  clear hy295
  obtain ⟨y298, hy298⟩ : ∃ y_ : List (S68), y_ = (([] : List (S68))) := ⟨_, rfl⟩
  replace H : (if y298.length + l0_2.length < 5864062014805 then (some (a0_0, y295, (y298 ++ l0_2), a0_3)) else (none)) = some (r1, r2, r3, r4) := by first | (rw [hy298]; with_reducible exact H) | (have H2_ := (Option.bind_some _ _).symm.trans H; rw [hy298]; with_reducible exact H2_) | (have H2_ := (Option.bind_some _ _).symm.trans H; with_reducible exact H2_) | with_reducible exact H | (rw [hy298]; exact H) | exact H
  have Ny298 := Aside0.mk hy298
  clear hy298
  by_cases c3 : y298.length + l0_2.length < 5864062014805
  ·
   rw [if_pos c3] at H
   have LMc3 := Aside0.mk c3
   clear c3
   obtain ⟨y301, hy301⟩ : ∃ y_ : List (S68), y_ = (y298 ++ l0_2) := ⟨_, rfl⟩
   replace H : (some (a0_0, y295, y301, a0_3)) = some (r1, r2, r3, r4) := by first | (rw [hy301]; with_reducible exact H) | (have H2_ := (Option.bind_some _ _).symm.trans H; rw [hy301]; with_reducible exact H2_) | (have H2_ := (Option.bind_some _ _).symm.trans H; with_reducible exact H2_) | with_reducible exact H | (rw [hy301]; exact H) | exact H
   have Ny301 := Aside0.mk hy301
   clear hy301
   simp only [Option.some.injEq, Prod.mk.injEq] at H
   obtain ⟨rfl, rfl, rfl, rfl⟩ := H
   go_enter Try.func68, Try.ntmps68
   go_wp2_with (first | ((with_reducible refine gate_dst (N := 1) rfl ?_); refine box_event ?hg (N := 1) ?hd (cs := #[.int .i64 a0_0, .slice A0_1 l0_1.length c0_1, .slice A0_2 l0_2.length c0_2, .int .i64 a0_3]) (t := 31) ?hr ?_; (case hd => rfl); (case hg => rfl); (case hr => exact zq2); intro gb290 hg w4 hbox hb; have BK290 := Aside0.mk hbox; have GW290 := Aside0.mk (zq254 : w.heap.size ≤ gb290); have GE290 := Aside0.mk (zq254 : w.heap.size ≤ gb290); replace HB := sB zq3 hb; clear hb hbox hg) | ((with_reducible refine gate_dst (N := 2) rfl ?_); refine box_event ?hg (N := 2) ?hd (cs := #[.int .i64 0, .slice none 0 0, .slice none 0 0, .int .i64 0]) (t := 31) ?hr ?_; (case hd => rfl); (case hg => rfl); (case hr => exact zq2); intro gb291 hg w5 hbox hb; have BK291 := Aside0.mk hbox; have GW291 := Aside0.mk (by rw [hg]; exact (below_size zq235) : w.heap.size ≤ gb291); have GE291 := Aside0.mk (by rw [hg]; exact (below_size zq235) : w.heap.size ≤ gb291); replace HB := sB zq235 hb; have NB290_291 := Aside0.mk (by rw [hg]; exact Nat.ne_of_lt (blk_lt (g := gb290) (o := .cells #[.int .i64 a0_0, .slice A0_1 l0_1.length c0_1, .slice A0_2 l0_2.length c0_2, .int .i64 a0_3] 31 (0, 0)) zq234) : gb290 ≠ gb291); have NB291_290 := Aside0.mk (by rw [hg]; exact Nat.ne_of_gt (blk_lt (g := gb290) (o := .cells #[.int .i64 a0_0, .slice A0_1 l0_1.length c0_1, .slice A0_2 l0_2.length c0_2, .int .i64 a0_3] 31 (0, 0)) zq234) : gb291 ≠ gb290); replace BK290 := bF BK290 zq234 hb; clear hb hbox hg) | ((with_reducible refine gate_dst (N := 3) rfl ?_); refine Kd.R_lit k66 _ 66 ?hg (N := 3) ?hd (xs := ([] : List (S66))) (inner := []) (ok := fun _ => True) (okp := fun _ => True) ?hr ?hp (fun _ hk => hk) trivial (Below.refl _ _) (Nat.le_refl _) (by simp) ?_; (case hd => rfl); (case hg => rfl); (case hr => exact zq2); (case hp => exact zq41); intro v293 w6 ho7 hb hg_ hnew_; clear hg_ hnew_; (first | rw [← Ny292.out] at ho7 | (simp only [Int.reduceToNat] at ho7; rw [← Ny292.out] at ho7)); have HO294 := Aside0.mk (Kd.R_lower ho7 (below_size zq236)); replace BK290 := bF BK290 zq234 hb; replace BK291 := bF BK291 zq237 hb; replace HB := sB zq236 hb; clear hb ho7; have hnb8 := NB290_291.out; have hnc8 := NB291_290.out; obtain ⟨hcz9_0, hcz9_1, hcz9_2, hcz9_3, hfz9_0, hfz9_1, hfz9_2, hfz9_3⟩ := c4 (w := w6) BK290) | ((with_reducible refine gate_builtin (b := .append) (xs := #[.tmp 3, .tmp 5]) rfl ?_); at_builtin; refine Kd.R_append_rows k66 (w0 := w) w.heap.size rfl (.tmp 3) (.tmp 5) 28 66 (.agg #[(.string ⟨#[]⟩), (.string ⟨#[]⟩)]) 32 rfl Try.underlying28 info66 rfl (by decide) (by omega) v293 y292 l0_1 _ _ _ (fun _ => True) (fun _ => False) rfl rfl ?aO ?aR (fun _ _ h => h) (fun _ h => h.elim) ?aF ?aB ?aS ?aL ?_; (case aR => exact zq11); (case aB => exact zq236); (case aF => exact zq39); (case aO => exact (by (with_reducible repeat (first | apply Kd.R_alloc | apply Kd.R_drewN | apply Kd.R_drew)); exact HO294.out)); (case aS => exact (below_size zq236)); (case aL => have := LMc2.out; omega); intro v296 w10 ho hb hg hat; rw [← Ny295.out] at ho; have n0_ := Aside0.mk (blk_grown (g := gb290) (o := .cells #[.int .i64 a0_0, .slice A0_1 l0_1.length c0_1, .slice A0_2 l0_2.length c0_2, .int .i64 a0_3] 31 (0, 0)) zq234 hg (Kd.R_ne HO294.out BK290.out (by decide))); have n1_ := Aside0.mk (blk_grown (g := gb291) (o := .cells #[.int .i64 0, .slice none 0 0, .slice none 0 0, .int .i64 0] 31 (0, 0)) zq237 hg (Kd.R_ne HO294.out BK291.out (by decide))); have n2_ := Aside0.mk (hb); have n3_ := Aside0.mk (ho); clear BK290; clear BK291; clear HB; clear HO294; have BK290 := n0_; have BK291 := n1_; have HB := n2_; have HO297 := n3_; clear n0_ n1_ n2_ n3_; clear ho hb hg hat; obtain ⟨Ao11, co11, eo11⟩ := Kd.R_slice HO297.out; subst eo11; obtain ⟨hcz12_0, hcz12_1, hcz12_2, hcz12_3, hfz12_0, hfz12_1, hfz12_2, hfz12_3⟩ := c4 (w := w10) BK290) | ((with_reducible refine gate_dst (N := 8) rfl ?_); refine Kd.R_lit k68 _ 68 ?hg (N := 8) ?hd (xs := ([] : List (S68))) (inner := []) (ok := fun _ => True) (okp := fun _ => True) ?hr ?hp (fun _ hk => hk) trivial (Below.refl _ _) (Nat.le_refl _) (by simp) ?_; (case hd => rfl); (case hg => rfl); (case hr => exact zq2); (case hp => exact zq41); intro v299 w13 ho14 hb hg_ hnew_; clear hg_ hnew_; (first | rw [← Ny298.out] at ho14 | (simp only [Int.reduceToNat] at ho14; rw [← Ny298.out] at ho14)); replace HO297 := rB (by (with_reducible repeat (first | apply Kd.R_alloc | apply Kd.R_drewN | apply Kd.R_drew)); exact (Kd.R_mono (Kd.R_far (p := ⟨gb290, 1, none⟩) (Kd.R_types HO297.out BK290.out (by decide)) (fun _ hk => hk.2) (.slice Ao11 y295.length co11)) (fun _ h_ => h_.1))) hb; have HO300 := Aside0.mk (Kd.R_lower ho14 (below_size zq236)); replace BK290 := bB (g := gb290) (o := .cells #[.int .i64 a0_0, .slice Ao11 y295.length co11, .slice A0_2 l0_2.length c0_2, .int .i64 a0_3] 31 (0, 0)) (by (with_reducible repeat (first | refine blk_drewN ?_ _ | refine blk_drew ?_ | refine blk_alloc ?_ _)); refine blk_put (cs := #[.int .i64 a0_0, .slice A0_1 l0_1.length c0_1, .slice A0_2 l0_2.length c0_2, .int .i64 a0_3]) ?_ 1 _ rfl; (with_reducible repeat (first | refine blk_drewN ?_ _ | refine blk_drew ?_ | refine blk_alloc ?_ _)); exact BK290.out) hb; replace BK291 := bF BK291 (by (with_reducible repeat (first | refine blk_drewN ?_ _ | refine blk_drew ?_ | refine blk_alloc ?_ _)); refine blk_far ?_ NB291_290.out _; (with_reducible repeat (first | refine blk_drewN ?_ _ | refine blk_drew ?_ | refine blk_alloc ?_ _)); exact BK291.out) hb; replace HB := sB zq236 hb; clear hb ho14; obtain ⟨hcz15_0, hcz15_1, hcz15_2, hcz15_3, hfz15_0, hfz15_1, hfz15_2, hfz15_3⟩ := c4 (w := w13) BK290) | ((with_reducible refine gate_builtin (b := .append) (xs := #[.tmp 8, .tmp 10]) rfl ?_); at_builtin; refine Kd.R_append_rows k68 (w0 := w) w.heap.size rfl (.tmp 8) (.tmp 10) 29 68 (.agg #[(.int .i64 0), (.string ⟨#[]⟩)]) 24 rfl Try.underlying29 info68 rfl (by decide) (by omega) v299 y298 l0_2 _ _ _ (fun _ => True) (fun _ => False) rfl rfl ?aO ?aR (fun _ _ h => h) (fun _ h => h.elim) ?aF ?aB ?aS ?aL ?_; (case aR => exact zq15); (case aB => exact zq236); (case aF => exact zq39); (case aO => exact zq238); (case aS => exact (below_size zq236)); (case aL => have := LMc3.out; omega); intro v302 w16 ho hb hg hat; rw [← Ny301.out] at ho; have n0_ := Aside0.mk (blk_grown (g := gb290) (o := .cells #[.int .i64 a0_0, .slice Ao11 y295.length co11, .slice A0_2 l0_2.length c0_2, .int .i64 a0_3] 31 (0, 0)) zq234 hg (Kd.R_ne HO300.out BK290.out (by decide))); have n1_ := Aside0.mk (blk_grown (g := gb291) (o := .cells #[.int .i64 0, .slice none 0 0, .slice none 0 0, .int .i64 0] 31 (0, 0)) zq237 hg (Kd.R_ne HO300.out BK291.out (by decide))); have n2_ := Aside0.mk (Kd.R_over' (by (with_reducible repeat (first | apply Kd.R_alloc | apply Kd.R_drewN | apply Kd.R_drew)); exact HO297.out) (Kd.R_typed zq238) (by decide) hg); have n3_ := Aside0.mk (hb); have n4_ := Aside0.mk (ho); clear BK290; clear BK291; clear HO297; clear HB; clear HO300; have BK290 := n0_; have BK291 := n1_; have HO297 := n2_; have HB := n3_; have HO303 := n4_; clear n0_ n1_ n2_ n3_ n4_; clear ho hb hg hat; obtain ⟨Ao17, co17, eo17⟩ := Kd.R_slice HO303.out; subst eo17; obtain ⟨hcz18_0, hcz18_1, hcz18_2, hcz18_3, hfz18_0, hfz18_1, hfz18_2, hfz18_3⟩ := c4 (w := w16) BK290; obtain ⟨hcz19_0, hcz19_1, hcz19_2, hcz19_3, hfz19_0, hfz19_1, hfz19_2, hfz19_3⟩ := c4 (w := w16) BK291))
   refine bodyPost_ret (results_cell_row rfl _ _ gb291 31 #[.int .i64 a0_0, .slice Ao11 y295.length co11, .slice Ao17 y301.length co17, .int .i64 a0_3] (0, 0) _ rfl (by (with_reducible repeat (first | refine blk_drewN ?_ _ | refine blk_drew ?_ | refine blk_alloc ?_ _)); refine blk_put (cs := #[.int .i64 a0_0, .slice Ao11 y295.length co11, .slice Ao17 y301.length co17, .int .i64 0]) ?_ 3 _ rfl; (with_reducible repeat (first | refine blk_drewN ?_ _ | refine blk_drew ?_ | refine blk_alloc ?_ _)); refine blk_put (cs := #[.int .i64 a0_0, .slice Ao11 y295.length co11, .slice none 0 0, .int .i64 0]) ?_ 2 _ rfl; (with_reducible repeat (first | refine blk_drewN ?_ _ | refine blk_drew ?_ | refine blk_alloc ?_ _)); refine blk_put (cs := #[.int .i64 a0_0, .slice none 0 0, .slice none 0 0, .int .i64 0]) ?_ 1 _ rfl; (with_reducible repeat (first | refine blk_drewN ?_ _ | refine blk_drew ?_ | refine blk_alloc ?_ _)); refine blk_put (cs := #[.int .i64 0, .slice none 0 0, .slice none 0 0, .int .i64 0]) ?_ 0 _ rfl; (with_reducible repeat (first | refine blk_drewN ?_ _ | refine blk_drew ?_ | refine blk_alloc ?_ _)); refine blk_far ?_ NB291_290.out _; (with_reducible repeat (first | refine blk_drewN ?_ _ | refine blk_drew ?_ | refine blk_alloc ?_ _)); exact BK291.out) Try.underlying31 rfl (by kernel_rfl)) rfl ?_
   exact ⟨_, _, zq4, by (with_reducible repeat (first | apply Kd.R_alloc | apply Kd.R_drewN | apply Kd.R_drew)); exact Kd.R_mono (Kd.R_far (p := ⟨gb291, 3, none⟩) (Kd.R_far (p := ⟨gb291, 2, none⟩) (Kd.R_far (p := ⟨gb291, 1, none⟩) (Kd.R_far (p := ⟨gb291, 0, none⟩) (Kd.R_far (p := ⟨gb290, 2, none⟩) (Kd.R_types (Kd.R_types HO297.out BK290.out (by decide)) BK291.out (by decide)) (fun _ hk => hk.1.2) (.slice Ao17 y301.length co17)) (fun _ hk => hk.2) (.int .i64 a0_0)) (fun _ hk => hk.2) (.slice Ao11 y295.length co11)) (fun _ hk => hk.2) (.slice Ao17 y301.length co17)) (fun _ hk => hk.2) (.int .i64 a0_3)) (fun _ hk => trivial), by (with_reducible repeat (first | apply Kd.R_alloc | apply Kd.R_drewN | apply Kd.R_drew)); exact Kd.R_mono (Kd.R_far (p := ⟨gb291, 3, none⟩) (Kd.R_far (p := ⟨gb291, 2, none⟩) (Kd.R_far (p := ⟨gb291, 1, none⟩) (Kd.R_far (p := ⟨gb291, 0, none⟩) (Kd.R_far (p := ⟨gb290, 2, none⟩) (Kd.R_types (Kd.R_types HO303.out BK290.out (by decide)) BK291.out (by decide)) (fun _ hk => hk.1.2) (.slice Ao17 y301.length co17)) (fun _ hk => hk.2) (.int .i64 a0_0)) (fun _ hk => hk.2) (.slice Ao11 y295.length co11)) (fun _ hk => hk.2) (.slice Ao17 y301.length co17)) (fun _ hk => hk.2) (.int .i64 a0_3)) (fun _ hk => trivial), zq236⟩
  exact zq310
 exact zq311

/-! ### spec_DropBlob: function 37 -/
def spec_DropBlob.f (k : Nat) (a0_0 : Int) (l0_1 : List (S66)) (l0_2 : List (S68)) (a0_3 : Int) (a1 : ByteArray) : Option (Int × (List (S66)) × (List (S68)) × Int × Bool) := (spec_l6Blob.f k a0_0 l0_1 l0_2 a0_3 a1).bind fun t306 => (if t306 < 0 then (some (0, ([] : List (S66)), ([] : List (S68)), 0, false)) else ((spec_StoreOk.f k a0_0 l0_1 l0_2 a0_3).bind fun t307 => (if t307 = true then ((spec_l6Copy.f a0_0 l0_1 l0_2 a0_3).bind fun bt308 => (if 0 ≤ t306 then (if t306 ≤ (bt308.2.1.length : Int) then (if 0 ≤ (wrap64 (t306 + 1)) then (if (wrap64 (t306 + 1)) ≤ (bt308.2.1.length : Int) then (some (bt308.1, (bt308.2.1.eraseIdx (t306 : Int).toNat), bt308.2.2.1, bt308.2.2.2, true)) else (none)) else (none)) else (none)) else (none))) else (some (0, ([] : List (S66)), ([] : List (S68)), 0, false)))))
theorem spec_DropBlob.mono : ∀ a0 a1 a2 a3 a4 k, LeO (spec_DropBlob.f k a0 a1 a2 a3 a4) (spec_DropBlob.f (k + 1) a0 a1 a2 a3 a4) := by
 intro a0 a1 a2 a3 a4 k
 unfold spec_DropBlob.f
 repeat' first
   | (with_reducible exact spec_StoreOk.mono _ _ _ _ _)
   | (with_reducible exact spec_l6Blob.mono _ _ _ _ _ _)
   | (with_reducible exact LeO.refl _)
   | (with_reducible exact LeO.none _)
   | (with_reducible refine LeO.ite ?_ ?_)
   | (with_reducible refine LeO.bind ?_ (fun _ => ?_))
   | exact LeO.none _
   | refine LeO.ite ?_ ?_
   | refine LeO.bind ?_ (fun _ => ?_)
def spec_DropBlob.T5 : Bool × List (List Nat × List Nat) := (true, [([], []), ([0], [0]), ([], []), ([1, 2], [1, 2]), ([], []), ([4], [4]), ([], []), ([6], [6]), ([5, 7], [5, 7]), ([3, 8], [3, 8]), ([0, 1, 2, 3, 4, 5, 6, 7, 8, 9], []), ([10, 9, 9, 0, 1, 2, 3, 4, 5, 6, 7, 8, 9], [9, 10])])
def spec_DropBlob.B5 : List Nat := [0, 1, 0, 7, 0, 16, 0, 64, 240, 511, 1023, 2047]
theorem spec_DropBlob.tab5 : rtab .any (opsOf Try.f37 5) = spec_DropBlob.T5 := by kernel_rfl
theorem spec_DropBlob.bits5 : waitsOk spec_DropBlob.T5.2 spec_DropBlob.B5 = true := by kernel_rfl
set_option maxHeartbeats 8000000 in
set_option maxRecDepth 100000 in
theorem spec_DropBlob.calls (k : Nat) (a0_0 : Int) (A0_1 : Option Addr) (c0_1 : Nat) (l0_1 : List (S66)) (A0_2 : Option Addr) (c0_2 : Nat) (l0_2 : List (S68)) (a0_3 : Int) (a1 : ByteArray) (r1 : Int) (r2 : List (S66)) (r3 : List (S68)) (r4 : Int) (r5 : Bool) (w : World) (hr0_1 : Kd.C k66 w A0_1 l0_1.length l0_1) (hc0_1 : l0_1.length ≤ c0_1) (hr0_2 : Kd.C k68 w A0_2 l0_2.length l0_2) (hc0_2 : l0_2.length ≤ c0_2) (h : spec_DropBlob.f k a0_0 l0_1 l0_2 a0_3 a1 = some (r1, r2, r3, r4, r5)) :
  Calls Try.prog 37 #[.agg #[.int .i64 a0_0, .slice A0_1 l0_1.length c0_1, .slice A0_2 l0_2.length c0_2, .int .i64 a0_3], .string a1] w fun e w' => ∃ v1_ v2_ : Value, e = .returned (.tuple #[.agg #[.int .i64 r1, v1_, v2_, .int .i64 r4], .bool r5]) ∧ Kd.R k66 66 w' w.heap.size (fun _ => True) v1_ r2 ∧ Kd.R k68 68 w' w.heap.size (fun _ => True) v2_ r3 ∧ Below w.heap.size w w' := by
 have hu31 := Try.underlying31
 have HR0_1 := Aside0.mk hr0_1
 have HC0_1 := Aside0.mk hc0_1
 clear hr0_1 hc0_1
 have HR0_2 := Aside0.mk hr0_2
 have HC0_2 := Aside0.mk hc0_2
 clear hr0_2 hc0_2
 have HB := Aside0.mk (Below.refl w.heap.size w)
 have H : ((spec_l6Blob.f k a0_0 l0_1 l0_2 a0_3 a1).bind fun t306 => (if t306 < 0 then (some (0, ([] : List (S66)), ([] : List (S68)), 0, false)) else ((spec_StoreOk.f k a0_0 l0_1 l0_2 a0_3).bind fun t307 => (if t307 = true then ((spec_l6Copy.f a0_0 l0_1 l0_2 a0_3).bind fun bt308 => (if 0 ≤ t306 then (if t306 ≤ (bt308.2.1.length : Int) then (if 0 ≤ (wrap64 (t306 + 1)) then (if (wrap64 (t306 + 1)) ≤ (bt308.2.1.length : Int) then (some (bt308.1, (bt308.2.1.eraseIdx (t306 : Int).toNat), bt308.2.2.1, bt308.2.2.2, true)) else (none)) else (none)) else (none)) else (none))) else (some (0, ([] : List (S66)), ([] : List (S68)), 0, false)))))) = some (r1, r2, r3, r4, r5) := h
 clear h
 replace H := Option.bind_eq_some_iff.mp H
 obtain ⟨t306, A30, H⟩ := H
 replace H : (if t306 < 0 then (some (0, ([] : List (S66)), ([] : List (S68)), 0, false)) else ((spec_StoreOk.f k a0_0 l0_1 l0_2 a0_3).bind fun t307 => (if t307 = true then ((spec_l6Copy.f a0_0 l0_1 l0_2 a0_3).bind fun bt308 => (if 0 ≤ t306 then (if t306 ≤ (bt308.2.1.length : Int) then (if 0 ≤ (wrap64 (t306 + 1)) then (if (wrap64 (t306 + 1)) ≤ (bt308.2.1.length : Int) then (some (bt308.1, (bt308.2.1.eraseIdx (t306 : Int).toNat), bt308.2.2.1, bt308.2.2.2, true)) else (none)) else (none)) else (none)) else (none))) else (some (0, ([] : List (S66)), ([] : List (S68)), 0, false))))) = some (r1, r2, r3, r4, r5) := H
 have A3 := Aside0.mk A30
 clear A30
 by_cases c4 : t306 < 0
 ·
  rw [if_pos c4] at H
  have c4b0 := decide_eq_true c4
  clear c4
  simp only [Option.some.injEq, Prod.mk.injEq] at H
  obtain ⟨rfl, rfl, rfl, rfl, rfl⟩ := H
  go_enter Try.func37, Try.ntmps37
  go_wp2_with (first | ((with_reducible refine gate_dst (N := 2) rfl ?_); refine box_event ?hg (N := 2) ?hd (cs := #[.int .i64 a0_0, .slice A0_1 l0_1.length c0_1, .slice A0_2 l0_2.length c0_2, .int .i64 a0_3]) (t := 31) ?hr ?_; (case hd => rfl); (case hg => rfl); (case hr => exact zq2); intro gb304 hg w5 hbox hb; have BK304 := Aside0.mk hbox; have GW304 := Aside0.mk (zq254 : w.heap.size ≤ gb304); have GE304 := Aside0.mk (zq254 : w.heap.size ≤ gb304); replace HB := sB zq3 hb; clear hb hbox hg) | ((with_reducible refine gate_dst (N := 4) rfl ?_); refine box_event ?hg (N := 4) ?hd (cs := #[.int .i64 0, .slice none 0 0, .slice none 0 0, .int .i64 0]) (t := 31) ?hr ?_; (case hd => rfl); (case hg => rfl); (case hr => exact zq2); intro gb305 hg w6 hbox hb; have BK305 := Aside0.mk hbox; have GW305 := Aside0.mk (zq303 : w.heap.size ≤ gb305); have GE305 := Aside0.mk (zq303 : w.heap.size ≤ gb305); replace HB := sB zq240 hb; have NB304_305 := Aside0.mk (zq304 : gb304 ≠ gb305); have NB305_304 := Aside0.mk (zq305 : gb305 ≠ gb304); replace BK304 := bF BK304 zq239 hb; clear hb hbox hg; have hnb7 := NB304_305.out; have hnc7 := NB305_304.out; obtain ⟨hcz8_0, hcz8_1, hcz8_2, hcz8_3, hfz8_0, hfz8_1, hfz8_2, hfz8_3⟩ := c4 (w := w6) BK304) | ((with_reducible refine gC 59 rfl ?_); refine gL 10 Try.func59 #[.agg #[.int .i64 a0_0, .slice A0_1 l0_1.length c0_1, .slice A0_2 l0_2.length c0_2, .int .i64 a0_3], .string a1] ?_; (with_reducible refine (spec_l6Blob.calls k a0_0 _ _ l0_1 _ _ l0_2 a0_3 a1 t306 _ ?_ ?_ ?_ ?_ A3.out).mono ?_); exact zq11; exact zq12; exact zq15; exact zq16; rintro e w9 ⟨rfl, hb⟩; refine ⟨_, rfl, ?_⟩; replace BK304 := bF BK304 zq239 hb; replace BK305 := bF BK305 zq241 hb; replace HB := sB zq242 hb; clear hb; obtain ⟨hcz10_0, hcz10_1, hcz10_2, hcz10_3, hfz10_0, hfz10_1, hfz10_2, hfz10_3⟩ := c4 (w := w9) BK305))
  refine bodyPost_ret (results_ct rfl _ _ gb305 31 #[.int .i64 0, .slice none 0 0, .slice none 0 0, .int .i64 0] (0, 0) _ rfl zq243 Try.underlying31 rfl (by kernel_rfl)) rfl ?_
  exact ⟨_, _, zq4, zq80, zq80, zq242⟩
 rw [if_neg c4] at H
 have c4b0 := decide_eq_false c4
 clear c4
 replace H := Option.bind_eq_some_iff.mp H
 obtain ⟨t307, A110, H⟩ := H
 replace H : (if t307 = true then ((spec_l6Copy.f a0_0 l0_1 l0_2 a0_3).bind fun bt308 => (if 0 ≤ t306 then (if t306 ≤ (bt308.2.1.length : Int) then (if 0 ≤ (wrap64 (t306 + 1)) then (if (wrap64 (t306 + 1)) ≤ (bt308.2.1.length : Int) then (some (bt308.1, (bt308.2.1.eraseIdx (t306 : Int).toNat), bt308.2.2.1, bt308.2.2.2, true)) else (none)) else (none)) else (none)) else (none))) else (some (0, ([] : List (S66)), ([] : List (S68)), 0, false))) = some (r1, r2, r3, r4, r5) := H
 have A11 := Aside0.mk A110
 clear A110
 by_cases c12 : t307 = true
 ·
  subst c12
  have H1 : ((spec_l6Copy.f a0_0 l0_1 l0_2 a0_3).bind fun bt308 => (if 0 ≤ t306 then (if t306 ≤ (bt308.2.1.length : Int) then (if 0 ≤ (wrap64 (t306 + 1)) then (if (wrap64 (t306 + 1)) ≤ (bt308.2.1.length : Int) then (some (bt308.1, (bt308.2.1.eraseIdx (t306 : Int).toNat), bt308.2.2.1, bt308.2.2.2, true)) else (none)) else (none)) else (none)) else (none))) = some (r1, r2, r3, r4, r5) := by rw [if_pos rfl] at H; exact H
  clear H
  have H := H1
  clear H1
  replace H := Option.bind_eq_some_iff.mp H
  obtain ⟨⟨t308, t309, t312, t315⟩, A130, H⟩ := H
  replace H : (if 0 ≤ t306 then (if t306 ≤ (t309.length : Int) then (if 0 ≤ (wrap64 (t306 + 1)) then (if (wrap64 (t306 + 1)) ≤ (t309.length : Int) then (some (t308, (t309.eraseIdx (t306 : Int).toNat), t312, t315, true)) else (none)) else (none)) else (none)) else (none)) = some (r1, r2, r3, r4, r5) := H
  have A13 := Aside0.mk A130
  clear A130
  by_cases c14 : 0 ≤ t306
  ·
   rw [if_pos c14] at H
   have c14b0 := eq_true c14
   have c14b1 := decide_eq_true c14
   clear c14
   by_cases c15 : t306 ≤ (t309.length : Int)
   ·
    rw [if_pos c15] at H
    have c15b0 := eq_true c15
    have c15b1 := decide_eq_true c15
    clear c15
    obtain ⟨y317, hy317⟩ : ∃ y_ : List (S66), y_ = (t309.take (t306 : Int).toNat) := ⟨_, rfl⟩
    replace H : (if 0 ≤ (wrap64 (t306 + 1)) then (if (wrap64 (t306 + 1)) ≤ (t309.length : Int) then (some (t308, (t309.eraseIdx (t306 : Int).toNat), t312, t315, true)) else (none)) else (none)) = some (r1, r2, r3, r4, r5) := by first | (rw [hy317]; with_reducible exact H) | (have H2_ := (Option.bind_some _ _).symm.trans H; rw [hy317]; with_reducible exact H2_) | (have H2_ := (Option.bind_some _ _).symm.trans H; with_reducible exact H2_) | with_reducible exact H | (rw [hy317]; exact H) | exact H
    have Ny317 := Aside0.mk hy317
    clear hy317
    obtain ⟨ji16, hji16⟩ : ∃ j_ : Int, (wrap64 (t306 + 1)) = j_ := ⟨_, rfl⟩
    replace H : (if 0 ≤ (ji16) then (if (ji16) ≤ (t309.length : Int) then (some (t308, (t309.eraseIdx (t306 : Int).toNat), t312, t315, true)) else (none)) else (none)) = some (r1, r2, r3, r4, r5) := by first | (rw [hji16] at H; exact H) | (simp only [hji16] at H ⊢; exact H)
    (try rw [hji16] at A3)
    (try rw [hji16] at A11)
    (try rw [hji16] at A13)
    have hji16w : (IntKind.i64.wrap (t306 + 1)) = ji16 := (i64_w _).trans hji16
    by_cases c17 : 0 ≤ (ji16)
    ·
     rw [if_pos c17] at H
     have c17b0 := eq_true c17
     have c17b1 := decide_eq_true c17
     clear c17
     by_cases c18 : (ji16) ≤ (t309.length : Int)
     ·
      rw [if_pos c18] at H
      have c18b0 := eq_true c18
      have c18b1 := decide_eq_true c18
      clear c18
      obtain ⟨y321, hy321⟩ : ∃ y_ : List (S66), y_ = (t309.drop ((ji16) : Int).toNat) := ⟨_, rfl⟩
      replace H : (some (t308, (t309.eraseIdx (t306 : Int).toNat), t312, t315, true)) = some (r1, r2, r3, r4, r5) := by first | (rw [hy321]; with_reducible exact H) | (have H2_ := (Option.bind_some _ _).symm.trans H; rw [hy321]; with_reducible exact H2_) | (have H2_ := (Option.bind_some _ _).symm.trans H; with_reducible exact H2_) | with_reducible exact H | (rw [hy321]; exact H) | exact H
      have Ny321 := Aside0.mk hy321
      clear hy321
      obtain ⟨y325, hy325⟩ : ∃ y_ : List (S66), y_ = (t309.eraseIdx (t306 : Int).toNat) := ⟨_, rfl⟩
      replace H : (some (t308, y325, t312, t315, true)) = some (r1, r2, r3, r4, r5) := by first | (rw [hy325]; with_reducible exact H) | (have H2_ := (Option.bind_some _ _).symm.trans H; rw [hy325]; with_reducible exact H2_) | (have H2_ := (Option.bind_some _ _).symm.trans H; with_reducible exact H2_) | with_reducible exact H | (rw [hy325]; exact H) | exact H
      have Ny325 := Aside0.mk hy325
      clear hy325
      simp only [Option.some.injEq, Prod.mk.injEq] at H
      obtain ⟨rfl, rfl, rfl, rfl, rfl⟩ := H
      go_enter Try.func37, Try.ntmps37
      try go_wp2_with (first | ((with_reducible refine gate_dst (N := 2) rfl ?_); refine box_event ?hg (N := 2) ?hd (cs := #[.int .i64 a0_0, .slice A0_1 l0_1.length c0_1, .slice A0_2 l0_2.length c0_2, .int .i64 a0_3]) (t := 31) ?hr ?_; (case hd => rfl); (case hg => rfl); (case hr => exact zq2); intro gb304 hg w19 hbox hb; have BK304 := Aside0.mk hbox; have GW304 := Aside0.mk (zq254 : w.heap.size ≤ gb304); have GE304 := Aside0.mk (zq254 : w.heap.size ≤ gb304); replace HB := sB zq3 hb; clear hb hbox hg) | ((with_reducible refine gate_dst (N := 4) rfl ?_); refine box_event ?hg (N := 4) ?hd (cs := #[.int .i64 0, .slice none 0 0, .slice none 0 0, .int .i64 0]) (t := 31) ?hr ?_; (case hd => rfl); (case hg => rfl); (case hr => exact zq2); intro gb305 hg w20 hbox hb; have BK305 := Aside0.mk hbox; have GW305 := Aside0.mk (zq303 : w.heap.size ≤ gb305); have GE305 := Aside0.mk (zq303 : w.heap.size ≤ gb305); replace HB := sB zq240 hb; have NB304_305 := Aside0.mk (zq304 : gb304 ≠ gb305); have NB305_304 := Aside0.mk (zq305 : gb305 ≠ gb304); replace BK304 := bF BK304 zq239 hb; clear hb hbox hg; have hnb21 := NB304_305.out; have hnc21 := NB305_304.out; obtain ⟨hcz22_0, hcz22_1, hcz22_2, hcz22_3, hfz22_0, hfz22_1, hfz22_2, hfz22_3⟩ := c4 (w := w20) BK304) | ((with_reducible refine gC 59 rfl ?_); refine gL 10 Try.func59 #[.agg #[.int .i64 a0_0, .slice A0_1 l0_1.length c0_1, .slice A0_2 l0_2.length c0_2, .int .i64 a0_3], .string a1] ?_; (with_reducible refine (spec_l6Blob.calls k a0_0 _ _ l0_1 _ _ l0_2 a0_3 a1 t306 _ ?_ ?_ ?_ ?_ A3.out).mono ?_); exact zq11; exact zq12; exact zq15; exact zq16; rintro e w23 ⟨rfl, hb⟩; refine ⟨_, rfl, ?_⟩; replace BK304 := bF BK304 zq239 hb; replace BK305 := bF BK305 zq241 hb; replace HB := sB zq242 hb; clear hb; obtain ⟨hcz24_0, hcz24_1, hcz24_2, hcz24_3, hfz24_0, hfz24_1, hfz24_2, hfz24_3⟩ := c4 (w := w23) BK304) | (go_at_call 16; (with_reducible refine (spec_StoreOk.calls k a0_0 _ _ l0_1 _ _ l0_2 a0_3 true _ ?_ ?_ ?_ ?_ A11.out).mono ?_); exact zq11; exact zq12; exact zq15; exact zq16; rintro e w25 ⟨rfl, hb⟩; replace BK304 := bF BK304 zq239 hb; replace BK305 := bF BK305 zq241 hb; replace HB := sB zq242 hb; clear hb; obtain ⟨hcz26_0, hcz26_1, hcz26_2, hcz26_3, hfz26_0, hfz26_1, hfz26_2, hfz26_3⟩ := c4 (w := w25) BK304) | ((with_reducible refine gC 68 rfl ?_); refine gL 20 Try.func68 #[.agg #[.int .i64 a0_0, .slice A0_1 l0_1.length c0_1, .slice A0_2 l0_2.length c0_2, .int .i64 a0_3]] ?_; (with_reducible refine (spec_l6Copy.calls a0_0 _ _ l0_1 _ _ l0_2 a0_3 t308 t309 t312 t315 _ ?_ ?_ ?_ ?_ A13.out).mono ?_); exact zq11; exact zq12; exact zq15; exact zq16; rintro e w27 ⟨v310, v313, rfl, ho0, ho1, hb⟩; refine ⟨_, rfl, ?_⟩; have HO311 := Aside0.mk (Kd.R_lower ho0 (below_size zq242)); have HO314 := Aside0.mk (Kd.R_lower ho1 (below_size zq242)); replace BK304 := bF BK304 zq239 hb; replace BK305 := bF BK305 zq241 hb; replace HB := sB zq242 hb; clear hb; (try clear ho0); (try clear ho1)) | ((with_reducible refine gate_dst (N := 7) rfl ?_); refine box_event ?hg (N := 7) ?hd (cs := #[.int .i64 0, .slice none 0 0, .slice none 0 0, .int .i64 0]) (t := 31) ?hr ?_; (case hd => rfl); (case hg => rfl); (case hr => exact zq2); intro gb316 hg w28 hbox hb; replace HO311 := rB zq244 hb; replace HO314 := rB zq245 hb; have BK316 := Aside0.mk hbox; have GW316 := Aside0.mk (by rw [hg]; exact (below_size zq242) : w.heap.size ≤ gb316); have GE316 := Aside0.mk (by rw [hg]; exact (below_size zq242) : w.heap.size ≤ gb316); replace HB := sB zq242 hb; have NB304_316 := Aside0.mk (zq304 : gb304 ≠ gb316); have NB316_304 := Aside0.mk (zq305 : gb316 ≠ gb304); replace BK304 := bF BK304 zq239 hb; have NB305_316 := Aside0.mk (by rw [hg]; exact Nat.ne_of_lt (blk_lt (g := gb305) (o := .cells #[.int .i64 0, .slice none 0 0, .slice none 0 0, .int .i64 0] 31 (0, 0)) zq241) : gb305 ≠ gb316); have NB316_305 := Aside0.mk (by rw [hg]; exact Nat.ne_of_gt (blk_lt (g := gb305) (o := .cells #[.int .i64 0, .slice none 0 0, .slice none 0 0, .int .i64 0] 31 (0, 0)) zq241) : gb316 ≠ gb305); replace BK305 := bF BK305 zq241 hb; clear hb hbox hg; have hnb29 := NB316_304.out; have hnc29 := NB304_316.out; have hnb30 := NB316_305.out; have hnc30 := NB305_316.out; obtain ⟨hcz31_0, hcz31_1, hcz31_2, hcz31_3, hfz31_0, hfz31_1, hfz31_2, hfz31_3⟩ := c4 (w := w28) BK316; obtain ⟨Ao32, co32, eo32⟩ := Kd.R_slice HO311.out; subst eo32; obtain ⟨Ao33, co33, eo33⟩ := Kd.R_slice HO314.out; subst eo33))
      have n0_ : Aside0 (Kd.R k66 66 ((((w28.setCell ⟨gb316, 0, none⟩ (.int .i64 t308)).setCell ⟨gb316, 1, none⟩ (.slice Ao32 t309.length co32)).setCell ⟨gb316, 2, none⟩ (.slice Ao33 t312.length co33)).setCell ⟨gb316, 3, none⟩ (.int .i64 t315)) w.heap.size (fun _ => True) (.slice Ao32 t309.length co32) t309) := ⟨by (with_reducible repeat (first | apply Kd.R_alloc | apply Kd.R_drewN | apply Kd.R_drew)); exact Kd.R_mono (Kd.R_far (p := ⟨gb316, 3, none⟩) (Kd.R_far (p := ⟨gb316, 2, none⟩) (Kd.R_far (p := ⟨gb316, 1, none⟩) (Kd.R_far (p := ⟨gb316, 0, none⟩) (Kd.R_types HO311.out BK316.out (by decide)) (fun _ hk => hk.2) (.int .i64 t308)) (fun _ hk => hk.2) (.slice Ao32 t309.length co32)) (fun _ hk => hk.2) (.slice Ao33 t312.length co33)) (fun _ hk => hk.2) (.int .i64 t315)) (fun _ hk => trivial)⟩
      have n1_ : Aside0 (Kd.R k68 68 ((((w28.setCell ⟨gb316, 0, none⟩ (.int .i64 t308)).setCell ⟨gb316, 1, none⟩ (.slice Ao32 t309.length co32)).setCell ⟨gb316, 2, none⟩ (.slice Ao33 t312.length co33)).setCell ⟨gb316, 3, none⟩ (.int .i64 t315)) w.heap.size (fun _ => True) (.slice Ao33 t312.length co33) t312) := ⟨by (with_reducible repeat (first | apply Kd.R_alloc | apply Kd.R_drewN | apply Kd.R_drew)); exact Kd.R_mono (Kd.R_far (p := ⟨gb316, 3, none⟩) (Kd.R_far (p := ⟨gb316, 2, none⟩) (Kd.R_far (p := ⟨gb316, 1, none⟩) (Kd.R_far (p := ⟨gb316, 0, none⟩) (Kd.R_types HO314.out BK316.out (by decide)) (fun _ hk => hk.2) (.int .i64 t308)) (fun _ hk => hk.2) (.slice Ao32 t309.length co32)) (fun _ hk => hk.2) (.slice Ao33 t312.length co33)) (fun _ hk => hk.2) (.int .i64 t315)) (fun _ hk => trivial)⟩
      have n2_ : Aside0 (((((w28.setCell ⟨gb316, 0, none⟩ (.int .i64 t308)).setCell ⟨gb316, 1, none⟩ (.slice Ao32 t309.length co32)).setCell ⟨gb316, 2, none⟩ (.slice Ao33 t312.length co33)).setCell ⟨gb316, 3, none⟩ (.int .i64 t315)).heap[gb304]? = some (.cells #[.int .i64 a0_0, .slice A0_1 l0_1.length c0_1, .slice A0_2 l0_2.length c0_2, .int .i64 a0_3] 31 (0, 0))) := ⟨by (with_reducible repeat (first | refine blk_drewN ?_ _ | refine blk_drew ?_ | refine blk_alloc ?_ _)); refine blk_far ?_ NB304_316.out _; (with_reducible repeat (first | refine blk_drewN ?_ _ | refine blk_drew ?_ | refine blk_alloc ?_ _)); refine blk_far ?_ NB304_316.out _; (with_reducible repeat (first | refine blk_drewN ?_ _ | refine blk_drew ?_ | refine blk_alloc ?_ _)); refine blk_far ?_ NB304_316.out _; (with_reducible repeat (first | refine blk_drewN ?_ _ | refine blk_drew ?_ | refine blk_alloc ?_ _)); refine blk_far ?_ NB304_316.out _; (with_reducible repeat (first | refine blk_drewN ?_ _ | refine blk_drew ?_ | refine blk_alloc ?_ _)); exact BK304.out⟩
      have n3_ : Aside0 (((((w28.setCell ⟨gb316, 0, none⟩ (.int .i64 t308)).setCell ⟨gb316, 1, none⟩ (.slice Ao32 t309.length co32)).setCell ⟨gb316, 2, none⟩ (.slice Ao33 t312.length co33)).setCell ⟨gb316, 3, none⟩ (.int .i64 t315)).heap[gb305]? = some (.cells #[.int .i64 0, .slice none 0 0, .slice none 0 0, .int .i64 0] 31 (0, 0))) := ⟨by (with_reducible repeat (first | refine blk_drewN ?_ _ | refine blk_drew ?_ | refine blk_alloc ?_ _)); refine blk_far ?_ NB305_316.out _; (with_reducible repeat (first | refine blk_drewN ?_ _ | refine blk_drew ?_ | refine blk_alloc ?_ _)); refine blk_far ?_ NB305_316.out _; (with_reducible repeat (first | refine blk_drewN ?_ _ | refine blk_drew ?_ | refine blk_alloc ?_ _)); refine blk_far ?_ NB305_316.out _; (with_reducible repeat (first | refine blk_drewN ?_ _ | refine blk_drew ?_ | refine blk_alloc ?_ _)); refine blk_far ?_ NB305_316.out _; (with_reducible repeat (first | refine blk_drewN ?_ _ | refine blk_drew ?_ | refine blk_alloc ?_ _)); exact BK305.out⟩
      have n4_ : Aside0 (((((w28.setCell ⟨gb316, 0, none⟩ (.int .i64 t308)).setCell ⟨gb316, 1, none⟩ (.slice Ao32 t309.length co32)).setCell ⟨gb316, 2, none⟩ (.slice Ao33 t312.length co33)).setCell ⟨gb316, 3, none⟩ (.int .i64 t315)).heap[gb316]? = some (.cells #[.int .i64 t308, .slice Ao32 t309.length co32, .slice Ao33 t312.length co33, .int .i64 t315] 31 (0, 0))) := ⟨by (with_reducible repeat (first | refine blk_drewN ?_ _ | refine blk_drew ?_ | refine blk_alloc ?_ _)); refine blk_put (cs := #[.int .i64 t308, .slice Ao32 t309.length co32, .slice Ao33 t312.length co33, .int .i64 0]) ?_ 3 _ rfl; (with_reducible repeat (first | refine blk_drewN ?_ _ | refine blk_drew ?_ | refine blk_alloc ?_ _)); refine blk_put (cs := #[.int .i64 t308, .slice Ao32 t309.length co32, .slice none 0 0, .int .i64 0]) ?_ 2 _ rfl; (with_reducible repeat (first | refine blk_drewN ?_ _ | refine blk_drew ?_ | refine blk_alloc ?_ _)); refine blk_put (cs := #[.int .i64 t308, .slice none 0 0, .slice none 0 0, .int .i64 0]) ?_ 1 _ rfl; (with_reducible repeat (first | refine blk_drewN ?_ _ | refine blk_drew ?_ | refine blk_alloc ?_ _)); refine blk_put (cs := #[.int .i64 0, .slice none 0 0, .slice none 0 0, .int .i64 0]) ?_ 0 _ rfl; (with_reducible repeat (first | refine blk_drewN ?_ _ | refine blk_drew ?_ | refine blk_alloc ?_ _)); exact BK316.out⟩
      have n5_ : Aside0 (Below w.heap.size w ((((w28.setCell ⟨gb316, 0, none⟩ (.int .i64 t308)).setCell ⟨gb316, 1, none⟩ (.slice Ao32 t309.length co32)).setCell ⟨gb316, 2, none⟩ (.slice Ao33 t312.length co33)).setCell ⟨gb316, 3, none⟩ (.int .i64 t315))) := ⟨zq246⟩
      (try clear HO311)
      (try clear HO314)
      (try clear BK304)
      (try clear BK305)
      (try clear BK316)
      (try clear HB)
      generalize ((((w28.setCell ⟨gb316, 0, none⟩ (.int .i64 t308)).setCell ⟨gb316, 1, none⟩ (.slice Ao32 t309.length co32)).setCell ⟨gb316, 2, none⟩ (.slice Ao33 t312.length co33)).setCell ⟨gb316, 3, none⟩ (.int .i64 t315)) = w34 at n0_ n1_ n2_ n3_ n4_ n5_ ⊢
      have HO311 := n0_
      have HO314 := n1_
      have BK304 := n2_
      have BK305 := n3_
      have BK316 := n4_
      have HB := n5_
      clear n0_ n1_ n2_ n3_ n4_ n5_
      replace HO311 := Aside0.mk (Kd.R_drew HO311.out)
      replace HO314 := Aside0.mk (Kd.R_drew HO314.out)
      replace BK304 := Aside0.mk (blk_drew BK304.out)
      replace BK305 := Aside0.mk (blk_drew BK305.out)
      replace BK316 := Aside0.mk (blk_drew BK316.out)
      replace HB := Aside0.mk (below_drew1 HB.out)
      have q36 : (t306 : Int) ≤ ((t309.length : Int) : Int) := of_decide_eq_true zq7
      obtain ⟨i036, hi036, _, hsz36, _⟩ := info_parts info66
      have hroom36 : t309.length ≤ co32 := (Kd.R_reads' HO311.out).2.1
      have hC36 : Kd.C k66 _ Ao32 t309.length t309 := (Kd.R_reads' HO311.out).2.2
      have hcut36 := cut_to (P := Try.prog) 28 66 .i64 Try.underlying28 hi036 Ao32 t309.length co32 t306 (of_decide_eq_true zq7) q36 hroom36
      have hr36 := Kd.C_take (m := (t306 : Int).toNat) hC36 (by omega)
      have hy36 : y317.length = (t306 : Int).toNat := (by rw [Ny317.out, List.length_take]; omega)
      rw [← Ny317.out] at hr36
      rw [← hy36] at hcut36
      have HR320 := Aside0.mk hr36
      have HC320 := Aside0.mk (show y317.length ≤ co32 from by omega)
      clear hr36 hC36 hroom36 hi036 hsz36
      have KY36 := Aside0.mk hy36
      clear hy36
      have KL36 := Aside0.mk (show (t306 : Int).toNat ≤ t309.length from by omega)
      replace q36 := eq_true q36
      have q37 : ((ji16) : Int) ≤ ((t309.length : Int) : Int) := of_decide_eq_true zq7
      obtain ⟨i037, hi037, _, hsz37, _⟩ := info_parts info66
      have hroom37 : t309.length ≤ co32 := (Kd.R_reads' HO311.out).2.1
      have hC37 : Kd.C k66 _ Ao32 t309.length t309 := (Kd.R_reads' HO311.out).2.2
      have q037 : (0 : Int) ≤ ((ji16) : Int) := of_decide_eq_true zq7
      have hcut37 := cut_from (P := Try.prog) 28 66 .i64 Try.underlying28 hi037 2 hsz37 Ao32 t309.length co32 (ji16) q037 q37
      have hr37 := Kd.C_drop (m := ((ji16) : Int).toNat) (c := co32) hC37 (by omega) hroom37
      obtain ⟨A37, hA37⟩ : ∃ A1, A1 = (if co32 = ((ji16) : Int).toNat then Ao32 else (Ao32 : Option Addr).map (·.add (((ji16) : Int).toNat * 2))) := ⟨_, rfl⟩
      obtain ⟨c37, hc37⟩ : ∃ c1, c1 = co32 - ((ji16) : Int).toNat := ⟨_, rfl⟩
      have hy37 : y321.length = t309.length - ((ji16) : Int).toNat := (by rw [Ny321.out, List.length_drop] <;> omega)
      rw [show (t309).drop ((ji16) : Int).toNat = y321 from Ny321.out.symm] at hr37
      replace hr37 : Kd.C k66 _ A37 y321.length y321 := (by rw [hA37]; exact hr37)
      rw [← hy37, ← hA37, ← hc37] at hcut37
      have HR324 := Aside0.mk hr37
      have HC324 := Aside0.mk (show y321.length ≤ c37 from by rw [hy37, hc37]; exact Nat.sub_le_sub_right hroom37 _)
      clear hr37 hC37 hroom37 hi037 hsz37 hc37
      have KY37 := Aside0.mk hy37
      have KA37 := Aside0.mk hA37
      clear hy37 hA37
      have KL37 := Aside0.mk (show ((ji16) : Int).toNat ≤ t309.length from by omega)
      replace q37 := eq_true q37
      obtain ⟨go39, co39, eo39, gb39, gl39, cl39, HG39⟩ := Kd.R_form HO311.out (by have hj_ : 0 ≤ (t306 : Int) := of_decide_eq_true zq7; have hl_ : (ji16 : Int) ≤ (t309.length : Int) := of_decide_eq_true zq7; have hh_ : (t306 : Int) ≤ (t309.length : Int) := of_decide_eq_true zq7; rw [← hji16] at hl_; unfold wrap64 at hl_; omega)
      (first | cases eo39 | (injection eo39 with ea_ en_ ec_; (first | subst ea_ | (injection ea_ with ea_; subst ea_)); subst ec_; clear en_))
      have GB39 := Aside0.mk gb39
      have GG39 := Aside0.mk HG39
      clear gb39 gl39 HG39
      refine start_ (n := 12) (S := fun w' => w'.cell? ⟨gb316, 0, none⟩ = some (.int .i64 t308) ∧ w'.cell? ⟨gb316, 1, none⟩ = some (.slice (some ⟨go39, 0, none⟩) t309.length co32) ∧ w'.cell? ⟨gb316, 2, none⟩ = some (.slice Ao33 t312.length co33) ∧ w'.cell? ⟨gb316, 3, none⟩ = some (.int .i64 t315)) (ds := [11]) (bA 12 0) (by kernel_rfl) rfl rfl ⟨(blk_cell BK316.out 0).trans rfl, (blk_cell BK316.out 1).trans rfl, (blk_cell BK316.out 2).trans rfl, (blk_cell BK316.out 3).trans rfl⟩ (fun hHeld => ?_); refine with_tabW spec_DropBlob.tab5 spec_DropBlob.bits5 (fun HT_ HW_ => ?_)
      generalize w34.drew = w35 at HO311 HO314 BK304 BK305 BK316 HB GG39 HR320 HR324 hHeld ⊢
      refine pV 0 21 12 1 ?_
      refine pV 2 23 12 5 ?_
      refine pV 4 25 12 21 ?_
      refine pV 6 27 12 85 ?_
      refine pV 7 28 12 213 ?_
      refine tV 1 22 12 215 rfl zq321 ?_
      refine pV 3 24 12 223 ?_
      refine tV 5 26 12 255 rfl zq321 ?_
      refine pV 8 29 12 511 ?_
      refine one_ (i := 9) (N := some 30) (bA 12 1023) rfl rfl (one_of HT_.out (by kernel_rfl)) (by decide) (fun K hK => ?_)
      have hj_ : 0 ≤ (t306 : Int) := of_decide_eq_true zq7
      have hl_ : (ji16 : Int) ≤ (t309.length : Int) := of_decide_eq_true zq7
      have hh_ : (t306 : Int) ≤ (t309.length : Int) := of_decide_eq_true zq7
      have hb_ := (Kd.R_reads' HO311.out).2.2.2.1
      have h0_ : (0 : Int) ≤ (ji16 : Int) := of_decide_eq_true zq7
      have hy1_ := KY36.out
      have hk_ : (ji16 : Int).toNat = y317.length + 1 := (by have hw_ : (ji16 : Int) = t306 + 1 := (by have h00_ := h0_; rw [← hji16] at h00_ ⊢; unfold wrap64 at h00_ ⊢; omega); rw [hw_]; omega)
      refine Kd.R_delete_step k66 (w0 := w) w.heap.size (by rfl) (.tmp 24) (.tmp 29) 28 66 rfl Try.underlying28 (by kernel_rfl) (g := go39) (n := t309.length) (c := co32) (k := y317.length) rfl rfl ?hA ?hm zq244 ?hk zq246 (below_size zq246) ?_
      (case hA => have ha_ := KA37.out; rw [hk_] at ha_; exact ha_)
      (case hm => have ha_ := KY37.out; omega)
      (case hk => omega)
      intro w38 ho hb hg
      clear hj_ hl_ hh_ hb_ hk_ h0_
      rw [hy1_, ← Ny325.out] at ho
      clear hy1_
      have hn_ : t309.length - 1 = y325.length := (by have := (Kd.R_reads' ho).1; omega)
      rw [hn_] at ho ⊢
      clear hn_
      replace BK304 := Aside0.mk (blk_grown (g := gb304) (o := .cells #[.int .i64 a0_0, .slice A0_1 l0_1.length c0_1, .slice A0_2 l0_2.length c0_2, .int .i64 a0_3] 31 (0, 0)) zq239 hg (Kd.R_ne HO311.out BK304.out (by decide)))
      replace BK305 := Aside0.mk (blk_grown (g := gb305) (o := .cells #[.int .i64 0, .slice none 0 0, .slice none 0 0, .int .i64 0] 31 (0, 0)) zq241 hg (Kd.R_ne HO311.out BK305.out (by decide)))
      replace HO314 := Aside0.mk (Kd.R_over' (v := (.slice (some ⟨go39, 0, none⟩) t309.length co32)) zq245 (Kd.R_typed HO311.out) (by decide) hg)
      replace BK316 := Aside0.mk (blk_grown (g := gb316) (o := .cells #[.int .i64 t308, .slice (some ⟨go39, 0, none⟩) t309.length co32, .slice Ao33 t312.length co33, .int .i64 t315] 31 (0, 0)) (by (with_reducible repeat (first | refine blk_drewN ?_ _ | refine blk_drew ?_ | refine blk_alloc ?_ _)); exact BK316.out) hg (Kd.R_ne HO311.out BK316.out (by decide)))
      replace HO311 := Aside0.mk ho
      replace HB := Aside0.mk hb
      clear ho hb hg
      refine hK.out _ _ ⟨(blk_cell BK316.out 0).trans rfl, (blk_cell BK316.out 1).trans rfl, (blk_cell BK316.out 2).trans rfl, (blk_cell BK316.out 3).trans rfl⟩ (fun hHeld => ?_)
      clear hK K
      refine norm_ (a' := ?_) ?_ ?_
      rotate_left
      ·
       show Act.put _ (some 30) _ = _
       simp only [Act.put, List.setIfInBounds_toArray, List.set_cons_zero, List.set_cons_succ, i64_w, i32_w]
       rfl
      refine pV 10 31 12 2047 ?_
      refine last_ (i := 11) (N := none) (bA 12 4095) rfl rfl (one_of HT_.out (by kernel_rfl)) (by decide) (fun K hK => ?_)
      have hs40 : w38.cell? ⟨gb316, 1, none⟩ = some (.slice (some ⟨go39, 0, none⟩) t309.length co32) := (blk_cell BK316.out 1).trans rfl
      have hfs40 := blk_frozen BK316.out 1
      have hns40_0 := NB304_316.out
      have hns40_1 := NB305_316.out
      have hms40_0 := NB316_304.out
      have hms40_1 := NB316_305.out
      refine skip_ (w1 := ?_) (by rfl) rfl ?_ ?_
      rotate_left
      ·
       go_simp
       rfl
      refine hK.out _ _ ?_
      clear hK K
      refine done_ (done_of HT_.out (by kernel_rfl)) ?_
      obtain ⟨hcz41_0, hcz41_1, hcz41_2, hcz41_3, hfz41_0, hfz41_1, hfz41_2, hfz41_3⟩ := c4 (w := w38) BK316
      obtain ⟨hcz42_0, hcz42_1, hcz42_2, hcz42_3, hfz42_0, hfz42_1, hfz42_2, hfz42_3⟩ := c4 (w := w38) BK305
      try go_wp2
      refine bodyPost_ret (results_ct rfl _ _ gb305 31 #[.int .i64 t308, .slice (some ⟨go39, 0, none⟩) y325.length co32, .slice Ao33 t312.length co33, .int .i64 t315] (0, 0) _ rfl (by (with_reducible repeat (first | refine blk_drewN ?_ _ | refine blk_drew ?_ | refine blk_alloc ?_ _)); refine blk_put (cs := #[.int .i64 t308, .slice (some ⟨go39, 0, none⟩) y325.length co32, .slice Ao33 t312.length co33, .int .i64 0]) ?_ 3 _ rfl; (with_reducible repeat (first | refine blk_drewN ?_ _ | refine blk_drew ?_ | refine blk_alloc ?_ _)); refine blk_put (cs := #[.int .i64 t308, .slice (some ⟨go39, 0, none⟩) y325.length co32, .slice none 0 0, .int .i64 0]) ?_ 2 _ rfl; (with_reducible repeat (first | refine blk_drewN ?_ _ | refine blk_drew ?_ | refine blk_alloc ?_ _)); refine blk_put (cs := #[.int .i64 t308, .slice none 0 0, .slice none 0 0, .int .i64 0]) ?_ 1 _ rfl; (with_reducible repeat (first | refine blk_drewN ?_ _ | refine blk_drew ?_ | refine blk_alloc ?_ _)); refine blk_put (cs := #[.int .i64 0, .slice none 0 0, .slice none 0 0, .int .i64 0]) ?_ 0 _ rfl; (with_reducible repeat (first | refine blk_drewN ?_ _ | refine blk_drew ?_ | refine blk_alloc ?_ _)); refine blk_far ?_ NB305_316.out _; (with_reducible repeat (first | refine blk_drewN ?_ _ | refine blk_drew ?_ | refine blk_alloc ?_ _)); exact BK305.out) Try.underlying31 rfl (by kernel_rfl)) rfl ?_
      exact ⟨_, _, by first | rfl | (simp [errW_none, errW_some] <;> rfl) | (simp only [← hji16]; first | rfl | (simp [errW_none, errW_some] <;> rfl)) | (simp [*, errW_none, errW_some] <;> rfl), by (with_reducible repeat (first | apply Kd.R_alloc | apply Kd.R_drewN | apply Kd.R_drew)); exact Kd.R_mono (Kd.R_far (p := ⟨gb305, 3, none⟩) (Kd.R_far (p := ⟨gb305, 2, none⟩) (Kd.R_far (p := ⟨gb305, 1, none⟩) (Kd.R_far (p := ⟨gb305, 0, none⟩) (Kd.R_far (p := ⟨gb316, 1, none⟩) (Kd.R_types (Kd.R_types HO311.out BK316.out (by decide)) BK305.out (by decide)) (fun _ hk => hk.1.2) (.slice (some ⟨go39, 0, none⟩) y325.length co32)) (fun _ hk => hk.2) (.int .i64 t308)) (fun _ hk => hk.2) (.slice (some ⟨go39, 0, none⟩) y325.length co32)) (fun _ hk => hk.2) (.slice Ao33 t312.length co33)) (fun _ hk => hk.2) (.int .i64 t315)) (fun _ hk => trivial), by (with_reducible repeat (first | apply Kd.R_alloc | apply Kd.R_drewN | apply Kd.R_drew)); exact Kd.R_mono (Kd.R_far (p := ⟨gb305, 3, none⟩) (Kd.R_far (p := ⟨gb305, 2, none⟩) (Kd.R_far (p := ⟨gb305, 1, none⟩) (Kd.R_far (p := ⟨gb305, 0, none⟩) (Kd.R_far (p := ⟨gb316, 1, none⟩) (Kd.R_types (Kd.R_types HO314.out BK316.out (by decide)) BK305.out (by decide)) (fun _ hk => hk.1.2) (.slice (some ⟨go39, 0, none⟩) y325.length co32)) (fun _ hk => hk.2) (.int .i64 t308)) (fun _ hk => hk.2) (.slice (some ⟨go39, 0, none⟩) y325.length co32)) (fun _ hk => hk.2) (.slice Ao33 t312.length co33)) (fun _ hk => hk.2) (.int .i64 t315)) (fun _ hk => trivial), zq246⟩
     rw [if_neg c18] at H
     exact absurd H (by simp)
    rw [if_neg c17] at H
    exact absurd H (by simp)
   rw [if_neg c15] at H
   exact absurd H (by simp)
  rw [if_neg c14] at H
  exact absurd H (by simp)
 replace c12 := Bool.eq_false_iff.mpr c12
 subst c12
 have H1 : (some (0, ([] : List (S66)), ([] : List (S68)), 0, false)) = some (r1, r2, r3, r4, r5) := by rw [if_neg (show ¬ (false = true) by decide)] at H; exact H
 clear H
 have H := H1
 clear H1
 simp only [Option.some.injEq, Prod.mk.injEq] at H
 obtain ⟨rfl, rfl, rfl, rfl, rfl⟩ := H
 go_enter Try.func37, Try.ntmps37
 go_wp2_with (first | ((with_reducible refine gate_dst (N := 2) rfl ?_); refine box_event ?hg (N := 2) ?hd (cs := #[.int .i64 a0_0, .slice A0_1 l0_1.length c0_1, .slice A0_2 l0_2.length c0_2, .int .i64 a0_3]) (t := 31) ?hr ?_; (case hd => rfl); (case hg => rfl); (case hr => exact zq2); intro gb304 hg w43 hbox hb; have BK304 := Aside0.mk hbox; have GW304 := Aside0.mk (zq254 : w.heap.size ≤ gb304); have GE304 := Aside0.mk (zq254 : w.heap.size ≤ gb304); replace HB := sB zq3 hb; clear hb hbox hg) | ((with_reducible refine gate_dst (N := 4) rfl ?_); refine box_event ?hg (N := 4) ?hd (cs := #[.int .i64 0, .slice none 0 0, .slice none 0 0, .int .i64 0]) (t := 31) ?hr ?_; (case hd => rfl); (case hg => rfl); (case hr => exact zq2); intro gb305 hg w44 hbox hb; have BK305 := Aside0.mk hbox; have GW305 := Aside0.mk (zq303 : w.heap.size ≤ gb305); have GE305 := Aside0.mk (zq303 : w.heap.size ≤ gb305); replace HB := sB zq240 hb; have NB304_305 := Aside0.mk (zq304 : gb304 ≠ gb305); have NB305_304 := Aside0.mk (zq305 : gb305 ≠ gb304); replace BK304 := bF BK304 zq239 hb; clear hb hbox hg; have hnb45 := NB304_305.out; have hnc45 := NB305_304.out; obtain ⟨hcz46_0, hcz46_1, hcz46_2, hcz46_3, hfz46_0, hfz46_1, hfz46_2, hfz46_3⟩ := c4 (w := w44) BK304) | ((with_reducible refine gC 59 rfl ?_); refine gL 10 Try.func59 #[.agg #[.int .i64 a0_0, .slice A0_1 l0_1.length c0_1, .slice A0_2 l0_2.length c0_2, .int .i64 a0_3], .string a1] ?_; (with_reducible refine (spec_l6Blob.calls k a0_0 _ _ l0_1 _ _ l0_2 a0_3 a1 t306 _ ?_ ?_ ?_ ?_ A3.out).mono ?_); exact zq11; exact zq12; exact zq15; exact zq16; rintro e w47 ⟨rfl, hb⟩; refine ⟨_, rfl, ?_⟩; replace BK304 := bF BK304 zq239 hb; replace BK305 := bF BK305 zq241 hb; replace HB := sB zq242 hb; clear hb; obtain ⟨hcz48_0, hcz48_1, hcz48_2, hcz48_3, hfz48_0, hfz48_1, hfz48_2, hfz48_3⟩ := c4 (w := w47) BK304) | (go_at_call 16; (with_reducible refine (spec_StoreOk.calls k a0_0 _ _ l0_1 _ _ l0_2 a0_3 false _ ?_ ?_ ?_ ?_ A11.out).mono ?_); exact zq11; exact zq12; exact zq15; exact zq16; rintro e w49 ⟨rfl, hb⟩; replace BK304 := bF BK304 zq239 hb; replace BK305 := bF BK305 zq241 hb; replace HB := sB zq242 hb; clear hb; obtain ⟨hcz50_0, hcz50_1, hcz50_2, hcz50_3, hfz50_0, hfz50_1, hfz50_2, hfz50_3⟩ := c4 (w := w49) BK305))
 refine bodyPost_ret (results_ct rfl _ _ gb305 31 #[.int .i64 0, .slice none 0 0, .slice none 0 0, .int .i64 0] (0, 0) _ rfl zq243 Try.underlying31 rfl (by kernel_rfl)) rfl ?_
 exact ⟨_, _, zq4, zq80, zq80, zq242⟩

/-! ### impl_used: function 58 -/
mutual
def impl_used.l0 : Nat → Int → List (S66) → Int → Int → Int → List (S66) → List (S68) → Int → Option (Int)
 | 0, _, _, _, _, _, _, _, _ => none
 | k + 1, x3, x9, x10, x11, x329000, x329001, x329002, x329003 => if x11 < x10 then (if 0 ≤ x11 then (if x11 < (x9.length : Int) then (impl_used.l0 k (wrap64 (x3 + (((rd_T66 x9 x11).f1).size : Int))) x9 x10 (wrap64 (x11 + 1)) x329000 x329001 x329002 x329003) else (none)) else (none)) else (impl_used.l1 k x3 x329002 (x329002.length : Int) 0)
def impl_used.l1 : Nat → Int → List (S68) → Int → Int → Option (Int)
 | 0, _, _, _, _ => none
 | k + 1, x3, x22, x23, x24 => if x24 < x23 then (if 0 ≤ x24 then (if x24 < (x22.length : Int) then (impl_used.l1 k (wrap64 (x3 + (((rd_T68 x22 x24).f1).size : Int))) x22 x23 (wrap64 (x24 + 1))) else (none)) else (none)) else (some x3)
end
def impl_used.f (k : Nat) (a0_0 : Int) (l0_1 : List (S66)) (l0_2 : List (S68)) (a0_3 : Int) : Option (Int) := impl_used.l0 k 0 l0_1 (l0_1.length : Int) 0 a0_0 l0_1 l0_2 a0_3
theorem impl_used.mono_l : ∀ k, (∀ y0 y1 y2 y3 y4 y5 y6 y7, LeO (impl_used.l0 k y0 y1 y2 y3 y4 y5 y6 y7) (impl_used.l0 (k + 1) y0 y1 y2 y3 y4 y5 y6 y7)) ∧ (∀ y0 y1 y2 y3, LeO (impl_used.l1 k y0 y1 y2 y3) (impl_used.l1 (k + 1) y0 y1 y2 y3))
 | 0 => ⟨fun _ _ _ _ _ _ _ _ r h => by simp [impl_used.l0] at h, fun _ _ _ _ r h => by simp [impl_used.l1] at h⟩
 | k + 1 => by
  obtain ⟨ih0, ih1⟩ := impl_used.mono_l k
  refine ⟨?_, ?_⟩
  ·
   intro y0 y1 y2 y3 y4 y5 y6 y7
   unfold impl_used.l0
   repeat' first
   | (with_reducible exact ih0 _ _ _ _ _ _ _ _)
   | (with_reducible exact ih1 _ _ _ _)
   | (with_reducible exact LeO.refl _)
   | (with_reducible exact LeO.none _)
   | (with_reducible refine LeO.ite ?_ ?_)
   | (with_reducible refine LeO.bind ?_ (fun _ => ?_))
   | exact LeO.none _
   | refine LeO.ite ?_ ?_
   | refine LeO.bind ?_ (fun _ => ?_)
  intro y0 y1 y2 y3
  unfold impl_used.l1
  repeat' first
  | (with_reducible exact ih0 _ _ _ _ _ _ _ _)
  | (with_reducible exact ih1 _ _ _ _)
  | (with_reducible exact LeO.refl _)
  | (with_reducible exact LeO.none _)
  | (with_reducible refine LeO.ite ?_ ?_)
  | (with_reducible refine LeO.bind ?_ (fun _ => ?_))
  | exact LeO.none _
  | refine LeO.ite ?_ ?_
  | refine LeO.bind ?_ (fun _ => ?_)
theorem impl_used.mono : ∀ a0 a1 a2 a3 k, LeO (impl_used.f k a0 a1 a2 a3) (impl_used.f (k + 1) a0 a1 a2 a3) := by
 intro a0 a1 a2 a3 k
 obtain ⟨ih0, ih1⟩ := impl_used.mono_l k
 unfold impl_used.f
 repeat' first
   | (with_reducible exact ih0 _ _ _ _ _ _ _ _)
   | (with_reducible exact ih1 _ _ _ _)
   | (with_reducible exact LeO.refl _)
   | (with_reducible exact LeO.none _)
   | (with_reducible refine LeO.ite ?_ ?_)
   | (with_reducible refine LeO.bind ?_ (fun _ => ?_))
   | exact LeO.none _
   | refine LeO.ite ?_ ?_
   | refine LeO.bind ?_ (fun _ => ?_)
set_option maxHeartbeats 8000000 in
set_option maxRecDepth 100000 in
theorem impl_used.calls (k : Nat) (a0_0 : Int) (A0_1 : Option Addr) (c0_1 : Nat) (l0_1 : List (S66)) (A0_2 : Option Addr) (c0_2 : Nat) (l0_2 : List (S68)) (a0_3 : Int) (r : Int) (w : World) (hr0_1 : Kd.C k66 w A0_1 l0_1.length l0_1) (hc0_1 : l0_1.length ≤ c0_1) (hr0_2 : Kd.C k68 w A0_2 l0_2.length l0_2) (hc0_2 : l0_2.length ≤ c0_2) (h : impl_used.f k a0_0 l0_1 l0_2 a0_3 = some r) :
  Calls Try.prog 58 #[.agg #[.int .i64 a0_0, .slice A0_1 l0_1.length c0_1, .slice A0_2 l0_2.length c0_2, .int .i64 a0_3]] w fun e w' => e = .returned (.int .i64 r) ∧ Below w.heap.size w w' := by
 have hu31 := Try.underlying31
 have hu66 := Try.underlying66
 have hu68 := Try.underlying68
 have HR0_1 := Aside0.mk hr0_1
 have HC0_1 := Aside0.mk hc0_1
 clear hr0_1 hc0_1
 have HR0_2 := Aside0.mk hr0_2
 have HC0_2 := Aside0.mk hc0_2
 clear hr0_2 hc0_2
 have HB := Aside0.mk (Below.refl w.heap.size w)
 have H : (impl_used.l0 k 0 l0_1 (l0_1.length : Int) 0 a0_0 l0_1 l0_2 a0_3) = some r := h
 clear h
 have H' := Aside0.mk H
 clear H
 go_enter Try.func58, Try.ntmps58
 go_wp2_with (first | ((with_reducible refine gate_dst (N := 1) rfl ?_); refine box_event ?hg (N := 1) ?hd (cs := #[.int .i64 a0_0, .slice A0_1 l0_1.length c0_1, .slice A0_2 l0_2.length c0_2, .int .i64 a0_3]) (t := 31) ?hr ?_; (case hd => rfl); (case hg => rfl); (case hr => exact zq2); intro gb328 hg w2 hbox hb; have BK328 := Aside0.mk hbox; have GW328 := Aside0.mk (zq254 : w.heap.size ≤ gb328); have GE328 := Aside0.mk (zq254 : w.heap.size ≤ gb328); replace HB := sB zq3 hb; clear hb hbox hg; obtain ⟨hcz3_0, hcz3_1, hcz3_2, hcz3_3, hfz3_0, hfz3_1, hfz3_2, hfz3_3⟩ := c4 (w := w2) BK328))
 go_loopg [3, 11] k (fun kq v3 v11 w' => ∃ (x3_1 : Int) (x11_1 : Int), v3 = .int .i64 x3_1 ∧ v11 = .int .i64 x11_1 ∧ Aside0 (impl_used.l0 kq x3_1 l0_1 (l0_1.length : Int) x11_1 a0_0 l0_1 l0_2 a0_3 = some r) ∧ Aside0 (kq ≤ k) ∧ Aside0 (w'.heap[gb328]? = some (.cells #[.int .i64 a0_0, (.slice A0_1 l0_1.length c0_1), (.slice A0_2 l0_2.length c0_2), .int .i64 a0_3] 31 (0, 0))) ∧ Aside0 (Below w.heap.size w w'))
 case atStart => exact ⟨(0), (0), zq6, zq6, H', ⟨Nat.le_refl _⟩, ⟨zq247⟩, ⟨zq248⟩⟩
 case round =>
  clear H'
  try clear p2
  try clear hcz3_0
  try clear hcz3_1
  try clear hcz3_2
  try clear hcz3_3
  try clear hfz3_0
  try clear hfz3_1
  try clear hfz3_2
  try clear hfz3_3
  obtain ⟨x3_1, x11_1, rfl, rfl, HA, HK1, BK328, HB⟩ := hrel
  cases gk with
  | zero => exact absurd HA.out (by simp [impl_used.l0])
  | succ k1 =>
   have H := HA.out
   clear HA
   simp only [impl_used.l0] at H
   by_cases c4 : x11_1 < (l0_1.length : Int)
   ·
    rw [if_pos c4] at H
    have c4b0 := decide_eq_true c4
    clear c4
    by_cases c5 : 0 ≤ x11_1
    ·
     rw [if_pos c5] at H
     have c5b0 := decide_eq_true c5
     clear c5
     by_cases c6 : x11_1 < (l0_1.length : Int)
     ·
      rw [if_pos c6] at H
      have c6b0 := decide_eq_true c6
      clear c6
      have H' := Aside0.mk H
      clear H
      have p329 : 0 ≤ (x11_1 : Int) := of_decide_eq_true zq7
      have q329 : x11_1 < (l0_1.length : Int) := of_decide_eq_true zq7
      obtain ⟨ad329, e329, hx329_0, hx329_1⟩ := at_T66 HR0_1.out x11_1 p329 q329
      cases e329
      replace hx329_0 := (HB.out.cell (World.block_lt_of_cell? w _ hx329_0)).trans hx329_0
      replace hx329_1 := (HB.out.cell (World.block_lt_of_cell? w _ hx329_1)).trans hx329_1
      replace p329 := eq_true p329
      replace q329 := eq_true q329
      go_wp2_with (first | ((with_reducible refine gate_dst (N := 5) rfl ?_); refine box_event ?hg (N := 5) ?hd (cs := #[.string (⟨#[]⟩ : ByteArray), .string (⟨#[]⟩ : ByteArray)]) (t := 66) ?hr ?_; (case hd => rfl); (case hg => rfl); (case hr => exact zq2); intro gb330 hg w7 hbox hb; have BK330 := Aside0.mk hbox; have GW330 := Aside0.mk (zq306 : w.heap.size ≤ gb330); have GE330 := Aside0.mk (zq306 : w.heap.size ≤ gb330); replace HB := sB zq248 hb; have NB328_330 := Aside0.mk (by rw [hg]; exact Nat.ne_of_lt (blk_lt (g := gb328) (o := .cells #[.int .i64 a0_0, .slice (some ad329) l0_1.length c0_1, .slice A0_2 l0_2.length c0_2, .int .i64 a0_3] 31 (0, 0)) zq247) : gb328 ≠ gb330); have NB330_328 := Aside0.mk (by rw [hg]; exact Nat.ne_of_gt (blk_lt (g := gb328) (o := .cells #[.int .i64 a0_0, .slice (some ad329) l0_1.length c0_1, .slice A0_2 l0_2.length c0_2, .int .i64 a0_3] 31 (0, 0)) zq247) : gb330 ≠ gb328); replace BK328 := bF BK328 zq247 hb; clear hb hbox hg; have hnb8 := NB330_328.out; have hnc8 := NB328_330.out; obtain ⟨hcz9_0, hcz9_1, hfz9_0, hfz9_1⟩ := c2 (w := w7) BK330))
      go_roundg k1
      case measure => have := HK1.out; omega
      case rel => exact ⟨(wrap64 (x3_1 + (((rd_T66 l0_1 x11_1).f1).size : Int))), (wrap64 (x11_1 + 1)), zq6, zq6, H', ⟨zq9⟩, ⟨by (with_reducible repeat (first | refine blk_drewN ?_ _ | refine blk_drew ?_ | refine blk_alloc ?_ _)); refine blk_far ?_ NB328_330.out _; (with_reducible repeat (first | refine blk_drewN ?_ _ | refine blk_drew ?_ | refine blk_alloc ?_ _)); refine blk_far ?_ NB328_330.out _; (with_reducible repeat (first | refine blk_drewN ?_ _ | refine blk_drew ?_ | refine blk_alloc ?_ _)); exact BK328.out⟩, ⟨by repeat (first | (with_reducible first | exact HB.out | apply below_alloc | apply pw_below_drewN | apply below_drew1 | refine below_set ?_ GE328.out | refine below_set ?_ GE330.out) | exact HB.out)⟩⟩
     exact zq312
    exact zq307
   rw [if_neg c4] at H
   have c4b0 := decide_eq_false c4
   clear c4
   have H' := Aside0.mk H
   clear H
   obtain ⟨hcz10_0, hcz10_1, hcz10_2, hcz10_3, hfz10_0, hfz10_1, hfz10_2, hfz10_3⟩ := c4 (w := wr) BK328
   go_wp2
   go_loopg [3, 24] k1 (fun kq v3 v24 w' => ∃ (x3_2 : Int) (x24_2 : Int), v3 = .int .i64 x3_2 ∧ v24 = .int .i64 x24_2 ∧ Aside0 (impl_used.l1 kq x3_2 l0_2 (l0_2.length : Int) x24_2 = some r) ∧ Aside0 (kq ≤ k1) ∧ Aside0 (w'.heap[gb328]? = some (.cells #[.int .i64 a0_0, (.slice A0_1 l0_1.length c0_1), (.slice A0_2 l0_2.length c0_2), .int .i64 a0_3] 31 (0, 0))) ∧ Aside0 (Below w.heap.size w w'))
   case atStart => exact ⟨(x3_1), (0), zq6, zq6, H', ⟨Nat.le_refl _⟩, ⟨zq247⟩, ⟨zq248⟩⟩
   case round =>
    clear H'
    try clear p2
    try clear p3
    try clear q3
    try clear hx3
    try clear c4
    try clear c4b0
    try clear c5
    try clear c5b0
    try clear c6
    try clear c6b0
    try clear p6
    try clear c8
    try clear hcz10_0
    try clear hcz10_1
    try clear hcz10_2
    try clear hcz10_3
    try clear hcz3_0
    try clear hcz3_1
    try clear hcz3_2
    try clear hcz3_3
    try clear hcz9_0
    try clear hcz9_1
    try clear hfz10_0
    try clear hfz10_1
    try clear hfz10_2
    try clear hfz10_3
    try clear hfz3_0
    try clear hfz3_1
    try clear hfz3_2
    try clear hfz3_3
    try clear hfz9_0
    try clear hfz9_1
    try clear hx329_0
    try clear hx329_1
    try clear p2
    try clear p329
    try clear q329
    obtain ⟨x3_2, x24_2, rfl, rfl, HA, HK2, BK328, HB⟩ := hrel
    cases gk with
    | zero => exact absurd HA.out (by simp [impl_used.l1])
    | succ k2 =>
     have H := HA.out
     clear HA
     simp only [impl_used.l1] at H
     by_cases c11 : x24_2 < (l0_2.length : Int)
     ·
      rw [if_pos c11] at H
      have c11b0 := decide_eq_true c11
      clear c11
      by_cases c12 : 0 ≤ x24_2
      ·
       rw [if_pos c12] at H
       have c12b0 := decide_eq_true c12
       clear c12
       by_cases c13 : x24_2 < (l0_2.length : Int)
       ·
        rw [if_pos c13] at H
        have c13b0 := decide_eq_true c13
        clear c13
        have H' := Aside0.mk H
        clear H
        have p331 : 0 ≤ (x24_2 : Int) := of_decide_eq_true zq7
        have q331 : x24_2 < (l0_2.length : Int) := of_decide_eq_true zq7
        obtain ⟨ad331, e331, hx331_0, hx331_1⟩ := at_T68 HR0_2.out x24_2 p331 q331
        cases e331
        replace hx331_0 := (HB.out.cell (World.block_lt_of_cell? w _ hx331_0)).trans hx331_0
        replace hx331_1 := (HB.out.cell (World.block_lt_of_cell? w _ hx331_1)).trans hx331_1
        replace p331 := eq_true p331
        replace q331 := eq_true q331
        go_wp2_with (first | ((with_reducible refine gate_dst (N := 7) rfl ?_); refine box_event ?hg (N := 7) ?hd (cs := #[.int .i64 0, .string (⟨#[]⟩ : ByteArray)]) (t := 68) ?hr ?_; (case hd => rfl); (case hg => rfl); (case hr => exact zq2); intro gb332 hg w14 hbox hb; have BK332 := Aside0.mk hbox; have GW332 := Aside0.mk (zq306 : w.heap.size ≤ gb332); have GE332 := Aside0.mk (zq306 : w.heap.size ≤ gb332); replace HB := sB zq248 hb; have NB328_332 := Aside0.mk (by rw [hg]; exact Nat.ne_of_lt (blk_lt (g := gb328) (o := .cells #[.int .i64 a0_0, .slice A0_1 l0_1.length c0_1, .slice (some ad331) l0_2.length c0_2, .int .i64 a0_3] 31 (0, 0)) zq247) : gb328 ≠ gb332); have NB332_328 := Aside0.mk (by rw [hg]; exact Nat.ne_of_gt (blk_lt (g := gb328) (o := .cells #[.int .i64 a0_0, .slice A0_1 l0_1.length c0_1, .slice (some ad331) l0_2.length c0_2, .int .i64 a0_3] 31 (0, 0)) zq247) : gb332 ≠ gb328); replace BK328 := bF BK328 zq247 hb; clear hb hbox hg; have hnb15 := NB332_328.out; have hnc15 := NB328_332.out; obtain ⟨hcz16_0, hcz16_1, hfz16_0, hfz16_1⟩ := c2 (w := w14) BK332))
        go_roundg k2
        case measure => have := HK1.out; have := HK2.out; omega
        case rel => exact ⟨(wrap64 (x3_2 + (((rd_T68 l0_2 x24_2).f1).size : Int))), (wrap64 (x24_2 + 1)), zq6, zq6, H', ⟨zq50⟩, ⟨by (with_reducible repeat (first | refine blk_drewN ?_ _ | refine blk_drew ?_ | refine blk_alloc ?_ _)); refine blk_far ?_ NB328_332.out _; (with_reducible repeat (first | refine blk_drewN ?_ _ | refine blk_drew ?_ | refine blk_alloc ?_ _)); refine blk_far ?_ NB328_332.out _; (with_reducible repeat (first | refine blk_drewN ?_ _ | refine blk_drew ?_ | refine blk_alloc ?_ _)); exact BK328.out⟩, ⟨by repeat (first | (with_reducible first | exact HB.out | apply below_alloc | apply pw_below_drewN | apply below_drew1 | refine below_set ?_ GE328.out | refine below_set ?_ GE332.out) | exact HB.out)⟩⟩
       exact zq318
      rw [if_neg c12] at H
      exact absurd H (by simp)
     rw [if_neg c11] at H
     have c11b0 := decide_eq_false c11
     clear c11
     obtain rfl := Option.some.inj H
     go_wp2
     go_ret
     exact ⟨zq4, zq248⟩

/-! ### binary_bigEndian_AppendUint64: function 113 -/
def binary_bigEndian_AppendUint64.f  (l1 : List Int) (a2 : Int) : Option (List Int) := (some (([(a2 / 72057594037927936) % 256, (a2 / 281474976710656) % 256, (a2 / 1099511627776) % 256, (a2 / 4294967296) % 256, (a2 / 16777216) % 256, (a2 / 65536) % 256, (a2 / 256) % 256, (a2) % 256] : List Int) : List Int)).bind fun y334 => (if l1.length + y334.length < 140737488355328 then (some (l1 ++ y334)) else (none))
set_option maxHeartbeats 8000000 in
set_option maxRecDepth 100000 in
theorem binary_bigEndian_AppendUint64.calls  (P1_ : Nat → Prop) (u9000_ : Value) (l1 : List Int) (a2 : Int) (r : List Int) (w0 w : World) (hB : Below w0.heap.size w0 w) (ho1 : Kd.R (Kd.int .u8) 5 w w0.heap.size P1_ u9000_ l1) (h : binary_bigEndian_AppendUint64.f l1 a2 = some r) :
  Calls Try.prog 113 #[.agg #[], u9000_, .int .u64 a2] w fun e w' => ∃ v0_ : Value, e = .returned (v0_) ∧ Kd.R (Kd.int .u8) 5 w' w0.heap.size (fun k_ => (P1_ k_ ∨ w.heap.size ≤ k_)) v0_ r ∧ Below w0.heap.size w0 w' ∧ Kept w w' (fun k_ => P1_ k_) := by
 have hu121 := Try.underlying121
 have HO1 := Aside0.mk (show Kd.R (Kd.int .u8) 5 w w0.heap.size (fun k_ => (P1_ k_ ∨ w.heap.size ≤ k_)) u9000_ l1 from Kd.R_mono ho1 (fun k_ hk => (.inl hk)))
 have HK := Aside0.mk (Kept.refl w (fun k_ => P1_ k_))
 have HW0 := Aside0.mk hB.size
 have HB := Aside0.mk hB
 clear hB
 have H : ((some (([(a2 / 72057594037927936) % 256, (a2 / 281474976710656) % 256, (a2 / 1099511627776) % 256, (a2 / 4294967296) % 256, (a2 / 16777216) % 256, (a2 / 65536) % 256, (a2 / 256) % 256, (a2) % 256] : List Int) : List Int)).bind fun y334 => (if l1.length + y334.length < 140737488355328 then (some (l1 ++ y334)) else (none))) = some r := h
 clear h
 obtain ⟨y334, hy334⟩ : ∃ y_ : List Int, y_ = (([(a2 / 72057594037927936) % 256, (a2 / 281474976710656) % 256, (a2 / 1099511627776) % 256, (a2 / 4294967296) % 256, (a2 / 16777216) % 256, (a2 / 65536) % 256, (a2 / 256) % 256, (a2) % 256] : List Int)) := ⟨_, rfl⟩
 replace H : (if l1.length + y334.length < 140737488355328 then (some (l1 ++ y334)) else (none)) = some r := by first | (rw [hy334]; with_reducible exact H) | (have H2_ := (Option.bind_some _ _).symm.trans H; rw [hy334]; with_reducible exact H2_) | (have H2_ := (Option.bind_some _ _).symm.trans H; with_reducible exact H2_) | with_reducible exact H | (rw [hy334]; exact H) | exact H
 have Ny334 := Aside0.mk hy334
 clear hy334
 by_cases c4 : l1.length + y334.length < 140737488355328
 ·
  rw [if_pos c4] at H
  have LMc4 := Aside0.mk c4
  clear c4
  obtain ⟨y337, hy337⟩ : ∃ y_ : List Int, y_ = (l1 ++ y334) := ⟨_, rfl⟩
  replace H : (some y337) = some r := by first | (rw [hy337]; with_reducible exact H) | (have H2_ := (Option.bind_some _ _).symm.trans H; rw [hy337]; with_reducible exact H2_) | (have H2_ := (Option.bind_some _ _).symm.trans H; with_reducible exact H2_) | with_reducible exact H | (rw [hy337]; exact H) | exact H
  have Ny337 := Aside0.mk hy337
  clear hy337
  obtain rfl := Option.some.inj H
  go_enter Try.func113, Try.ntmps113
  go_wp2_with (first | ((with_reducible refine gate_dst (N := 3) rfl ?_); refine box_event ?hg (N := 3) ?hd (cs := #[]) (t := 121) ?hr ?_; (case hd => rfl); (case hg => rfl); (case hr => exact zq2); intro gb333 hg w5 hbox hb; replace HO1 := rB zq249 hb; have BK333 := Aside0.mk hbox; have GW333 := Aside0.mk (by rw [hg]; exact (by first | exact HK.out.1 | exact (show Kept w _ (fun k_ => P1_ k_) from by repeat (first | (with_reducible first | exact HK.out | apply Kept.alloc | apply Kept.drewN | apply Kept.drew) | exact HK.out)).1) : w.heap.size ≤ gb333); replace HK := Aside0.mk (Kept.below (S := (fun k_ => P1_ k_)) zq204 hb); have GE333 := Aside0.mk (zq254 : w0.heap.size ≤ gb333); replace HB := sB zq3 hb; clear hb hbox hg) | ((with_reducible refine gate_dst (N := 31) rfl ?_); refine Kd.R_lit (Kd.int .u8) _ 5 ?hg (N := 31) ?hd (xs := ([(a2 / 72057594037927936) % 256, (a2 / 281474976710656) % 256, (a2 / 1099511627776) % 256, (a2 / 4294967296) % 256, (a2 / 16777216) % 256, (a2 / 65536) % 256, (a2 / 256) % 256, (a2) % 256] : List Int)) (inner := [.int .u8 ((a2 / 72057594037927936) % 256), .int .u8 ((a2 / 281474976710656) % 256), .int .u8 ((a2 / 1099511627776) % 256), .int .u8 ((a2 / 4294967296) % 256), .int .u8 ((a2 / 16777216) % 256), .int .u8 ((a2 / 65536) % 256), .int .u8 ((a2 / 256) % 256), .int .u8 ((a2) % 256)]) (ok := fun _ => True) (okp := fun _ => True) ?hr ?hp (fun _ hk => hk) trivial (Below.refl _ _) (Nat.le_refl _) (by simp) ?_; (case hd => rfl); (case hg => rfl); (case hr => exact zq2); (case hp => exact (Reps.one (show Kd.M (Kd.int .u8) _ _ _ ((a2 / 72057594037927936) % 256) [.int .u8 ((a2 / 72057594037927936) % 256)] from rfl) (Reps.one (show Kd.M (Kd.int .u8) _ _ _ ((a2 / 281474976710656) % 256) [.int .u8 ((a2 / 281474976710656) % 256)] from rfl) (Reps.one (show Kd.M (Kd.int .u8) _ _ _ ((a2 / 1099511627776) % 256) [.int .u8 ((a2 / 1099511627776) % 256)] from rfl) (Reps.one (show Kd.M (Kd.int .u8) _ _ _ ((a2 / 4294967296) % 256) [.int .u8 ((a2 / 4294967296) % 256)] from rfl) (Reps.one (show Kd.M (Kd.int .u8) _ _ _ ((a2 / 16777216) % 256) [.int .u8 ((a2 / 16777216) % 256)] from rfl) (Reps.one (show Kd.M (Kd.int .u8) _ _ _ ((a2 / 65536) % 256) [.int .u8 ((a2 / 65536) % 256)] from rfl) (Reps.one (show Kd.M (Kd.int .u8) _ _ _ ((a2 / 256) % 256) [.int .u8 ((a2 / 256) % 256)] from rfl) (Reps.one (show Kd.M (Kd.int .u8) _ _ _ ((a2) % 256) [.int .u8 ((a2) % 256)] from rfl) (Reps.none _ _)))))))))); intro v335 w6 ho7 hb hg_ hnew_; clear hg_ hnew_; (first | rw [← Ny334.out] at ho7 | (simp only [Int.reduceToNat] at ho7; rw [← Ny334.out] at ho7)); have HO336 := Aside0.mk (Kd.R_lower (Kd.R_new' (Kd.R_newM (M := fun k_ => (P1_ k_ ∨ w.heap.size ≤ k_)) ho7 zq250 (fun k_ h_ => .inr h_)) (Kd.R_lt zq249)) (below_size zq251)); replace HO1 := Aside0.mk (Kd.R_elder' zq249 (Kd.R_base ho7) hb); replace BK333 := bF BK333 zq252 hb; replace HK := Aside0.mk (Kept.below (S := (fun k_ => P1_ k_)) zq253 hb); replace HB := sB zq251 hb; clear hb ho7; obtain ⟨Ao9, co9, eo9⟩ := Kd.R_slice HO336.out; subst eo9) | ((with_reducible refine gate_builtin (b := .append) (xs := #[.tmp 7, .tmp 31]) rfl ?_); at_builtin; refine Kd.R_append_rows (Kd.int .u8) (w0 := w0) w0.heap.size rfl (.tmp 7) (.tmp 31) 56 5 (.int .u8 0) 1 rfl Try.underlying56 info5 rfl (by decide) (by omega) u9000_ l1 y334 _ _ _ (fun k_ => (P1_ k_ ∨ w.heap.size ≤ k_) ∧ some k_ ≠ (.slice Ao9 y334.length co9 : Value).ownBlock) (fun _ => False) rfl rfl ?aO ?aR (fun _ _ h => h) (fun _ h => h.elim) ?aF ?aB ?aS ?aL ?_; (case aR => repeat (first | exact (Kd.R_reads' HO336.out).2.2 | (with_reducible refine Kd.C_alloc ?_ _) | (with_reducible refine Kd.C_drewN ?_ _) | (with_reducible refine Kd.C_drew ?_))); (case aB => exact zq251); (case aF => exact (fun k_ hk => ⟨(.inr (Nat.le_trans zq250 hk)), Kd.fresh' (Kd.R_lt (by (with_reducible repeat (first | apply Kd.R_alloc | apply Kd.R_drewN | apply Kd.R_drew)); exact HO336.out)) k_ hk⟩)); (case aO => exact zq249); (case aS => exact (below_size zq251)); (case aL => have := LMc4.out; omega); intro v338 w8 ho hb hg hat; rw [← Ny337.out] at ho; have n0_ := Aside0.mk (blk_grown (g := gb333) (o := .cells #[] 121 (0, 0)) zq252 hg (Kd.R_ne HO1.out BK333.out (by decide))); have n1_ := Aside0.mk (Kd.R_after (ok := (fun k_ => (P1_ k_ ∨ w.heap.size ≤ k_))) (by (with_reducible repeat (first | apply Kd.R_alloc | apply Kd.R_drewN | apply Kd.R_drew)); exact Kd.R_mono HO336.out (fun _ hk => ⟨hk.1.1, hk.2⟩)) hg hat); have n2_ := Aside0.mk (hb); have n3_ := Aside0.mk (Kept.of_grown (S := (fun k_ => P1_ k_)) hg zq253 (fun k_ e_ => (HO1.out.1 k_ e_).1)); have n4_ := Aside0.mk (ho); clear BK333; clear HO336; clear HB; clear HK; clear HO1; have BK333 := n0_; have HO336 := n1_; have HB := n2_; have HK := n3_; have HO339 := n4_; clear n0_ n1_ n2_ n3_ n4_; clear ho hb hg hat))
  go_ret
  exact ⟨_, zq4, by (with_reducible repeat (first | apply Kd.R_alloc | apply Kd.R_drewN | apply Kd.R_drew)); exact Kd.R_mono HO339.out (fun _ hk => hk.1), zq251, zq253⟩
 exact zq313

end Go.Proofs.Ytacaeebjanglgaa.QFnExactDropBlob
