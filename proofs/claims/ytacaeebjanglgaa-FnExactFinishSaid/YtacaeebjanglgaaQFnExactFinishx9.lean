/- Written by wip/myprint.py of this repo (the kit's print, with additions of this session). -/
import Derived.Test.YtacaeebjanglgaaQFnExactFinishx0
set_option maxRecDepth 100000
namespace Go.Proofs.Ytacaeebjanglgaa.QFnExactFinish
open Go.RowKit Go.Proofs.YtacaeebjanglgaaW.PrintWords Go.Proofs.YtacaeebjanglgaaW.PrintLast Go.Proofs.YtacaeebjanglgaaW.PrintMore
attribute [local go_sem] max2_int min2_int max_two min_two max_three min_three max_four min_four   -- for this text's walks alone
set_option linter.unusedVariables false
set_option linter.unusedSimpArgs false

/-! ### spec_l6Blob: function 59 -/
def spec_l6Blob.l0 : Nat → ByteArray → Int → Int → List (S66) → List (S68) → Int → Option (Int)
 | 0, _, _, _, _, _, _ => none
 | k + 1, x1, x5, x289000, x289001, x289002, x289003 => if x5 < (x289001.length : Int) then (if 0 ≤ x5 then (if ((rd_T66 x289001 x5).f0).toList = x1.toList then (some x5) else (spec_l6Blob.l0 k x1 (wrap64 (x5 + 1)) x289000 x289001 x289002 x289003)) else (none)) else (some (-1))
def spec_l6Blob.f (k : Nat) (a0_0 : Int) (l0_1 : List (S66)) (l0_2 : List (S68)) (a0_3 : Int) (a1 : ByteArray) : Option (Int) := spec_l6Blob.l0 k a1 0 a0_0 l0_1 l0_2 a0_3
theorem spec_l6Blob.mono_l : ∀ k, (∀ y0 y1 y2 y3 y4 y5, LeO (spec_l6Blob.l0 k y0 y1 y2 y3 y4 y5) (spec_l6Blob.l0 (k + 1) y0 y1 y2 y3 y4 y5))
 | 0 => fun _ _ _ _ _ _ r h => by simp [spec_l6Blob.l0] at h
 | k + 1 => by
  have ih0 := spec_l6Blob.mono_l k
  ·
   intro y0 y1 y2 y3 y4 y5; unfold spec_l6Blob.l0
   repeat' first
   | (with_reducible exact ih0 _ _ _ _ _ _)
   | (with_reducible exact LeO.refl _)
   | (with_reducible exact LeO.none _)
   | (with_reducible refine LeO.ite ?_ ?_)
   | (with_reducible refine LeO.bind ?_ (fun _ => ?_))
   | exact LeO.none _
   | refine LeO.ite ?_ ?_
   | refine LeO.bind ?_ (fun _ => ?_)
theorem spec_l6Blob.mono : ∀ a0 a1 a2 a3 a4 k, LeO (spec_l6Blob.f k a0 a1 a2 a3 a4) (spec_l6Blob.f (k + 1) a0 a1 a2 a3 a4) := by
 intro a0 a1 a2 a3 a4 k; have ih0 := spec_l6Blob.mono_l k; unfold spec_l6Blob.f
 repeat' first
   | (with_reducible exact ih0 _ _ _ _ _ _)
   | (with_reducible exact LeO.refl _)
   | (with_reducible exact LeO.none _)
   | (with_reducible refine LeO.ite ?_ ?_)
   | (with_reducible refine LeO.bind ?_ (fun _ => ?_))
   | exact LeO.none _
   | refine LeO.ite ?_ ?_
   | refine LeO.bind ?_ (fun _ => ?_)
set_option maxHeartbeats 8000000 in
set_option maxRecDepth 100000 in
theorem spec_l6Blob.calls (k : Nat) (a0_0 : Int) (A0_1 : Option Addr) (c0_1 : Nat) (l0_1 : List (S66)) (A0_2 : Option Addr) (c0_2 : Nat) (l0_2 : List (S68)) (a0_3 : Int) (a1 : ByteArray) (r : Int) (w : World) (hr0_1 : Kd.C k66 w A0_1 l0_1.length l0_1) (hc0_1 : l0_1.length ≤ c0_1) (hr0_2 : Kd.C k68 w A0_2 l0_2.length l0_2) (hc0_2 : l0_2.length ≤ c0_2) (h : spec_l6Blob.f k a0_0 l0_1 l0_2 a0_3 a1 = some r) :
  Calls Try.prog 59 #[.agg #[.int .i64 a0_0, .slice A0_1 l0_1.length c0_1, .slice A0_2 l0_2.length c0_2, .int .i64 a0_3], .string a1] w fun e w' => e = .returned (.int .i64 r) ∧ Below w.heap.size w w' := by
 have hu31 := Try.underlying31; have HR0_1 := aM hr0_1; have HC0_1 := aM hc0_1; clear hr0_1 hc0_1; have HR0_2 := aM hr0_2; have HC0_2 := aM hc0_2; clear hr0_2 hc0_2; have HB := aM (Below.refl w.heap.size w); unfold spec_l6Blob.f at h; have H := h; clear h; have H' := aM H; clear H; go_enter Try.func59, Try.ntmps59
 go_wp2_with (first | ((with_reducible refine gD 2 rfl ?_); refine bE 2 #[.int .i64 a0_0, .slice A0_1 l0_1.length c0_1, .slice A0_2 l0_2.length c0_2, .int .i64 a0_3] 31 ?_; intro gb288 hg w3 hbox hb; have BK288 := aM hbox; have GW288 := aM (zq281 : w.heap.size ≤ gb288); have GE288 := aM (zq281 : w.heap.size ≤ gb288); replace HB := sB zq3 hb; clear hb hbox hg))
 go_loopg [5] k (fun kq v5 w' => ∃ (x5_1 : Int), v5 = .int .i64 x5_1 ∧ Aside0 (spec_l6Blob.l0 kq a1 x5_1 a0_0 l0_1 l0_2 a0_3 = some r) ∧ Aside0 (kq ≤ k) ∧ Aside0 (w'.heap[gb288]? = some (.cells #[.int .i64 a0_0, (.slice A0_1 l0_1.length c0_1), (.slice A0_2 l0_2.length c0_2), .int .i64 a0_3] 31 (0, 0))) ∧ Aside0 (Below w.heap.size w w'))
 case atStart => exact ⟨(0), zq6, H', ⟨Nat.le_refl _⟩, ⟨zq272⟩, ⟨zq273⟩⟩
 case round =>
  clear H'; (try clear p2); obtain ⟨x5_1, rfl, HA, HK1, BK288, HB⟩ := hrel
  cases gk with
  | zero => exact absurd HA.out (by simp [spec_l6Blob.l0])
  | succ k1 =>
   have H := HA.out; clear HA; simp only [spec_l6Blob.l0] at H; by_cases c4 : x5_1 < (l0_1.length : Int)
   ·
    rw [if_pos c4] at H; have c4b0 := decide_eq_true c4; clear c4; by_cases c5 : 0 ≤ x5_1
    ·
     rw [if_pos c5] at H; have c5b0 := decide_eq_true c5; clear c5; by_cases c6 : ((rd_T66 l0_1 x5_1).f0).toList = a1.toList
     ·
      rw [if_pos c6] at H; have c6b0 : (((rd_T66 l0_1 x5_1).f0).toList == a1.toList) = true := beq_iff_eq.mpr c6; have c6b1 : (((rd_T66 l0_1 x5_1).f0).toList != a1.toList) = false := bne_eq_false_iff_eq.mpr c6; clear c6; obtain rfl := Option.some.inj H; obtain ⟨hcz7_0, hcz7_1, hcz7_2, hcz7_3, hfz7_0, hfz7_1, hfz7_2, hfz7_3⟩ := cells4_ (w := wr) BK288; have p289 : 0 ≤ (x5_1 : Int) := of_decide_eq_true zq7; have q289 : x5_1 < (l0_1.length : Int) := of_decide_eq_true zq7; obtain ⟨ad289, e289, hx289_0, hx289_1⟩ := at_T66 HR0_1.out x5_1 p289 q289; cases e289; replace hx289_0 := hxB HB hx289_0; replace hx289_1 := hxB HB hx289_1; replace p289 := eq_true p289; replace q289 := eq_true q289; go_wp2; go_ret; exact ⟨zq4, zq273⟩
     rw [if_neg c6] at H; have c6b0 : (((rd_T66 l0_1 x5_1).f0).toList == a1.toList) = false := beq_eq_false_iff_ne.mpr c6; have c6b1 : (((rd_T66 l0_1 x5_1).f0).toList != a1.toList) = true := bne_iff_ne.mpr c6; have H' := aM H; clear H; obtain ⟨hcz8_0, hcz8_1, hcz8_2, hcz8_3, hfz8_0, hfz8_1, hfz8_2, hfz8_3⟩ := cells4_ (w := wr) BK288; have p289 : 0 ≤ (x5_1 : Int) := of_decide_eq_true zq7; have q289 : x5_1 < (l0_1.length : Int) := of_decide_eq_true zq7; obtain ⟨ad289, e289, hx289_0, hx289_1⟩ := at_T66 HR0_1.out x5_1 p289 q289; cases e289; replace hx289_0 := hxB HB hx289_0; replace hx289_1 := hxB HB hx289_1; replace p289 := eq_true p289; replace q289 := eq_true q289; go_wp2
     go_roundg k1
     case measure => have := HK1.out; omega
     case rel => exact ⟨(wrap64 (x5_1 + 1)), zq6, H', ⟨zq9⟩, ⟨zq272⟩, ⟨zq273⟩⟩
    exact zq343
   rw [if_neg c4] at H; have c4b0 := decide_eq_false c4; clear c4; obtain rfl := Option.some.inj H; obtain ⟨hcz9_0, hcz9_1, hcz9_2, hcz9_3, hfz9_0, hfz9_1, hfz9_2, hfz9_3⟩ := cells4_ (w := wr) BK288; go_wp2; go_ret; exact ⟨zq4, zq273⟩

/-! ### spec_l6Copy: function 68 -/
def spec_l6Copy.f (a0_0 : Int) (l0_1 : List (S66)) (l0_2 : List (S68)) (a0_3 : Int) : Option (Int × (List (S66)) × (List (S68)) × Int) := (some (([] : List (S66)) : List (S66))).bind fun y292 => (if y292.length + l0_1.length < 4398046511104 then ((some (([] : List (S68)) : List (S68))).bind fun y298 => (if y298.length + l0_2.length < 5864062014805 then (some (a0_0, (y292 ++ l0_1), (y298 ++ l0_2), a0_3)) else (none))) else (none))
set_option maxHeartbeats 8000000 in
set_option maxRecDepth 100000 in
theorem spec_l6Copy.calls (a0_0 : Int) (A0_1 : Option Addr) (c0_1 : Nat) (l0_1 : List (S66)) (A0_2 : Option Addr) (c0_2 : Nat) (l0_2 : List (S68)) (a0_3 : Int) (r1 : Int) (r2 : List (S66)) (r3 : List (S68)) (r4 : Int) (w : World) (hr0_1 : Kd.C k66 w A0_1 l0_1.length l0_1) (hc0_1 : l0_1.length ≤ c0_1) (hr0_2 : Kd.C k68 w A0_2 l0_2.length l0_2) (hc0_2 : l0_2.length ≤ c0_2) (h : spec_l6Copy.f a0_0 l0_1 l0_2 a0_3 = some (r1, r2, r3, r4)) :
  Calls Try.prog 68 #[.agg #[.int .i64 a0_0, .slice A0_1 l0_1.length c0_1, .slice A0_2 l0_2.length c0_2, .int .i64 a0_3]] w fun e w' => ∃ v1_ v2_ : Value, e = .returned (.agg #[.int .i64 r1, v1_, v2_, .int .i64 r4]) ∧ Kd.R k66 66 w' w.heap.size (fun _ => True) v1_ r2 ∧ Kd.R k68 68 w' w.heap.size (fun _ => True) v2_ r3 ∧ Below w.heap.size w w' := by
 have hu31 := Try.underlying31; have HR0_1 := aM hr0_1; have HC0_1 := aM hc0_1; clear hr0_1 hc0_1; have HR0_2 := aM hr0_2; have HC0_2 := aM hc0_2; clear hr0_2 hc0_2; have HB := aM (Below.refl w.heap.size w); unfold spec_l6Copy.f at h; have H := h; clear h; obtain ⟨y292, hy292⟩ : ∃ y_ : List (S66), y_ = (([] : List (S66))) := ⟨_, rfl⟩; have hy_ := hy292; replace H : (if y292.length + l0_1.length < 4398046511104 then ((some (([] : List (S68)) : List (S68))).bind fun y298 => (if y298.length + l0_2.length < 5864062014805 then (some (a0_0, (y292 ++ l0_1), (y298 ++ l0_2), a0_3)) else (none))) else (none)) = some (r1, r2, r3, r4) := hyE; clear hy_; have Ny292 := aM hy292; clear hy292; by_cases c2 : y292.length + l0_1.length < 4398046511104
 ·
  rw [if_pos c2] at H; have LMc2 := aM c2; clear c2; obtain ⟨y295, hy295⟩ : ∃ y_ : List (S66), y_ = (y292 ++ l0_1) := ⟨_, rfl⟩; have hy_ := hy295; replace H : ((some (([] : List (S68)) : List (S68))).bind fun y298 => (if y298.length + l0_2.length < 5864062014805 then (some (a0_0, y295, (y298 ++ l0_2), a0_3)) else (none))) = some (r1, r2, r3, r4) := hyE; clear hy_; have Ny295 := aM hy295; clear hy295; obtain ⟨y298, hy298⟩ : ∃ y_ : List (S68), y_ = (([] : List (S68))) := ⟨_, rfl⟩; have hy_ := hy298; replace H : (if y298.length + l0_2.length < 5864062014805 then (some (a0_0, y295, (y298 ++ l0_2), a0_3)) else (none)) = some (r1, r2, r3, r4) := hyE; clear hy_; have Ny298 := aM hy298; clear hy298; by_cases c3 : y298.length + l0_2.length < 5864062014805
  ·
   rw [if_pos c3] at H; have LMc3 := aM c3; clear c3; obtain ⟨y301, hy301⟩ : ∃ y_ : List (S68), y_ = (y298 ++ l0_2) := ⟨_, rfl⟩; have hy_ := hy301; replace H : (some (a0_0, y295, y301, a0_3)) = some (r1, r2, r3, r4) := hyE; clear hy_; have Ny301 := aM hy301; clear hy301; simp only [Option.some.injEq, Prod.mk.injEq] at H; obtain ⟨rfl, rfl, rfl, rfl⟩ := H; go_enter Try.func68, Try.ntmps68
   go_wp2_with (first | ((with_reducible refine gD 1 rfl ?_); refine bE 1 #[.int .i64 a0_0, .slice A0_1 l0_1.length c0_1, .slice A0_2 l0_2.length c0_2, .int .i64 a0_3] 31 ?_; intro gb290 hg w4 hbox hb; have BK290 := aM hbox; have GW290 := aM (zq281 : w.heap.size ≤ gb290); have GE290 := aM (zq281 : w.heap.size ≤ gb290); replace HB := sB zq3 hb; clear hb hbox hg) | ((with_reducible refine gD 2 rfl ?_); refine bE 2 #[.int .i64 0, .slice none 0 0, .slice none 0 0, .int .i64 0] 31 ?_; intro gb291 hg w5 hbox hb; have BK291 := aM hbox; have GW291 := aM (by rw [hg]; exact (below_size zq275) : w.heap.size ≤ gb291); have GE291 := aM (by rw [hg]; exact (below_size zq275) : w.heap.size ≤ gb291); replace HB := sB zq275 hb; have NB290_291 := aM (by rw [hg]; exact Nat.ne_of_lt (blk_lt (g := gb290) (o := .cells #[.int .i64 a0_0, .slice A0_1 l0_1.length c0_1, .slice A0_2 l0_2.length c0_2, .int .i64 a0_3] 31 (0, 0)) zq274) : gb290 ≠ gb291); have NB291_290 := aM (by rw [hg]; exact Nat.ne_of_gt (blk_lt (g := gb290) (o := .cells #[.int .i64 a0_0, .slice A0_1 l0_1.length c0_1, .slice A0_2 l0_2.length c0_2, .int .i64 a0_3] 31 (0, 0)) zq274) : gb291 ≠ gb290); replace BK290 := bG BK290 hb; clear hb hbox hg) | ((with_reducible refine gD 3 rfl ?_); refine Kd.R_lit k66 _ 66 ?hg (N := 3) ?hd (xs := ([] : List (S66))) (inner := []) (ok := fun _ => True) (okp := fun _ => True) ?hr ?hp (fun _ hk => hk) trivial (Below.refl _ _) (Nat.le_refl _) (by simp) ?_; (case hd => rfl); (case hg => rfl); (case hr => exact zq2); (case hp => exact zq47); intro v293 w6 ho7 hb hg_ hnew_; clear hg_ hnew_; (first | rw [← Ny292.out] at ho7 | (simp only [Int.reduceToNat] at ho7; rw [← Ny292.out] at ho7)); have HO294 := aM (Kd.R_lower ho7 (below_size zq276)); replace BK290 := bG BK290 hb; replace BK291 := bG BK291 hb; replace HB := sB zq276 hb; clear hb ho7; have hnb8 := NB290_291.out; have hnc8 := NB291_290.out; obtain ⟨hcz9_0, hcz9_1, hcz9_2, hcz9_3, hfz9_0, hfz9_1, hfz9_2, hfz9_3⟩ := cells4_ (w := w6) BK290) | ((with_reducible refine gate_builtin (b := .append) (xs := #[.tmp 3, .tmp 5]) rfl ?_); at_builtin; refine Kd.R_append_rows k66 (w0 := w) w.heap.size rfl (.tmp 3) (.tmp 5) 28 66 (.agg #[(.string ⟨#[]⟩), (.string ⟨#[]⟩)]) 32 rfl Try.underlying28 info66 rfl (by decide) (by omega) v293 y292 l0_1 _ _ _ (fun _ => True) (fun _ => False) rfl rfl ?aO ?aR (fun _ _ h => h) (fun _ h => h.elim) ?aF ?aB ?aS ?aL ?_; (case aR => exact zq11); (case aB => exact zq276); (case aF => exact zq50); (case aO => exact (by refine dR ?_; exact HO294.out)); (case aS => exact (below_size zq276)); (case aL => have := LMc2.out; omega); intro v296 w10 ho hb hg hat; rw [← Ny295.out] at ho; have n0_ := aM (blk_grown (g := gb290) (o := .cells #[.int .i64 a0_0, .slice A0_1 l0_1.length c0_1, .slice A0_2 l0_2.length c0_2, .int .i64 a0_3] 31 (0, 0)) zq274 hg (Kd.R_ne HO294.out BK290.out (by decide))); have n1_ := aM (blk_grown (g := gb291) (o := .cells #[.int .i64 0, .slice none 0 0, .slice none 0 0, .int .i64 0] 31 (0, 0)) zq277 hg (Kd.R_ne HO294.out BK291.out (by decide))); have n2_ := aM (hb); have n3_ := aM (ho); clear BK290; clear BK291; clear HB; clear HO294; have BK290 := n0_; have BK291 := n1_; have HB := n2_; have HO297 := n3_; clear n0_ n1_ n2_ n3_; clear ho hb hg hat; obtain ⟨Ao11, co11, eo11⟩ := Kd.R_slice HO297.out; subst eo11; obtain ⟨hcz12_0, hcz12_1, hcz12_2, hcz12_3, hfz12_0, hfz12_1, hfz12_2, hfz12_3⟩ := cells4_ (w := w10) BK290) | ((with_reducible refine gD 8 rfl ?_); refine Kd.R_lit k68 _ 68 ?hg (N := 8) ?hd (xs := ([] : List (S68))) (inner := []) (ok := fun _ => True) (okp := fun _ => True) ?hr ?hp (fun _ hk => hk) trivial (Below.refl _ _) (Nat.le_refl _) (by simp) ?_; (case hd => rfl); (case hg => rfl); (case hr => exact zq2); (case hp => exact zq47); intro v299 w13 ho14 hb hg_ hnew_; clear hg_ hnew_; (first | rw [← Ny298.out] at ho14 | (simp only [Int.reduceToNat] at ho14; rw [← Ny298.out] at ho14)); replace HO297 := rB (by refine dR ?_; exact (Kd.R_mono (Kd.R_far (p := ⟨gb290, 1, none⟩) (Kd.R_types HO297.out BK290.out (by decide)) (fun _ hk => hk.2) (.slice Ao11 y295.length co11)) (fun _ h_ => h_.1))) hb; have HO300 := aM (Kd.R_lower ho14 (below_size zq276)); replace BK290 := bB (g := gb290) (o := .cells #[.int .i64 a0_0, .slice Ao11 y295.length co11, .slice A0_2 l0_2.length c0_2, .int .i64 a0_3] 31 (0, 0)) (by refine dW ?_; refine blk_put (cs := #[.int .i64 a0_0, .slice A0_1 l0_1.length c0_1, .slice A0_2 l0_2.length c0_2, .int .i64 a0_3]) ?_ 1 _ rfl; refine dW ?_; exact BK290.out) hb; replace BK291 := bF BK291 (by refine dW ?_; refine blk_far ?_ NB291_290.out _; refine dW ?_; exact BK291.out) hb; replace HB := sB zq276 hb; clear hb ho14; obtain ⟨hcz15_0, hcz15_1, hcz15_2, hcz15_3, hfz15_0, hfz15_1, hfz15_2, hfz15_3⟩ := cells4_ (w := w13) BK290) | ((with_reducible refine gate_builtin (b := .append) (xs := #[.tmp 8, .tmp 10]) rfl ?_); at_builtin; refine Kd.R_append_rows k68 (w0 := w) w.heap.size rfl (.tmp 8) (.tmp 10) 29 68 (.agg #[(.int .i64 0), (.string ⟨#[]⟩)]) 24 rfl Try.underlying29 info68 rfl (by decide) (by omega) v299 y298 l0_2 _ _ _ (fun _ => True) (fun _ => False) rfl rfl ?aO ?aR (fun _ _ h => h) (fun _ h => h.elim) ?aF ?aB ?aS ?aL ?_; (case aR => exact zq15); (case aB => exact zq276); (case aF => exact zq50); (case aO => exact zq278); (case aS => exact (below_size zq276)); (case aL => have := LMc3.out; omega); intro v302 w16 ho hb hg hat; rw [← Ny301.out] at ho; have n0_ := aM (blk_grown (g := gb290) (o := .cells #[.int .i64 a0_0, .slice Ao11 y295.length co11, .slice A0_2 l0_2.length c0_2, .int .i64 a0_3] 31 (0, 0)) zq274 hg (Kd.R_ne HO300.out BK290.out (by decide))); have n1_ := aM (blk_grown (g := gb291) (o := .cells #[.int .i64 0, .slice none 0 0, .slice none 0 0, .int .i64 0] 31 (0, 0)) zq277 hg (Kd.R_ne HO300.out BK291.out (by decide))); have n2_ := aM (Kd.R_over' (by refine dR ?_; exact HO297.out) (Kd.R_typed zq278) (by decide) hg); have n3_ := aM (hb); have n4_ := aM (ho); clear BK290; clear BK291; clear HO297; clear HB; clear HO300; have BK290 := n0_; have BK291 := n1_; have HO297 := n2_; have HB := n3_; have HO303 := n4_; clear n0_ n1_ n2_ n3_ n4_; clear ho hb hg hat; obtain ⟨Ao17, co17, eo17⟩ := Kd.R_slice HO303.out; subst eo17; obtain ⟨hcz18_0, hcz18_1, hcz18_2, hcz18_3, hfz18_0, hfz18_1, hfz18_2, hfz18_3⟩ := cells4_ (w := w16) BK290; obtain ⟨hcz19_0, hcz19_1, hcz19_2, hcz19_3, hfz19_0, hfz19_1, hfz19_2, hfz19_3⟩ := cells4_ (w := w16) BK291))
   refine bodyPost_ret (results_cell_row rfl _ _ gb291 31 #[.int .i64 a0_0, .slice Ao11 y295.length co11, .slice Ao17 y301.length co17, .int .i64 a0_3] (0, 0) _ rfl (by refine dW ?_; refine blk_put (cs := #[.int .i64 a0_0, .slice Ao11 y295.length co11, .slice Ao17 y301.length co17, .int .i64 0]) ?_ 3 _ rfl; refine dW ?_; refine blk_put (cs := #[.int .i64 a0_0, .slice Ao11 y295.length co11, .slice none 0 0, .int .i64 0]) ?_ 2 _ rfl; refine dW ?_; refine blk_put (cs := #[.int .i64 a0_0, .slice none 0 0, .slice none 0 0, .int .i64 0]) ?_ 1 _ rfl; refine dW ?_; refine blk_put (cs := #[.int .i64 0, .slice none 0 0, .slice none 0 0, .int .i64 0]) ?_ 0 _ rfl; refine dW ?_; refine blk_far ?_ NB291_290.out _; refine dW ?_; exact BK291.out) Try.underlying31 rfl (by kernel_rfl)) rfl ?_
   exact ⟨_, _, zq4, by refine dR ?_; exact Kd.R_mono (Kd.R_far (p := ⟨gb291, 3, none⟩) (Kd.R_far (p := ⟨gb291, 2, none⟩) (Kd.R_far (p := ⟨gb291, 1, none⟩) (Kd.R_far (p := ⟨gb291, 0, none⟩) (Kd.R_far (p := ⟨gb290, 2, none⟩) (Kd.R_types (Kd.R_types HO297.out BK290.out (by decide)) BK291.out (by decide)) (fun _ hk => hk.1.2) (.slice Ao17 y301.length co17)) (fun _ hk => hk.2) (.int .i64 a0_0)) (fun _ hk => hk.2) (.slice Ao11 y295.length co11)) (fun _ hk => hk.2) (.slice Ao17 y301.length co17)) (fun _ hk => hk.2) (.int .i64 a0_3)) (fun _ hk => trivial), by refine dR ?_; exact Kd.R_mono (Kd.R_far (p := ⟨gb291, 3, none⟩) (Kd.R_far (p := ⟨gb291, 2, none⟩) (Kd.R_far (p := ⟨gb291, 1, none⟩) (Kd.R_far (p := ⟨gb291, 0, none⟩) (Kd.R_far (p := ⟨gb290, 2, none⟩) (Kd.R_types (Kd.R_types HO303.out BK290.out (by decide)) BK291.out (by decide)) (fun _ hk => hk.1.2) (.slice Ao17 y301.length co17)) (fun _ hk => hk.2) (.int .i64 a0_0)) (fun _ hk => hk.2) (.slice Ao11 y295.length co11)) (fun _ hk => hk.2) (.slice Ao17 y301.length co17)) (fun _ hk => hk.2) (.int .i64 a0_3)) (fun _ hk => trivial), zq276⟩
  exact zq346
 exact zq347

/-! ### spec_l6Upload: function 69 -/
def spec_l6Upload.l0 : Nat → Int → Int → Int → List (S66) → List (S68) → Int → Option (Int)
 | 0, _, _, _, _, _, _ => none
 | k + 1, x1, x5, x305000, x305001, x305002, x305003 => if x5 < (x305002.length : Int) then (if 0 ≤ x5 then (if ((rd_T68 x305002 x5).f0) = x1 then (some x5) else (spec_l6Upload.l0 k x1 (wrap64 (x5 + 1)) x305000 x305001 x305002 x305003)) else (none)) else (some (-1))
def spec_l6Upload.f (k : Nat) (a0_0 : Int) (l0_1 : List (S66)) (l0_2 : List (S68)) (a0_3 : Int) (a1 : Int) : Option (Int) := spec_l6Upload.l0 k a1 0 a0_0 l0_1 l0_2 a0_3
theorem spec_l6Upload.mono_l : ∀ k, (∀ y0 y1 y2 y3 y4 y5, LeO (spec_l6Upload.l0 k y0 y1 y2 y3 y4 y5) (spec_l6Upload.l0 (k + 1) y0 y1 y2 y3 y4 y5))
 | 0 => fun _ _ _ _ _ _ r h => by simp [spec_l6Upload.l0] at h
 | k + 1 => by
  have ih0 := spec_l6Upload.mono_l k
  ·
   intro y0 y1 y2 y3 y4 y5; unfold spec_l6Upload.l0
   repeat' first
   | (with_reducible exact ih0 _ _ _ _ _ _)
   | (with_reducible exact LeO.refl _)
   | (with_reducible exact LeO.none _)
   | (with_reducible refine LeO.ite ?_ ?_)
   | (with_reducible refine LeO.bind ?_ (fun _ => ?_))
   | exact LeO.none _
   | refine LeO.ite ?_ ?_
   | refine LeO.bind ?_ (fun _ => ?_)
theorem spec_l6Upload.mono : ∀ a0 a1 a2 a3 a4 k, LeO (spec_l6Upload.f k a0 a1 a2 a3 a4) (spec_l6Upload.f (k + 1) a0 a1 a2 a3 a4) := by
 intro a0 a1 a2 a3 a4 k; have ih0 := spec_l6Upload.mono_l k; unfold spec_l6Upload.f
 repeat' first
   | (with_reducible exact ih0 _ _ _ _ _ _)
   | (with_reducible exact LeO.refl _)
   | (with_reducible exact LeO.none _)
   | (with_reducible refine LeO.ite ?_ ?_)
   | (with_reducible refine LeO.bind ?_ (fun _ => ?_))
   | exact LeO.none _
   | refine LeO.ite ?_ ?_
   | refine LeO.bind ?_ (fun _ => ?_)
set_option maxHeartbeats 8000000 in
set_option maxRecDepth 100000 in
theorem spec_l6Upload.calls (k : Nat) (a0_0 : Int) (A0_1 : Option Addr) (c0_1 : Nat) (l0_1 : List (S66)) (A0_2 : Option Addr) (c0_2 : Nat) (l0_2 : List (S68)) (a0_3 : Int) (a1 : Int) (r : Int) (w : World) (hr0_1 : Kd.C k66 w A0_1 l0_1.length l0_1) (hc0_1 : l0_1.length ≤ c0_1) (hr0_2 : Kd.C k68 w A0_2 l0_2.length l0_2) (hc0_2 : l0_2.length ≤ c0_2) (h : spec_l6Upload.f k a0_0 l0_1 l0_2 a0_3 a1 = some r) :
  Calls Try.prog 69 #[.agg #[.int .i64 a0_0, .slice A0_1 l0_1.length c0_1, .slice A0_2 l0_2.length c0_2, .int .i64 a0_3], .int .i64 a1] w fun e w' => e = .returned (.int .i64 r) ∧ Below w.heap.size w w' := by
 have hu31 := Try.underlying31; have HR0_1 := aM hr0_1; have HC0_1 := aM hc0_1; clear hr0_1 hc0_1; have HR0_2 := aM hr0_2; have HC0_2 := aM hc0_2; clear hr0_2 hc0_2; have HB := aM (Below.refl w.heap.size w); unfold spec_l6Upload.f at h; have H := h; clear h; have H' := aM H; clear H; go_enter Try.func69, Try.ntmps69
 go_wp2_with (first | ((with_reducible refine gD 2 rfl ?_); refine bE 2 #[.int .i64 a0_0, .slice A0_1 l0_1.length c0_1, .slice A0_2 l0_2.length c0_2, .int .i64 a0_3] 31 ?_; intro gb304 hg w3 hbox hb; have BK304 := aM hbox; have GW304 := aM (zq281 : w.heap.size ≤ gb304); have GE304 := aM (zq281 : w.heap.size ≤ gb304); replace HB := sB zq3 hb; clear hb hbox hg))
 go_loopg [5] k (fun kq v5 w' => ∃ (x5_1 : Int), v5 = .int .i64 x5_1 ∧ Aside0 (spec_l6Upload.l0 kq a1 x5_1 a0_0 l0_1 l0_2 a0_3 = some r) ∧ Aside0 (kq ≤ k) ∧ Aside0 (w'.heap[gb304]? = some (.cells #[.int .i64 a0_0, (.slice A0_1 l0_1.length c0_1), (.slice A0_2 l0_2.length c0_2), .int .i64 a0_3] 31 (0, 0))) ∧ Aside0 (Below w.heap.size w w'))
 case atStart => exact ⟨(0), zq6, H', ⟨Nat.le_refl _⟩, ⟨zq279⟩, ⟨zq280⟩⟩
 case round =>
  clear H'; (try clear p2); obtain ⟨x5_1, rfl, HA, HK1, BK304, HB⟩ := hrel
  cases gk with
  | zero => exact absurd HA.out (by simp [spec_l6Upload.l0])
  | succ k1 =>
   have H := HA.out; clear HA; simp only [spec_l6Upload.l0] at H; by_cases c4 : x5_1 < (l0_2.length : Int)
   ·
    rw [if_pos c4] at H; have c4b0 := decide_eq_true c4; clear c4; by_cases c5 : 0 ≤ x5_1
    ·
     rw [if_pos c5] at H; have c5b0 := decide_eq_true c5; clear c5; by_cases c6 : ((rd_T68 l0_2 x5_1).f0) = a1
     ·
      rw [if_pos c6] at H; have c6b0 : (((rd_T68 l0_2 x5_1).f0) == a1) = true := beq_iff_eq.mpr c6; have c6b1 : (((rd_T68 l0_2 x5_1).f0) != a1) = false := bne_eq_false_iff_eq.mpr c6; clear c6; obtain rfl := Option.some.inj H; obtain ⟨hcz7_0, hcz7_1, hcz7_2, hcz7_3, hfz7_0, hfz7_1, hfz7_2, hfz7_3⟩ := cells4_ (w := wr) BK304; have p305 : 0 ≤ (x5_1 : Int) := of_decide_eq_true zq7; have q305 : x5_1 < (l0_2.length : Int) := of_decide_eq_true zq7; obtain ⟨ad305, e305, hx305_0, hx305_1⟩ := at_T68 HR0_2.out x5_1 p305 q305; cases e305; replace hx305_0 := hxB HB hx305_0; replace hx305_1 := hxB HB hx305_1; replace p305 := eq_true p305; replace q305 := eq_true q305; go_wp2; go_ret; exact ⟨zq4, zq280⟩
     rw [if_neg c6] at H; have c6b0 : (((rd_T68 l0_2 x5_1).f0) == a1) = false := beq_eq_false_iff_ne.mpr c6; have c6b1 : (((rd_T68 l0_2 x5_1).f0) != a1) = true := bne_iff_ne.mpr c6; have H' := aM H; clear H; obtain ⟨hcz8_0, hcz8_1, hcz8_2, hcz8_3, hfz8_0, hfz8_1, hfz8_2, hfz8_3⟩ := cells4_ (w := wr) BK304; have p305 : 0 ≤ (x5_1 : Int) := of_decide_eq_true zq7; have q305 : x5_1 < (l0_2.length : Int) := of_decide_eq_true zq7; obtain ⟨ad305, e305, hx305_0, hx305_1⟩ := at_T68 HR0_2.out x5_1 p305 q305; cases e305; replace hx305_0 := hxB HB hx305_0; replace hx305_1 := hxB HB hx305_1; replace p305 := eq_true p305; replace q305 := eq_true q305; go_wp2
     go_roundg k1
     case measure => have := HK1.out; omega
     case rel => exact ⟨(wrap64 (x5_1 + 1)), zq6, H', ⟨zq9⟩, ⟨zq279⟩, ⟨zq280⟩⟩
    exact zq343
   rw [if_neg c4] at H; have c4b0 := decide_eq_false c4; clear c4; obtain rfl := Option.some.inj H; obtain ⟨hcz9_0, hcz9_1, hcz9_2, hcz9_3, hfz9_0, hfz9_1, hfz9_2, hfz9_3⟩ := cells4_ (w := wr) BK304; go_wp2; go_ret; exact ⟨zq4, zq280⟩

end Go.Proofs.Ytacaeebjanglgaa.QFnExactFinish
