/- Written by wip/myprint.py of this repo (the kit's print, with additions of this session). -/
import Derived.Test.YtklaigmpceacaaaQFnPostedx0
set_option maxRecDepth 100000
namespace Go.Proofs.Ytklaigmpceacaaa.QFnPosted
open Go.RowKit Go.Proofs.YtklaigmpceacaaaW.PrintWords Go.Proofs.YtklaigmpceacaaaW.PrintLast Go.Proofs.YtklaigmpceacaaaW.PrintMore
attribute [local go_sem] max2_int min2_int max_two min_two max_three min_three max_four min_four   -- for this text's walks alone
set_option linter.unusedVariables false
set_option linter.unusedSimpArgs false

/-! ### impl_copyNet: function 41 -/
def impl_copyNet.f (a0_0 : Int) (l0_1 : List (S39)) : Option (Int × (List (S39))) := (some (([] : List (S39)) : List (S39))).bind fun y103 => (if y103.length + l0_1.length < 3518437208883 then (some (a0_0, (y103 ++ l0_1))) else (none))
def impl_copyNet.T1 : Bool × List (List Nat × List Nat) := (true, [([], []), ([0], [0]), ([], []), ([], []), ([3], [3]), ([2, 4], [2, 4]), ([1, 5], [1, 5]), ([6, 5, 0, 1, 2, 3, 4, 5, 6], [6])])
def impl_copyNet.B1 : List Nat := [0, 1, 0, 0, 8, 28, 63, 127]
theorem impl_copyNet.tab1 : rtab .any (opsOf Try.f41 1) = impl_copyNet.T1 := by kernel_rfl
theorem impl_copyNet.bits1 : waitsOk impl_copyNet.T1.2 impl_copyNet.B1 = true := by kernel_rfl
set_option maxHeartbeats 8000000 in
set_option maxRecDepth 100000 in
theorem impl_copyNet.calls (a0_0 : Int) (A0_1 : Option Addr) (c0_1 : Nat) (l0_1 : List (S39)) (r1 : Int) (r2 : List (S39)) (w : World) (hr0_1 : Kd.C k39 w A0_1 l0_1.length l0_1) (hc0_1 : l0_1.length ≤ c0_1) (h : impl_copyNet.f a0_0 l0_1 = some (r1, r2)) :
  Calls Try.prog 41 #[.agg #[.int .i64 a0_0, .slice A0_1 l0_1.length c0_1]] w fun e w' => ∃ v1_ : Value, e = .returned (.agg #[.int .i64 r1, v1_]) ∧ Kd.R k39 39 w' w.heap.size (fun _ => True) v1_ r2 ∧ Below w.heap.size w w' := by
 have hu37 := Try.underlying37; have HR0_1 := aM hr0_1; have HC0_1 := aM hc0_1; clear hr0_1 hc0_1; have HB := aM (Below.refl w.heap.size w); unfold impl_copyNet.f at h; have H := h; clear h; obtain ⟨y103, hy103⟩ : ∃ y_ : List (S39), y_ = (([] : List (S39))) := ⟨_, rfl⟩; have hy_ := hy103; replace H : (if y103.length + l0_1.length < 3518437208883 then (some (a0_0, (y103 ++ l0_1))) else (none)) = some (r1, r2) := hyE; clear hy_; have Ny103 := aM hy103; clear hy103; by_cases c2 : y103.length + l0_1.length < 3518437208883
 ·
  rw [if_pos c2] at H; have LMc2 := aM c2; clear c2; obtain ⟨y106, hy106⟩ : ∃ y_ : List (S39), y_ = (y103 ++ l0_1) := ⟨_, rfl⟩; have hy_ := hy106; replace H : (some (a0_0, y106)) = some (r1, r2) := hyE; clear hy_; have Ny106 := aM hy106; clear hy106; simp only [Option.some.injEq, Prod.mk.injEq] at H; obtain ⟨rfl, rfl⟩ := H; go_enter Try.func41, Try.ntmps41
  try go_wp2_with (first | ((with_reducible refine gD 1 rfl ?_); refine bE 1 #[.int .i64 a0_0, .slice A0_1 l0_1.length c0_1] 37 ?_; intro gb101 hg w3 hbox hb; have BK101 := aM hbox; have GW101 := aM (zq229 : w.heap.size ≤ gb101); have GE101 := aM (zq229 : w.heap.size ≤ gb101); replace HB := sB zq2 hb; clear hb hbox hg) | ((with_reducible refine gD 2 rfl ?_); refine bE 2 #[.int .i64 0, .slice none 0 0] 37 ?_; intro gb102 hg w4 hbox hb; have BK102 := aM hbox; have GW102 := aM (by rw [hg]; exact (below_size zq4) : w.heap.size ≤ gb102); have GE102 := aM (by rw [hg]; exact (below_size zq4) : w.heap.size ≤ gb102); replace HB := sB zq4 hb; have NB101_102 := aM (by rw [hg]; exact Nat.ne_of_lt (blk_lt (g := gb101) (o := .cells #[.int .i64 a0_0, .slice A0_1 l0_1.length c0_1] 37 (0, 0)) zq3) : gb101 ≠ gb102); have NB102_101 := aM (by rw [hg]; exact Nat.ne_of_gt (blk_lt (g := gb101) (o := .cells #[.int .i64 a0_0, .slice A0_1 l0_1.length c0_1] 37 (0, 0)) zq3) : gb102 ≠ gb101); replace BK101 := bG BK101 hb; clear hb hbox hg))
  replace BK101 := aM (blk_drew BK101.out); replace BK102 := aM (blk_drew BK102.out); replace HB := aM (below_drew1 HB.out); refine start_ (n := 8) (S := fun w' => w'.cell? ⟨gb101, 0, none⟩ = some (.int .i64 a0_0) ∧ w'.cell? ⟨gb101, 1, none⟩ = some (.slice A0_1 l0_1.length c0_1)) (ds := []) (bA 8 0) (by kernel_rfl) rfl rfl ⟨(blk_cell BK101.out 0).trans rfl, (blk_cell BK101.out 1).trans rfl⟩ (fun hHeld => ?_); refine with_tabW impl_copyNet.tab1 impl_copyNet.bits1 (fun HT_ HW_ => ?_)
  generalize w4.drew = w5 at BK101 BK102 HB hHeld ⊢; refine pV 0 3 8 1 ?_; refine pV 3 6 8 9 ?_; refine tV 1 4 8 11 rfl zq330 ?_; refine tV 4 7 8 27 rfl zq330 ?_; refine oE 2 5 8 31 rfl (fun K hK => ?_); refine Kd.R_lit_step k39 _ 39 ?hg (N := 5) ?hd (xs := ([] : List (S39))) (inner := []) (ok := fun _ => True) (okp := fun _ => True) ?hr ?hp (fun _ hk => hk) trivial (Below.refl _ _) (Nat.le_refl _) (by simp) ?_; (case hd => rfl); (case hg => rfl); (case hr => exact zq1); (case hp => exact (Reps.none _ _))
  intro v104 w6 ho7 hb hg_ hnew_; clear hg_ hnew_
  (first | rw [← Ny103.out] at ho7 | (simp only [Int.reduceToNat] at ho7; rw [← Ny103.out] at ho7))
  have HO105 := aM (Kd.R_lower ho7 (below_size zq5)); replace BK101 := bG BK101 hb; replace BK102 := bG BK102 hb; replace HB := sB zq5 hb; clear hb ho7; refine hK.out _ _ ⟨(blk_cell BK101.out 0).trans rfl, (blk_cell BK101.out 1).trans rfl⟩ (fun hHeld => ?_); clear hK K; refine norm_ (a' := ?_) ?_ ?_; rotate_left; exact zq331; refine oE 5 8 8 63 rfl (fun K hK => ?_); refine Kd.R_append_rows_step k39 (w0 := w) w.heap.size (by rfl) (.tmp 5) (.tmp 7) 35 39 (.agg #[(.int .i64 0), (.int .i64 0), (.int .i64 0), (.string ⟨#[]⟩)]) 40 rfl Try.underlying35 info39 rfl (by decide) (by omega) v104 y103 l0_1 _ _ _ (fun _ => True) (fun _ => False) rfl rfl ?aO ?aR (fun _ _ h => h) (fun _ h => h.elim) ?aF ?aB ?aS ?aL ?_
  (case aR => exact zq7)
  (case aB => exact zq5)
  (case aF => exact zq8)
  (case aO => exact (by refine dR ?_; exact HO105.out))
  (case aS => exact (below_size zq5))
  (case aL => have := LMc2.out; omega)
  intro v107 w8 ho hb hg hat; rw [← Ny106.out] at ho; have n0_ := aM (blk_grown (g := gb101) (o := .cells #[.int .i64 a0_0, .slice A0_1 l0_1.length c0_1] 37 (0, 0)) zq3 hg (Kd.R_ne HO105.out BK101.out (by decide))); have n1_ := aM (blk_grown (g := gb102) (o := .cells #[.int .i64 0, .slice none 0 0] 37 (0, 0)) zq6 hg (Kd.R_ne HO105.out BK102.out (by decide))); have n2_ := aM (hb); have n3_ := aM (ho); clear BK101; clear BK102; clear HB; clear HO105; have BK101 := n0_; have BK102 := n1_; have HB := n2_; have HO108 := n3_; clear n0_ n1_ n2_ n3_; clear ho hb hg hat; obtain ⟨Ao9, co9, eo9⟩ := Kd.R_slice HO108.out
  (first | subst eo9 | (injection eo9 with f1_ f2_ f3_; have f4_ := f1_.symm; have f5_ := f3_.symm; clear f1_ f2_ f3_; subst f4_; subst f5_))
  refine hK.out _ _ ⟨(blk_cell BK101.out 0).trans rfl, (blk_cell BK101.out 1).trans rfl⟩ (fun hHeld => ?_); clear hK K; refine norm_ (a' := ?_) ?_ ?_; rotate_left
  ·
   show Act.put _ (some 8) _ = _
   simp only [Act.put, List.setIfInBounds_toArray, List.set_cons_zero, List.set_cons_succ, i64_w, i32_w]
   rfl
  refine pV 6 9 8 127 ?_; refine one_ (i := 7) (N := none) (bA 8 255) rfl rfl (one_of HT_.out (by kernel_rfl)) (by decide) (fun K hK => ?_); have hs10 : w8.cell? ⟨gb102, 0, none⟩ = some (.int .i64 0) := (blk_cell BK102.out 0).trans rfl; have hfs10 := blk_frozen BK102.out 0; have hns10_0 := NB101_102.out; have hms10_0 := NB102_101.out; have hs11 : w8.cell? ⟨gb102, 1, none⟩ = some (.slice none 0 0) := (blk_cell BK102.out 1).trans rfl; have hfs11 := blk_frozen BK102.out 1; have hns11_0 := NB101_102.out; have hms11_0 := NB102_101.out; refine skip_ (w1 := ?_) (by rfl) rfl ?_ ?_; rotate_left
  ·
   go_simp
   rfl
  refine hK.out _ _ ⟨((cell_far (p := ⟨gb102, _, none⟩) NB101_102.out _).trans (((cell_far (p := ⟨gb102, _, none⟩) NB101_102.out _).trans (hHeld.1)))), ((cell_far (p := ⟨gb102, _, none⟩) NB101_102.out _).trans (((cell_far (p := ⟨gb102, _, none⟩) NB101_102.out _).trans (hHeld.2))))⟩ (fun hHeld => ?_); clear hK K; refine dE ?_
  try go_wp2
  refine bodyPost_ret (results_cell_row rfl _ _ gb102 37 #[.int .i64 a0_0, .slice Ao9 y106.length co9] (0, 0) _ rfl (by refine dW ?_; refine blk_put (cs := #[.int .i64 a0_0, .slice none 0 0]) ?_ 1 _ rfl; refine dW ?_; refine blk_put (cs := #[.int .i64 0, .slice none 0 0]) ?_ 0 _ rfl; refine dW ?_; exact BK102.out) Try.underlying37 rfl (by kernel_rfl)) rfl ?_; exact ⟨_, zq9, by refine dR ?_; exact Kd.R_mono (Kd.R_far (p := ⟨gb102, 1, none⟩) (Kd.R_far (p := ⟨gb102, 0, none⟩) (Kd.R_types HO108.out BK102.out (by decide)) (fun _ hk => hk.2) (.int .i64 a0_0)) (fun _ hk => hk.2) (.slice Ao9 y106.length co9)) (fun _ hk => trivial), zq5⟩
 rw [if_neg c2] at H; exact absurd H (by simp)

/-! ### impl_in: function 65 -/
def impl_in.f (a0 : Int) (a1 : Int) (a2 : Int) : Option (Bool) := if a0 ≥ a1 then (some (decide (a0 ≤ a2))) else (some false)
set_option maxHeartbeats 8000000 in
set_option maxRecDepth 100000 in
theorem impl_in.calls (a0 : Int) (a1 : Int) (a2 : Int) (r : Bool) (w : World) (h : impl_in.f a0 a1 a2 = some r) :
  Calls Try.prog 65 #[.int .i64 a0, .int .i64 a1, .int .i64 a2] w fun e w' => e = .returned (.bool r) ∧ Drawn0 w w' := by
 unfold impl_in.f at h; have H := h; clear h; by_cases c4 : a0 ≥ a1
 ·
  rw [if_pos c4] at H; have c4b0 : decide (a1 ≤ a0) = true := decide_eq_true c4; clear c4; obtain rfl := Option.some.inj H; go_enter Try.func65, Try.ntmps65; go_wp2; go_ret; exact ⟨zq10, zq11⟩
 rw [if_neg c4] at H; have c4b0 : decide (a1 ≤ a0) = false := decide_eq_false c4; clear c4; obtain rfl := Option.some.inj H; go_enter Try.func65, Try.ntmps65; go_wp2; go_ret; exact ⟨zq10, zq11⟩

/-! ### impl_isNodeId: function 56 -/
def impl_isNodeId.f (a0 : Int) : Option (Bool) := (impl_in.f a0 1 50).bind fun t109 => (some t109)
set_option maxHeartbeats 8000000 in
set_option maxRecDepth 100000 in
theorem impl_isNodeId.calls (a0 : Int) (r : Bool) (w : World) (h : impl_isNodeId.f a0 = some r) :
  Calls Try.prog 56 #[.int .i64 a0] w fun e w' => e = .returned (.bool r) ∧ Drawn0 w w' := by
 unfold impl_isNodeId.f at h; have H := h; clear h; replace H := Option.bind_eq_some_iff.mp H; obtain ⟨t109, A20, H⟩ := H; replace H : (some t109) = some r := H; have A2 := aM A20; clear A20; obtain rfl := Option.some.inj H; go_enter Try.func56, Try.ntmps56
 go_wp2_with (first | ((with_reducible refine gC 65 rfl ?_); refine gL 4 Try.func65 #[.int .i64 a0, .int .i64 1, .int .i64 50] ?_; (with_reducible refine (impl_in.calls a0 1 50 t109 _ A2.out).mono ?_); rintro e w' ⟨rfl, ⟨nd, rfl⟩⟩; refine ⟨_, rfl, ?_⟩))
 go_ret; exact ⟨zq10, zq11⟩

end Go.Proofs.Ytklaigmpceacaaa.QFnPosted
