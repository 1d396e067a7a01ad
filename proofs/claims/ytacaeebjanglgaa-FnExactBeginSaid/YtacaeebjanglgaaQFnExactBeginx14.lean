/- Written by wip/myprint.py of this repo (the kit's print, with additions of this session). -/
import Derived.Test.YtacaeebjanglgaaQFnExactBeginx0
import Derived.Test.YtacaeebjanglgaaQFnExactBeginx3
import Derived.Test.YtacaeebjanglgaaQFnExactBeginx13
set_option maxRecDepth 100000
namespace Go.Proofs.Ytacaeebjanglgaa.QFnExactBegin
open Go.RowKit Go.Proofs.YtacaeebjanglgaaW.PrintWords Go.Proofs.YtacaeebjanglgaaW.PrintLast Go.Proofs.YtacaeebjanglgaaW.PrintMore
attribute [local go_sem] max2_int min2_int max_two min_two max_three min_three max_four min_four   -- for this text's walks alone
set_option linter.unusedVariables false
set_option linter.unusedSimpArgs false

/-! ### laws_heldUploadS: function 67 -/
def laws_heldUploadS.l0 : Nat → List (S68) → Int → Int → Option (Int)
 | 0, _, _, _ => none
 | k + 1, x0, x1, x5 => if x5 < (x0.length : Int) then (if 0 ≤ x5 then (if ((rd_T68 x0 x5).f0) = x1 then ((laws_markText.f k (wrap64 (x1 + 1))).bind fun t397 => (if ((rd_T68 x0 x5).f1).toList = t397.toList then (laws_heldUploadS.l0 k x0 (wrap64 ((wrap64 (x1 + 1)) + 1)) (wrap64 (x5 + 1))) else (some (-1)))) else (some (-1))) else (none)) else (some x1)
def laws_heldUploadS.f (k : Nat) (l0 : List (S68)) (a1 : Int) : Option (Int) := laws_heldUploadS.l0 k l0 a1 0
theorem laws_heldUploadS.mono_l : ∀ k, (∀ y0 y1 y2, LeO (laws_heldUploadS.l0 k y0 y1 y2) (laws_heldUploadS.l0 (k + 1) y0 y1 y2))
 | 0 => fun _ _ _ r h => by simp [laws_heldUploadS.l0] at h
 | k + 1 => by
  have ih0 := laws_heldUploadS.mono_l k
  ·
   intro y0 y1 y2
   unfold laws_heldUploadS.l0
   repeat' first
   | (with_reducible exact ih0 _ _ _)
   | (with_reducible exact laws_markText.mono _ _)
   | (with_reducible exact LeO.refl _)
   | (with_reducible exact LeO.none _)
   | (with_reducible refine LeO.ite ?_ ?_)
   | (with_reducible refine LeO.bind ?_ (fun _ => ?_))
   | exact LeO.none _
   | refine LeO.ite ?_ ?_
   | refine LeO.bind ?_ (fun _ => ?_)
theorem laws_heldUploadS.mono : ∀ a0 a1 k, LeO (laws_heldUploadS.f k a0 a1) (laws_heldUploadS.f (k + 1) a0 a1) := by
 intro a0 a1 k
 have ih0 := laws_heldUploadS.mono_l k
 unfold laws_heldUploadS.f
 repeat' first
   | (with_reducible exact ih0 _ _ _)
   | (with_reducible exact laws_markText.mono _ _)
   | (with_reducible exact LeO.refl _)
   | (with_reducible exact LeO.none _)
   | (with_reducible refine LeO.ite ?_ ?_)
   | (with_reducible refine LeO.bind ?_ (fun _ => ?_))
   | exact LeO.none _
   | refine LeO.ite ?_ ?_
   | refine LeO.bind ?_ (fun _ => ?_)
def laws_heldUploadS.T7 : Bool × List (List Nat × List Nat) := (true, [([], []), ([], []), ([0, 1], [0, 1]), ([2], [2]), ([3], [3]), ([], []), ([5], [5]), ([4, 6], [4, 6])])
def laws_heldUploadS.B7 : List Nat := [0, 0, 3, 7, 15, 0, 32, 127]
theorem laws_heldUploadS.tab7 : rtab .any (opsOf Try.f67 7) = laws_heldUploadS.T7 := by kernel_rfl
theorem laws_heldUploadS.bits7 : waitsOk laws_heldUploadS.T7.2 laws_heldUploadS.B7 = true := by kernel_rfl
set_option maxHeartbeats 8000000 in
set_option maxRecDepth 100000 in
theorem laws_heldUploadS.calls (k : Nat) (A0 : Option Addr) (c0 : Nat) (l0 : List (S68)) (a1 : Int) (r : Int) (w : World) (hr0 : Kd.C k68 w A0 l0.length l0) (hc0 : l0.length ≤ c0) (h : laws_heldUploadS.f k l0 a1 = some r) :
  Calls Try.prog 67 #[.slice A0 l0.length c0, .int .i64 a1] w fun e w' => e = .returned (.int .i64 r) ∧ Below w.heap.size w w' := by
 have HR0 := Aside0.mk hr0
 have HC0 := Aside0.mk hc0
 clear hr0 hc0
 have HB := Aside0.mk (Below.refl w.heap.size w)
 have H : (laws_heldUploadS.l0 k l0 a1 0) = some r := h
 clear h
 have H' := Aside0.mk H
 clear H
 go_enter Try.func67, Try.ntmps67
 go_wp2
 go_loopg [1, 5] k (fun kq v1 v5 w' => ∃ (x1_1 : Int) (x5_1 : Int), v1 = .int .i64 x1_1 ∧ v5 = .int .i64 x5_1 ∧ Aside0 (laws_heldUploadS.l0 kq l0 x1_1 x5_1 = some r) ∧ Aside0 (kq ≤ k) ∧ Aside0 (Below w.heap.size w w'))
 case atStart => exact ⟨(a1), (0), zq6, zq6, H', ⟨Nat.le_refl _⟩, ⟨zq3⟩⟩
 case round =>
  clear H'
  try clear p2
  obtain ⟨x1_1, x5_1, rfl, rfl, HA, HK1, HB⟩ := hrel
  cases gk with
  | zero => exact absurd HA.out (by simp [laws_heldUploadS.l0])
  | succ k1 =>
   have H := HA.out
   clear HA
   simp only [laws_heldUploadS.l0] at H
   by_cases c3 : x5_1 < (l0.length : Int)
   ·
    rw [if_pos c3] at H
    have c3b0 := decide_eq_true c3
    clear c3
    by_cases c4 : 0 ≤ x5_1
    ·
     rw [if_pos c4] at H
     have c4b0 := decide_eq_true c4
     clear c4
     by_cases c5 : ((rd_T68 l0 x5_1).f0) = x1_1
     ·
      rw [if_pos c5] at H
      have c5b0 : (((rd_T68 l0 x5_1).f0) == x1_1) = true := beq_iff_eq.mpr c5
      have c5b1 : (((rd_T68 l0 x5_1).f0) != x1_1) = false := bne_eq_false_iff_eq.mpr c5
      clear c5
      replace H := Option.bind_eq_some_iff.mp H
      obtain ⟨t397, A60, H⟩ := H
      try dsimp only at H
      have A6 := Aside0.mk A60
      clear A60
      by_cases c7 : ((rd_T68 l0 x5_1).f1).toList = t397.toList
      ·
       rw [if_pos c7] at H
       have c7b0 : (((rd_T68 l0 x5_1).f1).toList == t397.toList) = true := beq_iff_eq.mpr c7
       have c7b1 : (((rd_T68 l0 x5_1).f1).toList != t397.toList) = false := bne_eq_false_iff_eq.mpr c7
       clear c7
       have H' := Aside0.mk H
       clear H
       have p395 : 0 ≤ (x5_1 : Int) := of_decide_eq_true zq7
       have q395 : x5_1 < (l0.length : Int) := of_decide_eq_true zq7
       obtain ⟨ad395, e395, hx395_0, hx395_1⟩ := at_T68 HR0.out x5_1 p395 q395
       cases e395
       replace hx395_0 := (HB.out.cell (World.block_lt_of_cell? w _ hx395_0)).trans hx395_0
       replace hx395_1 := (HB.out.cell (World.block_lt_of_cell? w _ hx395_1)).trans hx395_1
       replace p395 := eq_true p395
       replace q395 := eq_true q395
       try go_wp2
       replace HB := Aside0.mk (below_drew1 HB.out)
       have p396 : 0 ≤ (x5_1 : Int) := of_decide_eq_true zq7
       have q396 : x5_1 < (l0.length : Int) := of_decide_eq_true zq7
       obtain ⟨ad396, e396, hx396_0, hx396_1⟩ := at_T68 HR0.out x5_1 p396 q396
       have hw396_1 := hx396_1
       have hw396_0 := hx396_0
       obtain rfl : ad395 = ad396 := (by injection e396)
       replace hx396_0 := (HB.out.cell (World.block_lt_of_cell? w _ hx396_0)).trans hx396_0
       replace hx396_1 := (HB.out.cell (World.block_lt_of_cell? w _ hx396_1)).trans hx396_1
       replace p396 := eq_true p396
       replace q396 := eq_true q396
       refine start_ (n := 8) (S := fun w' => w'.cell? (ad395.add ((x5_1).toNat * 2)) = some (.int .i64 ((rd_T68 l0 x5_1).f0)) ∧ w'.cell? ⟨(ad395.add ((x5_1).toNat * 2)).block, (ad395.add ((x5_1).toNat * 2)).off + 1, none⟩ = some (.string ((rd_T68 l0 x5_1).f1))) (ds := []) (bA 8 0) (by kernel_rfl) rfl rfl ⟨((HB.out.cell (World.block_lt_of_cell? w _ hw396_0)).trans hw396_0), ((HB.out.cell (World.block_lt_of_cell? w _ hw396_1)).trans hw396_1)⟩ (fun hHeld => ?_); refine with_tabW laws_heldUploadS.tab7 laws_heldUploadS.bits7 (fun HT_ HW_ => ?_)
       generalize wr.drew = w8 at HB hx396_0 hx396_1 hHeld ⊢
       refine pV 0 21 8 1 ?_
       refine pV 1 22 8 3 ?_
       refine pV 2 23 8 7 ?_
       refine pV 3 24 8 15 ?_
       refine pV 5 26 8 47 ?_
       refine tV 4 25 8 63 rfl zq335 ?_
       refine one_ (i := 6) (N := some 27) (bA 8 127) rfl rfl (one_of HT_.out (by kernel_rfl)) (by decide) (fun K hK => ?_)
       refine goes_ Try.func63 (by kernel_rfl) rfl #[.int .i64 (wrap64 (x1_1 + 1))] (by rfl) rfl rfl zq8 ?_
       with_reducible refine (laws_markText.calls k1 (wrap64 (x1_1 + 1)) t397 _ A6.out).mono ?_
       rintro e w9 ⟨rfl, hb⟩
       refine ⟨_, rfl, ?_⟩
       replace HB := sB zq3 hb
       (try clear hb)
       (try clear hb2)
       (try clear hk)
       (try clear hi)
       refine hK.out _ _ ⟨((HB.out.cell (World.block_lt_of_cell? w _ hw396_0)).trans hw396_0), ((HB.out.cell (World.block_lt_of_cell? w _ hw396_1)).trans hw396_1)⟩ (fun hHeld => ?_)
       clear hK K
       refine norm_ (a' := ?_) ?_ ?_
       rotate_left
       ·
        show Act.put _ (some 27) _ = _
        simp only [Act.put, List.setIfInBounds_toArray, List.set_cons_zero, List.set_cons_succ, i64_w, i32_w]
        rfl
       refine pV 7 28 8 255 ?_
       refine done_ (done_of HT_.out (by kernel_rfl)) ?_
       try go_wp2
       go_roundg k1
       case measure => have := HK1.out; omega
       case rel => exact ⟨(wrap64 ((wrap64 (x1_1 + 1)) + 1)), (wrap64 (x5_1 + 1)), zq6, zq6, H', ⟨zq9⟩, ⟨zq3⟩⟩
      rw [if_neg c7] at H
      have c7b0 : (((rd_T68 l0 x5_1).f1).toList == t397.toList) = false := beq_eq_false_iff_ne.mpr c7
      have c7b1 : (((rd_T68 l0 x5_1).f1).toList != t397.toList) = true := bne_iff_ne.mpr c7
      obtain rfl := Option.some.inj H
      have p395 : 0 ≤ (x5_1 : Int) := of_decide_eq_true zq7
      have q395 : x5_1 < (l0.length : Int) := of_decide_eq_true zq7
      obtain ⟨ad395, e395, hx395_0, hx395_1⟩ := at_T68 HR0.out x5_1 p395 q395
      cases e395
      replace hx395_0 := (HB.out.cell (World.block_lt_of_cell? w _ hx395_0)).trans hx395_0
      replace hx395_1 := (HB.out.cell (World.block_lt_of_cell? w _ hx395_1)).trans hx395_1
      replace p395 := eq_true p395
      replace q395 := eq_true q395
      try go_wp2
      replace HB := Aside0.mk (below_drew1 HB.out)
      have p396 : 0 ≤ (x5_1 : Int) := of_decide_eq_true zq7
      have q396 : x5_1 < (l0.length : Int) := of_decide_eq_true zq7
      obtain ⟨ad396, e396, hx396_0, hx396_1⟩ := at_T68 HR0.out x5_1 p396 q396
      have hw396_1 := hx396_1
      have hw396_0 := hx396_0
      obtain rfl : ad395 = ad396 := (by injection e396)
      replace hx396_0 := (HB.out.cell (World.block_lt_of_cell? w _ hx396_0)).trans hx396_0
      replace hx396_1 := (HB.out.cell (World.block_lt_of_cell? w _ hx396_1)).trans hx396_1
      replace p396 := eq_true p396
      replace q396 := eq_true q396
      refine start_ (n := 8) (S := fun w' => w'.cell? (ad395.add ((x5_1).toNat * 2)) = some (.int .i64 ((rd_T68 l0 x5_1).f0)) ∧ w'.cell? ⟨(ad395.add ((x5_1).toNat * 2)).block, (ad395.add ((x5_1).toNat * 2)).off + 1, none⟩ = some (.string ((rd_T68 l0 x5_1).f1))) (ds := []) (bA 8 0) (by kernel_rfl) rfl rfl ⟨((HB.out.cell (World.block_lt_of_cell? w _ hw396_0)).trans hw396_0), ((HB.out.cell (World.block_lt_of_cell? w _ hw396_1)).trans hw396_1)⟩ (fun hHeld => ?_); refine with_tabW laws_heldUploadS.tab7 laws_heldUploadS.bits7 (fun HT_ HW_ => ?_)
      generalize wr.drew = w10 at HB hx396_0 hx396_1 hHeld ⊢
      refine pV 0 21 8 1 ?_
      refine pV 1 22 8 3 ?_
      refine pV 2 23 8 7 ?_
      refine pV 3 24 8 15 ?_
      refine pV 5 26 8 47 ?_
      refine tV 4 25 8 63 rfl zq335 ?_
      refine one_ (i := 6) (N := some 27) (bA 8 127) rfl rfl (one_of HT_.out (by kernel_rfl)) (by decide) (fun K hK => ?_)
      refine goes_ Try.func63 (by kernel_rfl) rfl #[.int .i64 (wrap64 (x1_1 + 1))] (by rfl) rfl rfl zq8 ?_
      with_reducible refine (laws_markText.calls k1 (wrap64 (x1_1 + 1)) t397 _ A6.out).mono ?_
      rintro e w11 ⟨rfl, hb⟩
      refine ⟨_, rfl, ?_⟩
      replace HB := sB zq3 hb
      (try clear hb)
      (try clear hb2)
      (try clear hk)
      (try clear hi)
      refine hK.out _ _ ⟨((HB.out.cell (World.block_lt_of_cell? w _ hw396_0)).trans hw396_0), ((HB.out.cell (World.block_lt_of_cell? w _ hw396_1)).trans hw396_1)⟩ (fun hHeld => ?_)
      clear hK K
      refine norm_ (a' := ?_) ?_ ?_
      rotate_left
      ·
       show Act.put _ (some 27) _ = _
       simp only [Act.put, List.setIfInBounds_toArray, List.set_cons_zero, List.set_cons_succ, i64_w, i32_w]
       rfl
      refine pV 7 28 8 255 ?_
      refine done_ (done_of HT_.out (by kernel_rfl)) ?_
      try go_wp2
      go_ret
      exact ⟨zq4, zq3⟩
     rw [if_neg c5] at H
     have c5b0 : (((rd_T68 l0 x5_1).f0) == x1_1) = false := beq_eq_false_iff_ne.mpr c5
     have c5b1 : (((rd_T68 l0 x5_1).f0) != x1_1) = true := bne_iff_ne.mpr c5
     obtain rfl := Option.some.inj H
     have p395 : 0 ≤ (x5_1 : Int) := of_decide_eq_true zq7
     have q395 : x5_1 < (l0.length : Int) := of_decide_eq_true zq7
     obtain ⟨ad395, e395, hx395_0, hx395_1⟩ := at_T68 HR0.out x5_1 p395 q395
     cases e395
     replace hx395_0 := (HB.out.cell (World.block_lt_of_cell? w _ hx395_0)).trans hx395_0
     replace hx395_1 := (HB.out.cell (World.block_lt_of_cell? w _ hx395_1)).trans hx395_1
     replace p395 := eq_true p395
     replace q395 := eq_true q395
     go_wp2
     go_ret
     exact ⟨zq4, zq3⟩
    exact zq337
   rw [if_neg c3] at H
   have c3b0 := decide_eq_false c3
   clear c3
   obtain rfl := Option.some.inj H
   go_wp2
   go_ret
   exact ⟨zq4, zq3⟩

/-! ### laws_heldStore: function 32 -/
def laws_heldStore.f (k : Nat) (a0_0 : Int) (l0_1 : List (S66)) (l0_2 : List (S68)) (a0_3 : Int) (a1 : Int) : Option (Int) := (laws_heldBlobS.f k l0_1 a1).bind fun t399 => (if t399 < 0 then (some (-1)) else ((laws_heldUploadS.f k l0_2 t399).bind fun t400 => (if t400 < 0 then (some (-1)) else (some t400))))
theorem laws_heldStore.mono : ∀ a0 a1 a2 a3 a4 k, LeO (laws_heldStore.f k a0 a1 a2 a3 a4) (laws_heldStore.f (k + 1) a0 a1 a2 a3 a4) := by
 intro a0 a1 a2 a3 a4 k
 unfold laws_heldStore.f
 repeat' first
   | (with_reducible exact laws_heldBlobS.mono _ _ _)
   | (with_reducible exact laws_heldUploadS.mono _ _ _)
   | (with_reducible exact LeO.refl _)
   | (with_reducible exact LeO.none _)
   | (with_reducible refine LeO.ite ?_ ?_)
   | (with_reducible refine LeO.bind ?_ (fun _ => ?_))
   | exact LeO.none _
   | refine LeO.ite ?_ ?_
   | refine LeO.bind ?_ (fun _ => ?_)
set_option maxHeartbeats 8000000 in
set_option maxRecDepth 100000 in
theorem laws_heldStore.calls (k : Nat) (a0_0 : Int) (A0_1 : Option Addr) (c0_1 : Nat) (l0_1 : List (S66)) (A0_2 : Option Addr) (c0_2 : Nat) (l0_2 : List (S68)) (a0_3 : Int) (a1 : Int) (r : Int) (w : World) (hr0_1 : Kd.C k66 w A0_1 l0_1.length l0_1) (hc0_1 : l0_1.length ≤ c0_1) (hr0_2 : Kd.C k68 w A0_2 l0_2.length l0_2) (hc0_2 : l0_2.length ≤ c0_2) (h : laws_heldStore.f k a0_0 l0_1 l0_2 a0_3 a1 = some r) :
  Calls Try.prog 32 #[.agg #[.int .i64 a0_0, .slice A0_1 l0_1.length c0_1, .slice A0_2 l0_2.length c0_2, .int .i64 a0_3], .int .i64 a1] w fun e w' => e = .returned (.int .i64 r) ∧ Below w.heap.size w w' := by
 have hu31 := Try.underlying31
 have HR0_1 := Aside0.mk hr0_1
 have HC0_1 := Aside0.mk hc0_1
 clear hr0_1 hc0_1
 have HR0_2 := Aside0.mk hr0_2
 have HC0_2 := Aside0.mk hc0_2
 clear hr0_2 hc0_2
 have HB := Aside0.mk (Below.refl w.heap.size w)
 have H : ((laws_heldBlobS.f k l0_1 a1).bind fun t399 => (if t399 < 0 then (some (-1)) else ((laws_heldUploadS.f k l0_2 t399).bind fun t400 => (if t400 < 0 then (some (-1)) else (some t400))))) = some r := h
 clear h
 replace H := Option.bind_eq_some_iff.mp H
 obtain ⟨t399, A30, H⟩ := H
 try dsimp only at H
 have A3 := Aside0.mk A30
 clear A30
 by_cases c4 : t399 < 0
 ·
  rw [if_pos c4] at H
  have c4b0 := decide_eq_true c4
  clear c4
  obtain rfl := Option.some.inj H
  go_enter Try.func32, Try.ntmps32
  go_wp2_with (first | ((with_reducible refine gate_dst (N := 2) rfl ?_); refine box_event ?hg (N := 2) ?hd (cs := #[.int .i64 a0_0, .slice A0_1 l0_1.length c0_1, .slice A0_2 l0_2.length c0_2, .int .i64 a0_3]) (t := 31) ?hr ?_; (case hd => rfl); (case hg => rfl); (case hr => exact zq2); intro gb398 hg w5 hbox hb; have BK398 := Aside0.mk hbox; have GW398 := Aside0.mk (zq260 : w.heap.size ≤ gb398); have GE398 := Aside0.mk (zq260 : w.heap.size ≤ gb398); replace HB := sB zq3 hb; clear hb hbox hg; obtain ⟨hcz6_0, hcz6_1, hcz6_2, hcz6_3, hfz6_0, hfz6_1, hfz6_2, hfz6_3⟩ := c4 (w := w5) BK398) | ((with_reducible refine gC 66 rfl ?_); refine gL 8 Try.func66 #[.slice A0_1 l0_1.length c0_1, .int .i64 a1] ?_; (with_reducible refine (laws_heldBlobS.calls k _ _ l0_1 a1 t399 _ ?_ ?_ A3.out).mono ?_); exact zq11; exact zq12; rintro e w7 ⟨rfl, hb⟩; refine ⟨_, rfl, ?_⟩; replace BK398 := bF BK398 zq72 hb; replace HB := sB zq73 hb; clear hb))
  go_ret
  exact ⟨zq4, zq73⟩
 rw [if_neg c4] at H
 have c4b0 := decide_eq_false c4
 clear c4
 replace H := Option.bind_eq_some_iff.mp H
 obtain ⟨t400, A80, H⟩ := H
 try dsimp only at H
 have A8 := Aside0.mk A80
 clear A80
 by_cases c9 : t400 < 0
 ·
  rw [if_pos c9] at H
  have c9b0 := decide_eq_true c9
  clear c9
  obtain rfl := Option.some.inj H
  go_enter Try.func32, Try.ntmps32
  go_wp2_with (first | ((with_reducible refine gate_dst (N := 2) rfl ?_); refine box_event ?hg (N := 2) ?hd (cs := #[.int .i64 a0_0, .slice A0_1 l0_1.length c0_1, .slice A0_2 l0_2.length c0_2, .int .i64 a0_3]) (t := 31) ?hr ?_; (case hd => rfl); (case hg => rfl); (case hr => exact zq2); intro gb398 hg w10 hbox hb; have BK398 := Aside0.mk hbox; have GW398 := Aside0.mk (zq260 : w.heap.size ≤ gb398); have GE398 := Aside0.mk (zq260 : w.heap.size ≤ gb398); replace HB := sB zq3 hb; clear hb hbox hg; obtain ⟨hcz11_0, hcz11_1, hcz11_2, hcz11_3, hfz11_0, hfz11_1, hfz11_2, hfz11_3⟩ := c4 (w := w10) BK398) | ((with_reducible refine gC 66 rfl ?_); refine gL 8 Try.func66 #[.slice A0_1 l0_1.length c0_1, .int .i64 a1] ?_; (with_reducible refine (laws_heldBlobS.calls k _ _ l0_1 a1 t399 _ ?_ ?_ A3.out).mono ?_); exact zq11; exact zq12; rintro e w12 ⟨rfl, hb⟩; refine ⟨_, rfl, ?_⟩; replace BK398 := bF BK398 zq72 hb; replace HB := sB zq73 hb; clear hb; obtain ⟨hcz13_0, hcz13_1, hcz13_2, hcz13_3, hfz13_0, hfz13_1, hfz13_2, hfz13_3⟩ := c4 (w := w12) BK398) | ((with_reducible refine gC 67 rfl ?_); refine gL 14 Try.func67 #[.slice A0_2 l0_2.length c0_2, .int .i64 t399] ?_; (with_reducible refine (laws_heldUploadS.calls k _ _ l0_2 t399 t400 _ ?_ ?_ A8.out).mono ?_); exact zq15; exact zq16; rintro e w14 ⟨rfl, hb⟩; refine ⟨_, rfl, ?_⟩; replace BK398 := bF BK398 zq72 hb; replace HB := sB zq73 hb; clear hb))
  go_ret
  exact ⟨zq4, zq73⟩
 rw [if_neg c9] at H
 have c9b0 := decide_eq_false c9
 clear c9
 obtain rfl := Option.some.inj H
 go_enter Try.func32, Try.ntmps32
 go_wp2_with (first | ((with_reducible refine gate_dst (N := 2) rfl ?_); refine box_event ?hg (N := 2) ?hd (cs := #[.int .i64 a0_0, .slice A0_1 l0_1.length c0_1, .slice A0_2 l0_2.length c0_2, .int .i64 a0_3]) (t := 31) ?hr ?_; (case hd => rfl); (case hg => rfl); (case hr => exact zq2); intro gb398 hg w15 hbox hb; have BK398 := Aside0.mk hbox; have GW398 := Aside0.mk (zq260 : w.heap.size ≤ gb398); have GE398 := Aside0.mk (zq260 : w.heap.size ≤ gb398); replace HB := sB zq3 hb; clear hb hbox hg; obtain ⟨hcz16_0, hcz16_1, hcz16_2, hcz16_3, hfz16_0, hfz16_1, hfz16_2, hfz16_3⟩ := c4 (w := w15) BK398) | ((with_reducible refine gC 66 rfl ?_); refine gL 8 Try.func66 #[.slice A0_1 l0_1.length c0_1, .int .i64 a1] ?_; (with_reducible refine (laws_heldBlobS.calls k _ _ l0_1 a1 t399 _ ?_ ?_ A3.out).mono ?_); exact zq11; exact zq12; rintro e w17 ⟨rfl, hb⟩; refine ⟨_, rfl, ?_⟩; replace BK398 := bF BK398 zq72 hb; replace HB := sB zq73 hb; clear hb; obtain ⟨hcz18_0, hcz18_1, hcz18_2, hcz18_3, hfz18_0, hfz18_1, hfz18_2, hfz18_3⟩ := c4 (w := w17) BK398) | ((with_reducible refine gC 67 rfl ?_); refine gL 14 Try.func67 #[.slice A0_2 l0_2.length c0_2, .int .i64 t399] ?_; (with_reducible refine (laws_heldUploadS.calls k _ _ l0_2 t399 t400 _ ?_ ?_ A8.out).mono ?_); exact zq15; exact zq16; rintro e w19 ⟨rfl, hb⟩; refine ⟨_, rfl, ?_⟩; replace BK398 := bF BK398 zq72 hb; replace HB := sB zq73 hb; clear hb))
 go_ret
 exact ⟨zq4, zq73⟩

end Go.Proofs.Ytacaeebjanglgaa.QFnExactBegin
