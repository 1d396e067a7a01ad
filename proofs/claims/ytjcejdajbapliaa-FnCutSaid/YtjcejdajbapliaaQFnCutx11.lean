/- Written by wip/myprint.py of this repo (the kit's print, with additions of this session). -/
import Derived.Test.YtjcejdajbapliaaQFnCutx0
import Derived.Test.YtjcejdajbapliaaQFnCutx1
import Derived.Test.YtjcejdajbapliaaQFnCutx7
import Derived.Test.YtjcejdajbapliaaQFnCutx8
import Derived.Test.YtjcejdajbapliaaQFnCutx10
set_option maxRecDepth 100000
namespace Go.Proofs.Ytjcejdajbapliaa.QFnCut
open Go.RowKit Go.Proofs.YtjcejdajbapliaaW.PrintWords Go.Proofs.YtjcejdajbapliaaW.PrintLast Go.Proofs.YtjcejdajbapliaaW.PrintMore
attribute [local go_sem] max2_int min2_int max_two min_two max_three min_three max_four min_four   -- for this text's walks alone
set_option linter.unusedVariables false
set_option linter.unusedSimpArgs false

/-! ### laws_FnCut: function 11 -/
def laws_FnCut.l0 : Nat → List Int → Int → Int → Int → Int → List (S59) → Int → List (S59) → Option (Bool)
 | 0, _, _, _, _, _, _, _, _ => none
 | k + 1, x4, x8, x9, x10, x295000, x295001, x307000, x307001 => if x10 < (x295001.length : Int) then (if 0 ≤ x10 then ((laws_hasInt.f k x4 ((rd_T59 x295001 x10).f1)).bind fun t314 => ((laws_hasInt.f k x4 ((rd_T59 x295001 x10).f2)).bind fun t316 => (if (t314 != t316) = true then (laws_FnCut.l0 k x4 x8 (wrap64 (x9 + 1)) (wrap64 (x10 + 1)) x295000 x295001 x307000 x307001) else (laws_FnCut.l0 k x4 x8 x9 (wrap64 (x10 + 1)) x295000 x295001 x307000 x307001)))) else (none)) else ((impl_Cutting.f k x307000 x307001 x4).bind fun bt307 => (if x8 = x9 then (if (x307001.length : Int) = (wrap64 ((x295001.length : Int) - x8)) then (if bt307.2.2 = 0 then (some ((bt307.2.1.length : Int) == (x307001.length : Int))) else (some false)) else (some false)) else (some false)))
def laws_FnCut.f (k : Nat) (l0 : List Int) : Option (Bool) := (laws_big.f l0).bind fun t286 => (if t286 = true then (some true) else ((spec_DrawCutting.f k l0).bind fun bt287 => ((spec_Cutting.f k bt287.1 bt287.2.1 bt287.2.2).bind fun bt295 => ((impl_Cutting.f k bt287.1 bt287.2.1 bt287.2.2).bind fun bt301 => (if bt301.2.2 = bt295.2.2 then (if bt301.2.2 < 0 then (some true) else (laws_FnCut.l0 k bt287.2.2 bt301.2.2 0 0 bt287.1 bt287.2.1 bt301.1 bt301.2.1)) else (some false))))))
theorem laws_FnCut.mono_l : ∀ k, (∀ y0 y1 y2 y3 y4 y5 y6 y7, LeO (laws_FnCut.l0 k y0 y1 y2 y3 y4 y5 y6 y7) (laws_FnCut.l0 (k + 1) y0 y1 y2 y3 y4 y5 y6 y7))
 | 0 => fun _ _ _ _ _ _ _ _ r h => by simp [laws_FnCut.l0] at h
 | k + 1 => by
  have ih0 := laws_FnCut.mono_l k
  ·
   intro y0 y1 y2 y3 y4 y5 y6 y7
   unfold laws_FnCut.l0
   repeat' first
   | (with_reducible exact ih0 _ _ _ _ _ _ _ _)
   | (with_reducible exact impl_Cutting.mono _ _ _ _)
   | (with_reducible exact laws_hasInt.mono _ _ _)
   | (with_reducible exact spec_Cutting.mono _ _ _ _)
   | (with_reducible exact spec_DrawCutting.mono _ _)
   | (with_reducible exact LeO.refl _)
   | (with_reducible exact LeO.none _)
   | (with_reducible refine LeO.ite ?_ ?_)
   | (with_reducible refine LeO.bind ?_ (fun _ => ?_))
   | exact ih0 _ _ _ _ _ _ _ _
   | exact impl_Cutting.mono _ _ _ _
   | exact laws_hasInt.mono _ _ _
   | exact spec_Cutting.mono _ _ _ _
   | exact spec_DrawCutting.mono _ _
   | exact LeO.none _
   | refine LeO.ite ?_ ?_
   | refine LeO.bind ?_ (fun _ => ?_)
theorem laws_FnCut.mono : ∀ a0 k, LeO (laws_FnCut.f k a0) (laws_FnCut.f (k + 1) a0) := by
 intro a0 k
 have ih0 := laws_FnCut.mono_l k
 unfold laws_FnCut.f
 repeat' first
   | (with_reducible exact ih0 _ _ _ _ _ _ _ _)
   | (with_reducible exact impl_Cutting.mono _ _ _ _)
   | (with_reducible exact laws_hasInt.mono _ _ _)
   | (with_reducible exact spec_Cutting.mono _ _ _ _)
   | (with_reducible exact spec_DrawCutting.mono _ _)
   | (with_reducible exact LeO.refl _)
   | (with_reducible exact LeO.none _)
   | (with_reducible refine LeO.ite ?_ ?_)
   | (with_reducible refine LeO.bind ?_ (fun _ => ?_))
   | exact ih0 _ _ _ _ _ _ _ _
   | exact impl_Cutting.mono _ _ _ _
   | exact laws_hasInt.mono _ _ _
   | exact spec_Cutting.mono _ _ _ _
   | exact spec_DrawCutting.mono _ _
   | exact LeO.none _
   | refine LeO.ite ?_ ?_
   | refine LeO.bind ?_ (fun _ => ?_)
def laws_FnCut.T14 : Bool × List (List Nat × List Nat) := (true, [([], []), ([], []), ([1], [1]), ([], []), ([2, 3], [2, 3]), ([4], [4]), ([5], [5]), ([0, 6], [0, 6]), ([], []), ([], []), ([9], [9]), ([], []), ([10, 11], [10, 11]), ([12], [12]), ([13], [13]), ([8, 14, 7], [8, 14]), ([7, 15], [7, 15])])
def laws_FnCut.B14 : List Nat := [0, 0, 2, 0, 14, 30, 62, 127, 0, 0, 512, 0, 3584, 7680, 15872, 32767, 65535]
theorem laws_FnCut.tab14 : rtab .any (opsOf Try.f11 14) = laws_FnCut.T14 := by kernel_rfl
theorem laws_FnCut.bits14 : waitsOk laws_FnCut.T14.2 laws_FnCut.B14 = true := by kernel_rfl
set_option maxHeartbeats 8000000 in
set_option maxRecDepth 100000 in
theorem laws_FnCut.calls (k : Nat) (A0 : Option Addr) (c0 : Nat) (l0 : List Int) (r : Bool) (w : World) (hr0 : Kd.C (Kd.int .u8) w A0 l0.length l0) (hc0 : l0.length ≤ c0) (h : laws_FnCut.f k l0 = some r) :
  Calls Try.prog 11 #[.slice A0 l0.length c0] w fun e w' => e = .returned (.bool r) ∧ Below w.heap.size w w' := by
 have hu57 := Try.underlying57
 have HR0 := Aside0.mk hr0
 have HC0 := Aside0.mk hc0
 clear hr0 hc0
 have HB := Aside0.mk (Below.refl w.heap.size w)
 have H : ((laws_big.f l0).bind fun t286 => (if t286 = true then (some true) else ((spec_DrawCutting.f k l0).bind fun bt287 => ((spec_Cutting.f k bt287.1 bt287.2.1 bt287.2.2).bind fun bt295 => ((impl_Cutting.f k bt287.1 bt287.2.1 bt287.2.2).bind fun bt301 => (if bt301.2.2 = bt295.2.2 then (if bt301.2.2 < 0 then (some true) else (laws_FnCut.l0 k bt287.2.2 bt301.2.2 0 0 bt287.1 bt287.2.1 bt301.1 bt301.2.1)) else (some false))))))) = some r := h
 clear h
 replace H := Option.bind_eq_some_iff.mp H
 obtain ⟨t286, A20, H⟩ := H
 replace H : (if t286 = true then (some true) else ((spec_DrawCutting.f k l0).bind fun bt287 => ((spec_Cutting.f k bt287.1 bt287.2.1 bt287.2.2).bind fun bt295 => ((impl_Cutting.f k bt287.1 bt287.2.1 bt287.2.2).bind fun bt301 => (if bt301.2.2 = bt295.2.2 then (if bt301.2.2 < 0 then (some true) else (laws_FnCut.l0 k bt287.2.2 bt301.2.2 0 0 bt287.1 bt287.2.1 bt301.1 bt301.2.1)) else (some false)))))) = some r := H
 have A2 := Aside0.mk A20
 clear A20
 by_cases c3 : t286 = true
 ·
  subst c3
  have H1 : (some true) = some r := by rw [if_pos rfl] at H; exact H
  clear H
  have H := H1
  clear H1
  obtain rfl := Option.some.inj H
  go_enter Try.func11, Try.ntmps11
  go_wp2_with (first | ((with_reducible refine gate_callee (f := 17) rfl ?_); refine goesL_ (some 14) rfl rfl Try.func17 (by kernel_rfl) rfl #[.slice A0 l0.length c0] rfl zq12 ?_; (with_reducible refine (laws_big.calls _ _ l0 true _ ?side1 ?side2 A2.out).mono ?_); (case side1 => exact zq13); (case side2 => exact zq14); rintro e w' ⟨rfl, ⟨nd, rfl⟩⟩; refine ⟨_, rfl, ?_⟩))
  go_ret
  exact ⟨zq8, zq6⟩
 ·
  replace c3 := Bool.eq_false_iff.mpr c3
  subst c3
  have H1 : ((spec_DrawCutting.f k l0).bind fun bt287 => ((spec_Cutting.f k bt287.1 bt287.2.1 bt287.2.2).bind fun bt295 => ((impl_Cutting.f k bt287.1 bt287.2.1 bt287.2.2).bind fun bt301 => (if bt301.2.2 = bt295.2.2 then (if bt301.2.2 < 0 then (some true) else (laws_FnCut.l0 k bt287.2.2 bt301.2.2 0 0 bt287.1 bt287.2.1 bt301.1 bt301.2.1)) else (some false))))) = some r := by rw [if_neg (show ¬ (false = true) by decide)] at H; exact H
  clear H
  have H := H1
  clear H1
  replace H := Option.bind_eq_some_iff.mp H
  obtain ⟨⟨t287, t288, t291⟩, A40, H⟩ := H
  replace H : ((spec_Cutting.f k t287 t288 t291).bind fun bt295 => ((impl_Cutting.f k t287 t288 t291).bind fun bt301 => (if bt301.2.2 = bt295.2.2 then (if bt301.2.2 < 0 then (some true) else (laws_FnCut.l0 k t291 bt301.2.2 0 0 t287 t288 bt301.1 bt301.2.1)) else (some false)))) = some r := H
  have A4 := Aside0.mk A40
  clear A40
  replace H := Option.bind_eq_some_iff.mp H
  obtain ⟨⟨t295, t296, t299⟩, A50, H⟩ := H
  replace H : ((impl_Cutting.f k t287 t288 t291).bind fun bt301 => (if bt301.2.2 = t299 then (if bt301.2.2 < 0 then (some true) else (laws_FnCut.l0 k t291 bt301.2.2 0 0 t287 t288 bt301.1 bt301.2.1)) else (some false))) = some r := H
  have A5 := Aside0.mk A50
  clear A50
  replace H := Option.bind_eq_some_iff.mp H
  obtain ⟨⟨t301, t302, t305⟩, A60, H⟩ := H
  replace H : (if t305 = t299 then (if t305 < 0 then (some true) else (laws_FnCut.l0 k t291 t305 0 0 t287 t288 t301 t302)) else (some false)) = some r := H
  have A6 := Aside0.mk A60
  clear A60
  by_cases c7 : t305 = t299
  ·
   rw [if_pos c7] at H
   have c7b0 : (t305 == t299) = true := beq_iff_eq.mpr c7
   have c7b1 : (t305 != t299) = false := bne_eq_false_iff_eq.mpr c7
   clear c7
   by_cases c8 : t305 < 0
   ·
    rw [if_pos c8] at H
    have c8b0 : decide (t305 < 0) = true := decide_eq_true c8
    clear c8
    obtain rfl := Option.some.inj H
    go_enter Try.func11, Try.ntmps11
    go_wp2_with (first | ((with_reducible refine gate_callee (f := 17) rfl ?_); refine goesL_ (some 14) rfl rfl Try.func17 (by kernel_rfl) rfl #[.slice A0 l0.length c0] rfl zq12 ?_; (with_reducible refine (laws_big.calls _ _ l0 false _ ?side1 ?side2 A2.out).mono ?_); (case side1 => exact zq13); (case side2 => exact zq14); rintro e w' ⟨rfl, ⟨nd, rfl⟩⟩; refine ⟨_, rfl, ?_⟩) | ((with_reducible refine gate_callee (f := 54) rfl ?_); refine goesL_ (some 17) rfl rfl Try.func54 (by kernel_rfl) rfl #[.slice A0 l0.length c0] rfl zq12 ?_; (with_reducible refine (spec_DrawCutting.calls k _ _ l0 t287 t288 t291 _ ?side1 ?side2 A4.out).mono ?_); (case side1 => exact zq13); (case side2 => exact zq14); rintro e w9 ⟨v289, v292, rfl, ho0, ho1, hb⟩; refine ⟨_, rfl, ?_⟩; have n0_ := Aside0.mk (Kd.R_lower ho0 (below_size zq6)); have n1_ := Aside0.mk (Kd.R_lower ho1 (below_size zq6)); have n2_ := Aside0.mk (below_step zq6 hb); clear HB; have HO290 := n0_; have HO293 := n1_; have HB := n2_; clear n0_ n1_ n2_; (try clear hb); (try clear hb2); (try clear hk); (try clear hi); (try clear ho0); (try clear ho1)) | ((with_reducible refine gate_dst (N := 3) rfl ?_); (try (refine gate_guard (by rfl) ?_; dsimp only)); refine box_event ?hg (N := 3) ?hd (cs := #[.int .i64 0, .slice none 0 0]) (t := 57) ?hr ?_; (case hd => rfl); (case hg => rfl); (case hr => exact zq5); intro gb294 hg w10 hbox hb; have n0_ := Aside0.mk (Kd.R_below zq34 hb); have n1_ := Aside0.mk (Kd.R_below zq35 hb); have n2_ := Aside0.mk (below_step zq6 hb); have n3_ := Aside0.mk (hbox); have n4_ := Aside0.mk ((zq166 : w.heap.size ≤ gb294)); have n5_ := Aside0.mk ((zq166 : w.heap.size ≤ gb294)); clear HO290; clear HO293; clear HB; have HO290 := n0_; have HO293 := n1_; have HB := n2_; have BK294 := n3_; have GW294 := n4_; have GE294 := n5_; clear n0_ n1_ n2_ n3_ n4_ n5_; clear hb hbox hg; have hcz11_0 : w10.cell? ⟨gb294, 0, none⟩ = some (.int .i64 0) := (blk_cell BK294.out 0).trans rfl; have hcz11_1 : w10.cell? ⟨gb294, 1, none⟩ = some (.slice none 0 0) := (blk_cell BK294.out 1).trans rfl; have hfz11_0 := blk_frozen BK294.out 0; have hfz11_1 := blk_frozen BK294.out 1; obtain ⟨Ao12, co12, eo12⟩ := Kd.R_slice HO290.out; subst eo12; obtain ⟨Ao13, co13, eo13⟩ := Kd.R_slice HO293.out; subst eo13) | ((with_reducible refine gate_callee (f := 55) rfl ?_); refine goesL_ (some 23) rfl rfl Try.func55 (by kernel_rfl) rfl #[.agg #[.int .i64 t287, .slice Ao12 t288.length co12], .slice Ao13 t291.length co13] rfl zq12 ?_; (with_reducible refine (spec_Cutting.calls k t287 _ _ t288 _ _ t291 t295 t296 t299 _ ?side1 ?side2 ?side3 ?side4 A5.out).mono ?_); (case side1 => refine (Kd.R_reads' (e := 59) (base := w.heap.size) (ok := fun k_ => True) (n := t288.length) (c := co12) ?_).2.2; exact zq36); (case side2 => exact zq37); (case side3 => refine (Kd.R_reads' (e := 2) (base := w.heap.size) (ok := fun k_ => True) (n := t291.length) (c := co13) ?_).2.2; exact zq38); (case side4 => exact zq39); rintro e w14 ⟨v297, rfl, ho0, hb⟩; refine ⟨_, rfl, ?_⟩; have n0_ := Aside0.mk (Kd.R_elder' zq36 (Kd.R_base ho0) hb); have n1_ := Aside0.mk (Kd.R_below zq38 hb); have n2_ := Aside0.mk (Kd.R_lower (Kd.R_new' ho0 (Kd.R_lt zq36)) (below_size zq40)); have n3_ := Aside0.mk (blk_below (g := gb294) (o := .cells #[.int .i64 t287, .slice Ao12 t288.length co12] 57 (0, 0)) zq41 hb); have n4_ := Aside0.mk (below_step zq40 hb); clear HO290; clear HO293; clear BK294; clear HB; have HO290 := n0_; have HO293 := n1_; have HO298 := n2_; have BK294 := n3_; have HB := n4_; clear n0_ n1_ n2_ n3_ n4_; (try clear hb); (try clear hb2); (try clear hk); (try clear hi); (try clear ho0)) | ((with_reducible refine gate_dst (N := 5) rfl ?_); (try (refine gate_guard (by rfl) ?_; dsimp only)); refine box_event ?hg (N := 5) ?hd (cs := #[.int .i64 0, .slice none 0 0]) (t := 57) ?hr ?_; (case hd => rfl); (case hg => rfl); (case hr => exact zq5); intro gb300 hg w15 hbox hb; have n0_ := Aside0.mk (Kd.R_below zq34 hb); have n1_ := Aside0.mk (Kd.R_below zq35 hb); have n2_ := Aside0.mk (Kd.R_below zq42 hb); have n3_ := Aside0.mk (blk_below (g := gb294) (o := .cells #[.int .i64 t287, .slice Ao12 t288.length co12] 57 (0, 0)) zq43 hb); have n4_ := Aside0.mk (below_step zq40 hb); have n5_ := Aside0.mk (hbox); have n6_ := Aside0.mk ((zq178 : w.heap.size ≤ gb300)); have n7_ := Aside0.mk ((zq178 : w.heap.size ≤ gb300)); have n8_ := Aside0.mk ((zq179 : gb294 ≠ gb300)); have n9_ := Aside0.mk ((zq180 : gb300 ≠ gb294)); clear HO290; clear HO293; clear HO298; clear BK294; clear HB; have HO290 := n0_; have HO293 := n1_; have HO298 := n2_; have BK294 := n3_; have HB := n4_; have BK300 := n5_; have GW300 := n6_; have GE300 := n7_; have NB294_300 := n8_; have NB300_294 := n9_; clear n0_ n1_ n2_ n3_ n4_ n5_ n6_ n7_ n8_ n9_; clear hb hbox hg; have hnb16 := NB300_294.out; have hnc16 := NB294_300.out; have hcz17_0 : w15.cell? ⟨gb300, 0, none⟩ = some (.int .i64 0) := (blk_cell BK300.out 0).trans rfl; have hcz17_1 : w15.cell? ⟨gb300, 1, none⟩ = some (.slice none 0 0) := (blk_cell BK300.out 1).trans rfl; have hfz17_0 := blk_frozen BK300.out 0; have hfz17_1 := blk_frozen BK300.out 1; obtain ⟨Ao18, co18, eo18⟩ := Kd.R_slice HO298.out; subst eo18; have hcz19_0 : w15.cell? ⟨gb294, 0, none⟩ = some (.int .i64 t287) := (blk_cell BK294.out 0).trans rfl; have hcz19_1 : w15.cell? ⟨gb294, 1, none⟩ = some (.slice Ao12 t288.length co12) := (blk_cell BK294.out 1).trans rfl; have hfz19_0 := blk_frozen BK294.out 0; have hfz19_1 := blk_frozen BK294.out 1) | ((with_reducible refine gate_callee (f := 56) rfl ?_); refine goesL_ (some 29) rfl rfl Try.func56 (by kernel_rfl) rfl #[.agg #[.int .i64 t287, .slice Ao12 t288.length co12], .slice Ao13 t291.length co13] rfl zq12 ?_; (with_reducible refine (impl_Cutting.calls k t287 _ _ t288 _ _ t291 t301 t302 t305 _ ?side1 ?side2 ?side3 ?side4 A6.out).mono ?_); (case side1 => refine (Kd.R_reads' (e := 59) (base := w.heap.size) (ok := fun k_ => (True ∧ some k_ ≠ (.slice Ao18 t296.length co18 : Value).ownBlock)) (n := t288.length) (c := co12) ?_).2.2; exact zq44); (case side2 => exact zq37); (case side3 => refine (Kd.R_reads' (e := 2) (base := w.heap.size) (ok := fun k_ => True) (n := t291.length) (c := co13) ?_).2.2; exact zq45); (case side4 => exact zq39); rintro e w20 ⟨v303, rfl, ho0, hb⟩; refine ⟨_, rfl, ?_⟩; have n0_ := Aside0.mk (Kd.R_elder' zq44 (Kd.R_base ho0) hb); have n1_ := Aside0.mk (Kd.R_below zq45 hb); have n2_ := Aside0.mk (Kd.R_elder' zq46 (Kd.R_base ho0) hb); have n3_ := Aside0.mk (Kd.R_lower (Kd.R_new' (Kd.R_new' ho0 (Kd.R_lt zq44)) (Kd.R_lt zq46)) (below_size zq47)); have n4_ := Aside0.mk (blk_below (g := gb294) (o := .cells #[.int .i64 t287, .slice Ao12 t288.length co12] 57 (0, 0)) zq48 hb); have n5_ := Aside0.mk (blk_below (g := gb300) (o := .cells #[.int .i64 t295, .slice Ao18 t296.length co18] 57 (0, 0)) zq49 hb); have n6_ := Aside0.mk (below_step zq47 hb); clear HO290; clear HO293; clear HO298; clear BK294; clear BK300; clear HB; have HO290 := n0_; have HO293 := n1_; have HO298 := n2_; have HO304 := n3_; have BK294 := n4_; have BK300 := n5_; have HB := n6_; clear n0_ n1_ n2_ n3_ n4_ n5_ n6_; (try clear hb); (try clear hb2); (try clear hk); (try clear hi); (try clear ho0)) | ((with_reducible refine gate_dst (N := 7) rfl ?_); (try (refine gate_guard (by rfl) ?_; dsimp only)); refine box_event ?hg (N := 7) ?hd (cs := #[.int .i64 0, .slice none 0 0]) (t := 57) ?hr ?_; (case hd => rfl); (case hg => rfl); (case hr => exact zq5); intro gb306 hg w21 hbox hb; have n0_ := Aside0.mk (Kd.R_below zq34 hb); have n1_ := Aside0.mk (Kd.R_below zq35 hb); have n2_ := Aside0.mk (Kd.R_below zq42 hb); have n3_ := Aside0.mk (Kd.R_below zq50 hb); have n4_ := Aside0.mk (blk_below (g := gb294) (o := .cells #[.int .i64 t287, .slice Ao12 t288.length co12] 57 (0, 0)) zq43 hb); have n5_ := Aside0.mk (blk_below (g := gb300) (o := .cells #[.int .i64 t295, .slice Ao18 t296.length co18] 57 (0, 0)) zq51 hb); have n6_ := Aside0.mk (below_step zq47 hb); have n7_ := Aside0.mk (hbox); have n8_ := Aside0.mk ((zq181 : w.heap.size ≤ gb306)); have n9_ := Aside0.mk ((zq181 : w.heap.size ≤ gb306)); have n10_ := Aside0.mk ((zq179 : gb294 ≠ gb306)); have n11_ := Aside0.mk ((zq180 : gb306 ≠ gb294)); have n12_ := Aside0.mk ((by rw [hg]; exact Nat.ne_of_lt (blk_lt (g := gb300) (o := .cells #[.int .i64 t295, .slice Ao18 t296.length co18] 57 (0, 0)) zq51) : gb300 ≠ gb306)); have n13_ := Aside0.mk ((by rw [hg]; exact Nat.ne_of_gt (blk_lt (g := gb300) (o := .cells #[.int .i64 t295, .slice Ao18 t296.length co18] 57 (0, 0)) zq51) : gb306 ≠ gb300)); clear HO290; clear HO293; clear HO298; clear HO304; clear BK294; clear BK300; clear HB; have HO290 := n0_; have HO293 := n1_; have HO298 := n2_; have HO304 := n3_; have BK294 := n4_; have BK300 := n5_; have HB := n6_; have BK306 := n7_; have GW306 := n8_; have GE306 := n9_; have NB294_306 := n10_; have NB306_294 := n11_; have NB300_306 := n12_; have NB306_300 := n13_; clear n0_ n1_ n2_ n3_ n4_ n5_ n6_ n7_ n8_ n9_ n10_ n11_ n12_ n13_; clear hb hbox hg; have hnb22 := NB306_294.out; have hnc22 := NB294_306.out; have hnb23 := NB306_300.out; have hnc23 := NB300_306.out; have hcz24_0 : w21.cell? ⟨gb306, 0, none⟩ = some (.int .i64 0) := (blk_cell BK306.out 0).trans rfl; have hcz24_1 : w21.cell? ⟨gb306, 1, none⟩ = some (.slice none 0 0) := (blk_cell BK306.out 1).trans rfl; have hfz24_0 := blk_frozen BK306.out 0; have hfz24_1 := blk_frozen BK306.out 1; obtain ⟨Ao25, co25, eo25⟩ := Kd.R_slice HO304.out; subst eo25))
    go_ret
    exact ⟨zq8, zq52⟩
   ·
    rw [if_neg c8] at H
    have c8b0 : decide (t305 < 0) = false := decide_eq_false c8
    clear c8
    have H' := Aside0.mk H
    clear H
    go_enter Try.func11, Try.ntmps11
    go_wp2_with (first | ((with_reducible refine gate_callee (f := 17) rfl ?_); refine goesL_ (some 14) rfl rfl Try.func17 (by kernel_rfl) rfl #[.slice A0 l0.length c0] rfl zq12 ?_; (with_reducible refine (laws_big.calls _ _ l0 false _ ?side1 ?side2 A2.out).mono ?_); (case side1 => exact zq13); (case side2 => exact zq14); rintro e w' ⟨rfl, ⟨nd, rfl⟩⟩; refine ⟨_, rfl, ?_⟩) | ((with_reducible refine gate_callee (f := 54) rfl ?_); refine goesL_ (some 17) rfl rfl Try.func54 (by kernel_rfl) rfl #[.slice A0 l0.length c0] rfl zq12 ?_; (with_reducible refine (spec_DrawCutting.calls k _ _ l0 t287 t288 t291 _ ?side1 ?side2 A4.out).mono ?_); (case side1 => exact zq13); (case side2 => exact zq14); rintro e w26 ⟨v289, v292, rfl, ho0, ho1, hb⟩; refine ⟨_, rfl, ?_⟩; have n0_ := Aside0.mk (Kd.R_lower ho0 (below_size zq6)); have n1_ := Aside0.mk (Kd.R_lower ho1 (below_size zq6)); have n2_ := Aside0.mk (below_step zq6 hb); clear HB; have HO290 := n0_; have HO293 := n1_; have HB := n2_; clear n0_ n1_ n2_; (try clear hb); (try clear hb2); (try clear hk); (try clear hi); (try clear ho0); (try clear ho1)) | ((with_reducible refine gate_dst (N := 3) rfl ?_); (try (refine gate_guard (by rfl) ?_; dsimp only)); refine box_event ?hg (N := 3) ?hd (cs := #[.int .i64 0, .slice none 0 0]) (t := 57) ?hr ?_; (case hd => rfl); (case hg => rfl); (case hr => exact zq5); intro gb294 hg w27 hbox hb; have n0_ := Aside0.mk (Kd.R_below zq34 hb); have n1_ := Aside0.mk (Kd.R_below zq35 hb); have n2_ := Aside0.mk (below_step zq6 hb); have n3_ := Aside0.mk (hbox); have n4_ := Aside0.mk ((zq166 : w.heap.size ≤ gb294)); have n5_ := Aside0.mk ((zq166 : w.heap.size ≤ gb294)); clear HO290; clear HO293; clear HB; have HO290 := n0_; have HO293 := n1_; have HB := n2_; have BK294 := n3_; have GW294 := n4_; have GE294 := n5_; clear n0_ n1_ n2_ n3_ n4_ n5_; clear hb hbox hg; have hcz28_0 : w27.cell? ⟨gb294, 0, none⟩ = some (.int .i64 0) := (blk_cell BK294.out 0).trans rfl; have hcz28_1 : w27.cell? ⟨gb294, 1, none⟩ = some (.slice none 0 0) := (blk_cell BK294.out 1).trans rfl; have hfz28_0 := blk_frozen BK294.out 0; have hfz28_1 := blk_frozen BK294.out 1; obtain ⟨Ao29, co29, eo29⟩ := Kd.R_slice HO290.out; subst eo29; obtain ⟨Ao30, co30, eo30⟩ := Kd.R_slice HO293.out; subst eo30) | ((with_reducible refine gate_callee (f := 55) rfl ?_); refine goesL_ (some 23) rfl rfl Try.func55 (by kernel_rfl) rfl #[.agg #[.int .i64 t287, .slice Ao29 t288.length co29], .slice Ao30 t291.length co30] rfl zq12 ?_; (with_reducible refine (spec_Cutting.calls k t287 _ _ t288 _ _ t291 t295 t296 t299 _ ?side1 ?side2 ?side3 ?side4 A5.out).mono ?_); (case side1 => refine (Kd.R_reads' (e := 59) (base := w.heap.size) (ok := fun k_ => True) (n := t288.length) (c := co29) ?_).2.2; exact zq53); (case side2 => exact zq37); (case side3 => refine (Kd.R_reads' (e := 2) (base := w.heap.size) (ok := fun k_ => True) (n := t291.length) (c := co30) ?_).2.2; exact zq54); (case side4 => exact zq39); rintro e w31 ⟨v297, rfl, ho0, hb⟩; refine ⟨_, rfl, ?_⟩; have n0_ := Aside0.mk (Kd.R_elder' zq53 (Kd.R_base ho0) hb); have n1_ := Aside0.mk (Kd.R_below zq54 hb); have n2_ := Aside0.mk (Kd.R_lower (Kd.R_new' ho0 (Kd.R_lt zq53)) (below_size zq40)); have n3_ := Aside0.mk (blk_below (g := gb294) (o := .cells #[.int .i64 t287, .slice Ao29 t288.length co29] 57 (0, 0)) zq41 hb); have n4_ := Aside0.mk (below_step zq40 hb); clear HO290; clear HO293; clear BK294; clear HB; have HO290 := n0_; have HO293 := n1_; have HO298 := n2_; have BK294 := n3_; have HB := n4_; clear n0_ n1_ n2_ n3_ n4_; (try clear hb); (try clear hb2); (try clear hk); (try clear hi); (try clear ho0)) | ((with_reducible refine gate_dst (N := 5) rfl ?_); (try (refine gate_guard (by rfl) ?_; dsimp only)); refine box_event ?hg (N := 5) ?hd (cs := #[.int .i64 0, .slice none 0 0]) (t := 57) ?hr ?_; (case hd => rfl); (case hg => rfl); (case hr => exact zq5); intro gb300 hg w32 hbox hb; have n0_ := Aside0.mk (Kd.R_below zq34 hb); have n1_ := Aside0.mk (Kd.R_below zq35 hb); have n2_ := Aside0.mk (Kd.R_below zq42 hb); have n3_ := Aside0.mk (blk_below (g := gb294) (o := .cells #[.int .i64 t287, .slice Ao29 t288.length co29] 57 (0, 0)) zq43 hb); have n4_ := Aside0.mk (below_step zq40 hb); have n5_ := Aside0.mk (hbox); have n6_ := Aside0.mk ((zq178 : w.heap.size ≤ gb300)); have n7_ := Aside0.mk ((zq178 : w.heap.size ≤ gb300)); have n8_ := Aside0.mk ((zq182 : gb294 ≠ gb300)); have n9_ := Aside0.mk ((zq183 : gb300 ≠ gb294)); clear HO290; clear HO293; clear HO298; clear BK294; clear HB; have HO290 := n0_; have HO293 := n1_; have HO298 := n2_; have BK294 := n3_; have HB := n4_; have BK300 := n5_; have GW300 := n6_; have GE300 := n7_; have NB294_300 := n8_; have NB300_294 := n9_; clear n0_ n1_ n2_ n3_ n4_ n5_ n6_ n7_ n8_ n9_; clear hb hbox hg; have hnb33 := NB300_294.out; have hnc33 := NB294_300.out; have hcz34_0 : w32.cell? ⟨gb300, 0, none⟩ = some (.int .i64 0) := (blk_cell BK300.out 0).trans rfl; have hcz34_1 : w32.cell? ⟨gb300, 1, none⟩ = some (.slice none 0 0) := (blk_cell BK300.out 1).trans rfl; have hfz34_0 := blk_frozen BK300.out 0; have hfz34_1 := blk_frozen BK300.out 1; obtain ⟨Ao35, co35, eo35⟩ := Kd.R_slice HO298.out; subst eo35; have hcz36_0 : w32.cell? ⟨gb294, 0, none⟩ = some (.int .i64 t287) := (blk_cell BK294.out 0).trans rfl; have hcz36_1 : w32.cell? ⟨gb294, 1, none⟩ = some (.slice Ao29 t288.length co29) := (blk_cell BK294.out 1).trans rfl; have hfz36_0 := blk_frozen BK294.out 0; have hfz36_1 := blk_frozen BK294.out 1) | ((with_reducible refine gate_callee (f := 56) rfl ?_); refine goesL_ (some 29) rfl rfl Try.func56 (by kernel_rfl) rfl #[.agg #[.int .i64 t287, .slice Ao29 t288.length co29], .slice Ao30 t291.length co30] rfl zq12 ?_; (with_reducible refine (impl_Cutting.calls k t287 _ _ t288 _ _ t291 t301 t302 t305 _ ?side1 ?side2 ?side3 ?side4 A6.out).mono ?_); (case side1 => refine (Kd.R_reads' (e := 59) (base := w.heap.size) (ok := fun k_ => (True ∧ some k_ ≠ (.slice Ao35 t296.length co35 : Value).ownBlock)) (n := t288.length) (c := co29) ?_).2.2; exact zq55); (case side2 => exact zq37); (case side3 => refine (Kd.R_reads' (e := 2) (base := w.heap.size) (ok := fun k_ => True) (n := t291.length) (c := co30) ?_).2.2; exact zq56); (case side4 => exact zq39); rintro e w37 ⟨v303, rfl, ho0, hb⟩; refine ⟨_, rfl, ?_⟩; have n0_ := Aside0.mk (Kd.R_elder' zq55 (Kd.R_base ho0) hb); have n1_ := Aside0.mk (Kd.R_below zq56 hb); have n2_ := Aside0.mk (Kd.R_elder' zq57 (Kd.R_base ho0) hb); have n3_ := Aside0.mk (Kd.R_lower (Kd.R_new' (Kd.R_new' ho0 (Kd.R_lt zq55)) (Kd.R_lt zq57)) (below_size zq47)); have n4_ := Aside0.mk (blk_below (g := gb294) (o := .cells #[.int .i64 t287, .slice Ao29 t288.length co29] 57 (0, 0)) zq48 hb); have n5_ := Aside0.mk (blk_below (g := gb300) (o := .cells #[.int .i64 t295, .slice Ao35 t296.length co35] 57 (0, 0)) zq49 hb); have n6_ := Aside0.mk (below_step zq47 hb); clear HO290; clear HO293; clear HO298; clear BK294; clear BK300; clear HB; have HO290 := n0_; have HO293 := n1_; have HO298 := n2_; have HO304 := n3_; have BK294 := n4_; have BK300 := n5_; have HB := n6_; clear n0_ n1_ n2_ n3_ n4_ n5_ n6_; (try clear hb); (try clear hb2); (try clear hk); (try clear hi); (try clear ho0)) | ((with_reducible refine gate_dst (N := 7) rfl ?_); (try (refine gate_guard (by rfl) ?_; dsimp only)); refine box_event ?hg (N := 7) ?hd (cs := #[.int .i64 0, .slice none 0 0]) (t := 57) ?hr ?_; (case hd => rfl); (case hg => rfl); (case hr => exact zq5); intro gb306 hg w38 hbox hb; have n0_ := Aside0.mk (Kd.R_below zq34 hb); have n1_ := Aside0.mk (Kd.R_below zq35 hb); have n2_ := Aside0.mk (Kd.R_below zq42 hb); have n3_ := Aside0.mk (Kd.R_below zq50 hb); have n4_ := Aside0.mk (blk_below (g := gb294) (o := .cells #[.int .i64 t287, .slice Ao29 t288.length co29] 57 (0, 0)) zq43 hb); have n5_ := Aside0.mk (blk_below (g := gb300) (o := .cells #[.int .i64 t295, .slice Ao35 t296.length co35] 57 (0, 0)) zq51 hb); have n6_ := Aside0.mk (below_step zq47 hb); have n7_ := Aside0.mk (hbox); have n8_ := Aside0.mk ((zq181 : w.heap.size ≤ gb306)); have n9_ := Aside0.mk ((zq181 : w.heap.size ≤ gb306)); have n10_ := Aside0.mk ((zq182 : gb294 ≠ gb306)); have n11_ := Aside0.mk ((zq183 : gb306 ≠ gb294)); have n12_ := Aside0.mk ((zq184 : gb300 ≠ gb306)); have n13_ := Aside0.mk ((zq185 : gb306 ≠ gb300)); clear HO290; clear HO293; clear HO298; clear HO304; clear BK294; clear BK300; clear HB; have HO290 := n0_; have HO293 := n1_; have HO298 := n2_; have HO304 := n3_; have BK294 := n4_; have BK300 := n5_; have HB := n6_; have BK306 := n7_; have GW306 := n8_; have GE306 := n9_; have NB294_306 := n10_; have NB306_294 := n11_; have NB300_306 := n12_; have NB306_300 := n13_; clear n0_ n1_ n2_ n3_ n4_ n5_ n6_ n7_ n8_ n9_ n10_ n11_ n12_ n13_; clear hb hbox hg; have hnb39 := NB306_294.out; have hnc39 := NB294_306.out; have hnb40 := NB306_300.out; have hnc40 := NB300_306.out; have hcz41_0 : w38.cell? ⟨gb306, 0, none⟩ = some (.int .i64 0) := (blk_cell BK306.out 0).trans rfl; have hcz41_1 : w38.cell? ⟨gb306, 1, none⟩ = some (.slice none 0 0) := (blk_cell BK306.out 1).trans rfl; have hfz41_0 := blk_frozen BK306.out 0; have hfz41_1 := blk_frozen BK306.out 1; obtain ⟨Ao42, co42, eo42⟩ := Kd.R_slice HO304.out; subst eo42))
    go_loopg [9, 10] k (fun kq v9 v10 w' => ∃ (x9_1 : Int) (x10_1 : Int), v9 = .int .i64 x9_1 ∧ v10 = .int .i64 x10_1 ∧ Aside0 (laws_FnCut.l0 kq t291 t305 x9_1 x10_1 t287 t288 t301 t302 = some r) ∧ Aside0 (kq ≤ k) ∧ Aside0 (Kd.R (Kd.int .i64) 2 w' w.heap.size (fun _ => True) (.slice Ao30 t291.length co30) t291) ∧ Aside0 (Kd.R k59 59 w' w.heap.size (fun k_ => some k_ ≠ ((.slice Ao35 t296.length co35) : Value).ownBlock ∧ some k_ ≠ ((.slice Ao42 t302.length co42) : Value).ownBlock) (.slice Ao29 t288.length co29) t288) ∧ Aside0 (Kd.R k59 59 w' w.heap.size (fun k_ => some k_ ≠ ((.slice Ao29 t288.length co29) : Value).ownBlock ∧ some k_ ≠ ((.slice Ao42 t302.length co42) : Value).ownBlock) (.slice Ao35 t296.length co35) t296) ∧ Aside0 (Kd.R k59 59 w' w.heap.size (fun k_ => some k_ ≠ ((.slice Ao29 t288.length co29) : Value).ownBlock ∧ some k_ ≠ ((.slice Ao35 t296.length co35) : Value).ownBlock) (.slice Ao42 t302.length co42) t302) ∧ Aside0 (w'.heap[gb294]? = some (.cells #[.int .i64 t287, (.slice Ao29 t288.length co29)] 57 (0, 0))) ∧ Aside0 (w'.heap[gb300]? = some (.cells #[.int .i64 t295, (.slice Ao35 t296.length co35)] 57 (0, 0))) ∧ Aside0 (w'.heap[gb306]? = some (.cells #[.int .i64 t301, (.slice Ao42 t302.length co42)] 57 (0, 0))) ∧ Aside0 (Below w.heap.size w w'))
    case atStart => exact ⟨(0), (0), zq1, zq1, H', ⟨Nat.le_refl _⟩, ⟨by (with_reducible repeat (first | apply Kd.R_alloc | apply Kd.R_drewN | apply Kd.R_drew)); exact Kd.R_mono (Kd.R_far (p := ⟨gb306, 1, none⟩) (Kd.R_far (p := ⟨gb306, 0, none⟩) (Kd.R_types HO293.out BK306.out (by decide)) (fun _ hk => hk.2) (.int .i64 t301)) (fun _ hk => hk.2) (.slice Ao42 t302.length co42)) (fun _ hk => trivial)⟩, ⟨by (with_reducible repeat (first | apply Kd.R_alloc | apply Kd.R_drewN | apply Kd.R_drew)); exact Kd.R_mono (Kd.R_far (p := ⟨gb306, 1, none⟩) (Kd.R_far (p := ⟨gb306, 0, none⟩) (Kd.R_types HO290.out BK306.out (by decide)) (fun _ hk => hk.2) (.int .i64 t301)) (fun _ hk => hk.2) (.slice Ao42 t302.length co42)) (fun _ hk => ⟨hk.1.1.2, hk.1.2⟩)⟩, ⟨by (with_reducible repeat (first | apply Kd.R_alloc | apply Kd.R_drewN | apply Kd.R_drew)); exact Kd.R_mono (Kd.R_far (p := ⟨gb306, 1, none⟩) (Kd.R_far (p := ⟨gb306, 0, none⟩) (Kd.R_types HO298.out BK306.out (by decide)) (fun _ hk => hk.2) (.int .i64 t301)) (fun _ hk => hk.2) (.slice Ao42 t302.length co42)) (fun _ hk => ⟨hk.1.1.2, hk.1.2⟩)⟩, ⟨by (with_reducible repeat (first | apply Kd.R_alloc | apply Kd.R_drewN | apply Kd.R_drew)); exact Kd.R_mono (Kd.R_far (p := ⟨gb306, 1, none⟩) (Kd.R_far (p := ⟨gb306, 0, none⟩) (Kd.R_types HO304.out BK306.out (by decide)) (fun _ hk => hk.2) (.int .i64 t301)) (fun _ hk => hk.2) (.slice Ao42 t302.length co42)) (fun _ hk => ⟨hk.1.1.2, hk.1.2⟩)⟩, ⟨by (with_reducible repeat (first | refine blk_drewN ?_ _ | refine blk_drew ?_ | refine blk_alloc ?_ _)); refine blk_far ?_ NB294_306.out _; (with_reducible repeat (first | refine blk_drewN ?_ _ | refine blk_drew ?_ | refine blk_alloc ?_ _)); refine blk_far ?_ NB294_306.out _; (with_reducible repeat (first | refine blk_drewN ?_ _ | refine blk_drew ?_ | refine blk_alloc ?_ _)); exact BK294.out⟩, ⟨by (with_reducible repeat (first | refine blk_drewN ?_ _ | refine blk_drew ?_ | refine blk_alloc ?_ _)); refine blk_far ?_ NB300_306.out _; (with_reducible repeat (first | refine blk_drewN ?_ _ | refine blk_drew ?_ | refine blk_alloc ?_ _)); refine blk_far ?_ NB300_306.out _; (with_reducible repeat (first | refine blk_drewN ?_ _ | refine blk_drew ?_ | refine blk_alloc ?_ _)); exact BK300.out⟩, ⟨by (with_reducible repeat (first | refine blk_drewN ?_ _ | refine blk_drew ?_ | refine blk_alloc ?_ _)); refine blk_put (cs := #[.int .i64 t301, .slice none 0 0]) ?_ 1 _ rfl; (with_reducible repeat (first | refine blk_drewN ?_ _ | refine blk_drew ?_ | refine blk_alloc ?_ _)); refine blk_put (cs := #[.int .i64 0, .slice none 0 0]) ?_ 0 _ rfl; (with_reducible repeat (first | refine blk_drewN ?_ _ | refine blk_drew ?_ | refine blk_alloc ?_ _)); exact BK306.out⟩, ⟨zq52⟩⟩
    case round =>
     clear H'
     try clear c1
     try clear c2
     try clear p2
     try clear c3
     try clear c4
     try clear c5
     try clear c7
     try clear c7b0
     try clear c7b1
     try clear c8
     try clear c8b0
     try clear c11
     try clear c16
     try clear c17
     try clear c22
     try clear c23
     try clear c33
     try clear c39
     try clear c40
     try clear hcz11_0
     try clear hcz11_1
     try clear hcz17_0
     try clear hcz17_1
     try clear hcz19_0
     try clear hcz19_1
     try clear hcz24_0
     try clear hcz24_1
     try clear hcz28_0
     try clear hcz28_1
     try clear hcz34_0
     try clear hcz34_1
     try clear hcz36_0
     try clear hcz36_1
     try clear hcz41_0
     try clear hcz41_1
     try clear hfz11_0
     try clear hfz11_1
     try clear hfz17_0
     try clear hfz17_1
     try clear hfz19_0
     try clear hfz19_1
     try clear hfz24_0
     try clear hfz24_1
     try clear hfz28_0
     try clear hfz28_1
     try clear hfz34_0
     try clear hfz34_1
     try clear hfz36_0
     try clear hfz36_1
     try clear hfz41_0
     try clear hfz41_1
     obtain ⟨x9_1, x10_1, rfl, rfl, HA, HK1, HO_4, HO_295001, HO_301001, HO_307001, BK294, BK300, BK306, HB⟩ := hrel
     cases gk with
     | zero => exact absurd HA.out (by simp [laws_FnCut.l0])
     | succ k1 =>
      have H := HA.out
      clear HA
      simp only [laws_FnCut.l0] at H
      by_cases c43 : x10_1 < (t288.length : Int)
      ·
       rw [if_pos c43] at H
       have c43b0 : decide (x10_1 < (t288.length : Int)) = true := decide_eq_true c43
       clear c43
       by_cases c44 : 0 ≤ x10_1
       ·
        rw [if_pos c44] at H
        have c44b0 : decide (0 ≤ x10_1) = true := decide_eq_true c44
        clear c44
        replace H := Option.bind_eq_some_iff.mp H
        obtain ⟨t314, A450, H⟩ := H
        replace H : ((laws_hasInt.f k1 t291 ((rd_T59 t288 x10_1).f2)).bind fun t316 => (if (t314 != t316) = true then (laws_FnCut.l0 k1 t291 t305 (wrap64 (x9_1 + 1)) (wrap64 (x10_1 + 1)) t287 t288 t301 t302) else (laws_FnCut.l0 k1 t291 t305 x9_1 (wrap64 (x10_1 + 1)) t287 t288 t301 t302))) = some r := H
        have A45 := Aside0.mk A450
        clear A450
        replace H := Option.bind_eq_some_iff.mp H
        obtain ⟨t316, A460, H⟩ := H
        replace H : (if (t314 != t316) = true then (laws_FnCut.l0 k1 t291 t305 (wrap64 (x9_1 + 1)) (wrap64 (x10_1 + 1)) t287 t288 t301 t302) else (laws_FnCut.l0 k1 t291 t305 x9_1 (wrap64 (x10_1 + 1)) t287 t288 t301 t302)) = some r := H
        have A46 := Aside0.mk A460
        clear A460
        by_cases c47 : (t314 != t316) = true
        ·
         rw [if_pos c47] at H
         have c47b0 : (t314 != t316) = true := c47
         (try (have c47b1 : decide (t314 = t316) = false := by simpa using c47))
         (try (have c47b2 : (t314 == t316) = false := by simpa using c47))
         (try (have c47b3 : ¬ (t314 = t316) := by simpa using c47))
         clear c47
         have H' := Aside0.mk H
         clear H
         have hnb48 := NB294_300.out
         have hnc48 := NB300_294.out
         have hnb49 := NB294_306.out
         have hnc49 := NB306_294.out
         have hcz50_0 : wr.cell? ⟨gb294, 0, none⟩ = some (.int .i64 t287) := (blk_cell BK294.out 0).trans rfl
         have hcz50_1 : wr.cell? ⟨gb294, 1, none⟩ = some (.slice Ao29 t288.length co29) := (blk_cell BK294.out 1).trans rfl
         have hfz50_0 := blk_frozen BK294.out 0
         have hfz50_1 := blk_frozen BK294.out 1
         try go_wp2
         have n0_ := Aside0.mk (Kd.R_drew HO_4.out)
         have n1_ := Aside0.mk (Kd.R_drew HO_295001.out)
         have n2_ := Aside0.mk (Kd.R_drew HO_301001.out)
         have n3_ := Aside0.mk (Kd.R_drew HO_307001.out)
         have n4_ := Aside0.mk (blk_drew BK294.out)
         have n5_ := Aside0.mk (blk_drew BK300.out)
         have n6_ := Aside0.mk (blk_drew BK306.out)
         have n7_ := Aside0.mk (below_drew1 HB.out)
         clear HO_4
         clear HO_295001
         clear HO_301001
         clear HO_307001
         clear BK294
         clear BK300
         clear BK306
         clear HB
         have HO_4 := n0_
         have HO_295001 := n1_
         have HO_301001 := n2_
         have HO_307001 := n3_
         have BK294 := n4_
         have BK300 := n5_
         have BK306 := n6_
         have HB := n7_
         clear n0_ n1_ n2_ n3_ n4_ n5_ n6_ n7_
         have p313 : 0 ≤ (x10_1 : Int) := of_decide_eq_true zq3
         have q313 : x10_1 < (t288.length : Int) := of_decide_eq_true zq3
         obtain ⟨ad313, e313, hx313_0, hx313_1, hx313_2, hx313_3⟩ := at_T59 (Kd.R_reads' HO_295001.out).2.2 x10_1 p313 q313
         cases e313
         replace p313 := eq_true p313
         replace q313 := eq_true q313
         have p315 : 0 ≤ (x10_1 : Int) := of_decide_eq_true zq3
         have q315 : x10_1 < (t288.length : Int) := of_decide_eq_true zq3
         obtain ⟨ad315, e315, hx315_0, hx315_1, hx315_2, hx315_3⟩ := at_T59 (Kd.R_reads' HO_295001.out).2.2 x10_1 p315 q315
         obtain rfl : ad313 = ad315 := (by injection e315)
         replace p315 := eq_true p315
         replace q315 := eq_true q315
         refine start_ (n := 17) (S := fun w' => w'.cell? ⟨gb294, 0, none⟩ = some (.int .i64 t287) ∧ w'.cell? ⟨gb294, 1, none⟩ = some (.slice (some ad313) t288.length co29) ∧ w'.cell? (ad313.add ((x10_1).toNat * 4)) = some (.int .i64 ((rd_T59 t288 x10_1).f0)) ∧ w'.cell? ⟨(ad313.add ((x10_1).toNat * 4)).block, (ad313.add ((x10_1).toNat * 4)).off + 1, none⟩ = some (.int .i64 ((rd_T59 t288 x10_1).f1)) ∧ w'.cell? ⟨(ad313.add ((x10_1).toNat * 4)).block, (ad313.add ((x10_1).toNat * 4)).off + 2, none⟩ = some (.int .i64 ((rd_T59 t288 x10_1).f2)) ∧ w'.cell? ⟨(ad313.add ((x10_1).toNat * 4)).block, (ad313.add ((x10_1).toNat * 4)).off + 3, none⟩ = some (.string ((rd_T59 t288 x10_1).f3)) ∧ w'.cell? (ad313.add ((x10_1).toNat * 4)) = some (.int .i64 ((rd_T59 t288 x10_1).f0)) ∧ w'.cell? ⟨(ad313.add ((x10_1).toNat * 4)).block, (ad313.add ((x10_1).toNat * 4)).off + 1, none⟩ = some (.int .i64 ((rd_T59 t288 x10_1).f1)) ∧ w'.cell? ⟨(ad313.add ((x10_1).toNat * 4)).block, (ad313.add ((x10_1).toNat * 4)).off + 2, none⟩ = some (.int .i64 ((rd_T59 t288 x10_1).f2)) ∧ w'.cell? ⟨(ad313.add ((x10_1).toNat * 4)).block, (ad313.add ((x10_1).toNat * 4)).off + 3, none⟩ = some (.string ((rd_T59 t288 x10_1).f3))) (ds := []) #[ff,ff,ff,ff,ff,ff,ff,ff,ff,ff,ff,ff,ff,ff,ff,ff,ff] (by kernel_rfl) rfl rfl ⟨(blk_cell BK294.out 0).trans rfl, (blk_cell BK294.out 1).trans rfl, hx313_0, hx313_1, hx313_2, hx313_3, hx315_0, hx315_1, hx315_2, hx315_3⟩ (fun hHeld => ?_); refine with_tabW laws_FnCut.tab14 laws_FnCut.bits14 (fun HT_ HW_ => ?_)
         generalize wr.drew = w51 at HO_4 HO_295001 HO_301001 HO_307001 BK294 BK300 BK306 HB hx313_0 hx313_1 hx313_2 hx313_3 hx315_0 hx315_1 hx315_2 hx315_3 hHeld ⊢
         refine pure_ (i := 0) (N := some 44) (v := ?_) (a' := ?_) #[tt,ff,ff,ff,ff,ff,ff,ff,ff,ff,ff,ff,ff,ff,ff,ff,ff] rfl rfl (any_of HT_.out (by kernel_rfl)) (fun _ _ _ h => h) (Or.inl ⟨by rfl, ?_⟩) ?_ ?_
         rotate_left
         exact zq238
         rotate_left
         exact zq239
         refine pure_ (i := 1) (N := some 45) (v := ?_) (a' := ?_) #[tt,tt,ff,ff,ff,ff,ff,ff,ff,ff,ff,ff,ff,ff,ff,ff,ff] rfl rfl (any_of HT_.out (by kernel_rfl)) (fun _ _ _ h => h) (Or.inl ⟨by rfl, ?_⟩) ?_ ?_
         rotate_left
         exact zq238
         rotate_left
         exact zq239
         refine pure_ (i := 3) (N := some 47) (v := ?_) (a' := ?_) #[tt,tt,ff,tt,ff,ff,ff,ff,ff,ff,ff,ff,ff,ff,ff,ff,ff] rfl rfl (any_of HT_.out (by kernel_rfl)) (fun _ _ _ h => h) (Or.inl ⟨by rfl, ?_⟩) ?_ ?_
         rotate_left
         exact zq238
         rotate_left
         exact zq239
         refine pure_ (i := 8) (N := some 52) (v := ?_) (a' := ?_) #[tt,tt,ff,tt,ff,ff,ff,ff,tt,ff,ff,ff,ff,ff,ff,ff,ff] rfl rfl (any_of HT_.out (by kernel_rfl)) (fun _ _ _ h => h) (Or.inl ⟨by rfl, ?_⟩) ?_ ?_
         rotate_left
         exact zq238
         rotate_left
         exact zq239
         refine pure_ (i := 9) (N := some 53) (v := ?_) (a' := ?_) #[tt,tt,ff,tt,ff,ff,ff,ff,tt,tt,ff,ff,ff,ff,ff,ff,ff] rfl rfl (any_of HT_.out (by kernel_rfl)) (fun _ _ _ h => h) (Or.inl ⟨by rfl, ?_⟩) ?_ ?_
         rotate_left
         exact zq238
         rotate_left
         exact zq239
         refine pure_ (i := 11) (N := some 55) (v := ?_) (a' := ?_) #[tt,tt,ff,tt,ff,ff,ff,ff,tt,tt,ff,tt,ff,ff,ff,ff,ff] rfl rfl (any_of HT_.out (by kernel_rfl)) (fun _ _ _ h => h) (Or.inl ⟨by rfl, ?_⟩) ?_ ?_
         rotate_left
         exact zq238
         rotate_left
         exact zq239
         refine take_ (i := 2) (N := some 46) (v := ?_) (a' := ?_) #[tt,tt,tt,tt,ff,ff,ff,ff,tt,tt,ff,tt,ff,ff,ff,ff,ff] rfl rfl (take_ofW HT_.out HW_.out (by kernel_rfl)) (fun _ _ _ h => h) (Or.inl ⟨by rfl, ?_⟩) hHeld ?_ ?_
         rotate_left
         exact zq241
         rotate_left
         exact zq239
         refine pure_ (i := 4) (N := some 48) (v := ?_) (a' := ?_) #[tt,tt,tt,tt,tt,ff,ff,ff,tt,tt,ff,tt,ff,ff,ff,ff,ff] rfl rfl (any_of HT_.out (by kernel_rfl)) (fun _ _ _ h => h) (Or.inl ⟨by rfl, ?_⟩) ?_ ?_
         rotate_left
         exact zq238
         rotate_left
         exact zq239
         refine pure_ (i := 5) (N := some 49) (v := ?_) (a' := ?_) #[tt,tt,tt,tt,tt,tt,ff,ff,tt,tt,ff,tt,ff,ff,ff,ff,ff] rfl rfl (any_of HT_.out (by kernel_rfl)) (fun _ _ _ h => h) (Or.inl ⟨by rfl, ?_⟩) ?_ ?_
         rotate_left
         exact zq238
         rotate_left
         exact zq239
         refine take_ (i := 6) (N := some 50) (v := ?_) (a' := ?_) #[tt,tt,tt,tt,tt,tt,tt,ff,tt,tt,ff,tt,ff,ff,ff,ff,ff] rfl rfl (take_ofW HT_.out HW_.out (by kernel_rfl)) (fun _ _ _ h => h) (Or.inl ⟨by rfl, ?_⟩) hHeld ?_ ?_
         rotate_left
         exact zq241
         rotate_left
         exact zq239
         refine take_ (i := 10) (N := some 54) (v := ?_) (a' := ?_) #[tt,tt,tt,tt,tt,tt,tt,ff,tt,tt,tt,tt,ff,ff,ff,ff,ff] rfl rfl (take_ofW HT_.out HW_.out (by kernel_rfl)) (fun _ _ _ h => h) (Or.inl ⟨by rfl, ?_⟩) hHeld ?_ ?_
         rotate_left
         exact zq241
         rotate_left
         exact zq239
         refine pure_ (i := 12) (N := some 56) (v := ?_) (a' := ?_) #[tt,tt,tt,tt,tt,tt,tt,ff,tt,tt,tt,tt,tt,ff,ff,ff,ff] rfl rfl (any_of HT_.out (by kernel_rfl)) (fun _ _ _ h => h) (Or.inl ⟨by rfl, ?_⟩) ?_ ?_
         rotate_left
         exact zq238
         rotate_left
         exact zq239
         refine pure_ (i := 13) (N := some 57) (v := ?_) (a' := ?_) #[tt,tt,tt,tt,tt,tt,tt,ff,tt,tt,tt,tt,tt,tt,ff,ff,ff] rfl rfl (any_of HT_.out (by kernel_rfl)) (fun _ _ _ h => h) (Or.inl ⟨by rfl, ?_⟩) ?_ ?_
         rotate_left
         exact zq238
         rotate_left
         exact zq239
         refine take_ (i := 14) (N := some 58) (v := ?_) (a' := ?_) #[tt,tt,tt,tt,tt,tt,tt,ff,tt,tt,tt,tt,tt,tt,tt,ff,ff] rfl rfl (take_ofW HT_.out HW_.out (by kernel_rfl)) (fun _ _ _ h => h) (Or.inl ⟨by rfl, ?_⟩) hHeld ?_ ?_
         rotate_left
         exact zq241
         rotate_left
         exact zq239
         refine one_ (i := 7) (N := some 51) #[tt,tt,tt,tt,tt,tt,tt,tt,tt,tt,tt,tt,tt,tt,tt,ff,ff] rfl rfl (one_of HT_.out (by kernel_rfl)) (by decide) (fun K hK => ?_)
         refine goes_ Try.func51 (by kernel_rfl) rfl #[.slice Ao30 t291.length co30, .int .i64 ((rd_T59 t288 x10_1).f1)] (by rfl) rfl rfl zq12 ?_
         with_reducible refine (laws_hasInt.calls k1 _ _ t291 ((rd_T59 t288 x10_1).f1) t314 _ ?side1 ?side2 A45.out).mono ?_
         (case side1 => exact zq58)
         (case side2 => exact zq59)
         rintro e w' ⟨rfl, ⟨nd, rfl⟩⟩
         refine ⟨_, rfl, ?_⟩
         refine hK.out _ _ ⟨(blk_cell BK294.out 0).trans rfl, (blk_cell BK294.out 1).trans rfl, hHeld.2.2.1, hHeld.2.2.2.1, hHeld.2.2.2.2.1, hHeld.2.2.2.2.2.1, hHeld.2.2.2.2.2.2.1, hHeld.2.2.2.2.2.2.2.1, hHeld.2.2.2.2.2.2.2.2.1, hHeld.2.2.2.2.2.2.2.2.2⟩ (fun hHeld => ?_)
         clear hK K
         refine norm_ (a' := ?_) ?_ ?_
         rotate_left
         ·
          show Act.put _ (some 51) _ = _
          simp only [Act.put, List.setIfInBounds_toArray, List.set_cons_zero, List.set_cons_succ, i64_w, i32_w]
          rfl
         refine one_ (i := 15) (N := some 59) #[tt,tt,tt,tt,tt,tt,tt,tt,tt,tt,tt,tt,tt,tt,tt,tt,ff] rfl rfl (one_of HT_.out (by kernel_rfl)) (by decide) (fun K hK => ?_)
         refine goes_ Try.func51 (by kernel_rfl) rfl #[.slice Ao30 t291.length co30, .int .i64 ((rd_T59 t288 x10_1).f2)] (by rfl) rfl rfl zq12 ?_
         with_reducible refine (laws_hasInt.calls k1 _ _ t291 ((rd_T59 t288 x10_1).f2) t316 _ ?side1 ?side2 A46.out).mono ?_
         (case side1 => exact zq58)
         (case side2 => exact zq59)
         rintro e w' ⟨rfl, ⟨nd, rfl⟩⟩
         refine ⟨_, rfl, ?_⟩
         refine hK.out _ _ ⟨(blk_cell BK294.out 0).trans rfl, (blk_cell BK294.out 1).trans rfl, hHeld.2.2.1, hHeld.2.2.2.1, hHeld.2.2.2.2.1, hHeld.2.2.2.2.2.1, hHeld.2.2.2.2.2.2.1, hHeld.2.2.2.2.2.2.2.1, hHeld.2.2.2.2.2.2.2.2.1, hHeld.2.2.2.2.2.2.2.2.2⟩ (fun hHeld => ?_)
         clear hK K
         refine norm_ (a' := ?_) ?_ ?_
         rotate_left
         ·
          show Act.put _ (some 59) _ = _
          simp only [Act.put, List.setIfInBounds_toArray, List.set_cons_zero, List.set_cons_succ, i64_w, i32_w]
          rfl
         refine pure_ (i := 16) (N := some 60) (v := ?_) (a' := ?_) #[tt,tt,tt,tt,tt,tt,tt,tt,tt,tt,tt,tt,tt,tt,tt,tt,tt] rfl rfl (any_of HT_.out (by kernel_rfl)) (fun _ _ _ h => h) (Or.inl ⟨by rfl, ?_⟩) ?_ ?_
         rotate_left
         exact zq238
         rotate_left
         exact zq239
         refine done_ (done_of HT_.out (by kernel_rfl)) ?_
         try go_wp2
         go_roundg k1
         case measure => have := HK1.out; omega
         case rel => exact ⟨(wrap64 (x9_1 + 1)), (wrap64 (x10_1 + 1)), zq1, zq1, H', ⟨zq4⟩, ⟨zq60⟩, ⟨zq61⟩, ⟨zq62⟩, ⟨zq63⟩, ⟨zq43⟩, ⟨zq51⟩, ⟨zq64⟩, ⟨zq52⟩⟩
        ·
         rw [if_neg c47] at H
         have c47b0 : (t314 != t316) = false := by simpa using c47
         (try (have c47b1 : decide (t314 = t316) = true := by simpa using c47))
         (try (have c47b2 : (t314 == t316) = true := by simpa using c47))
         clear c47
         have H' := Aside0.mk H
         clear H
         have hnb52 := NB294_300.out
         have hnc52 := NB300_294.out
         have hnb53 := NB294_306.out
         have hnc53 := NB306_294.out
         have hcz54_0 : wr.cell? ⟨gb294, 0, none⟩ = some (.int .i64 t287) := (blk_cell BK294.out 0).trans rfl
         have hcz54_1 : wr.cell? ⟨gb294, 1, none⟩ = some (.slice Ao29 t288.length co29) := (blk_cell BK294.out 1).trans rfl
         have hfz54_0 := blk_frozen BK294.out 0
         have hfz54_1 := blk_frozen BK294.out 1
         try go_wp2
         have n0_ := Aside0.mk (Kd.R_drew HO_4.out)
         have n1_ := Aside0.mk (Kd.R_drew HO_295001.out)
         have n2_ := Aside0.mk (Kd.R_drew HO_301001.out)
         have n3_ := Aside0.mk (Kd.R_drew HO_307001.out)
         have n4_ := Aside0.mk (blk_drew BK294.out)
         have n5_ := Aside0.mk (blk_drew BK300.out)
         have n6_ := Aside0.mk (blk_drew BK306.out)
         have n7_ := Aside0.mk (below_drew1 HB.out)
         clear HO_4
         clear HO_295001
         clear HO_301001
         clear HO_307001
         clear BK294
         clear BK300
         clear BK306
         clear HB
         have HO_4 := n0_
         have HO_295001 := n1_
         have HO_301001 := n2_
         have HO_307001 := n3_
         have BK294 := n4_
         have BK300 := n5_
         have BK306 := n6_
         have HB := n7_
         clear n0_ n1_ n2_ n3_ n4_ n5_ n6_ n7_
         have p313 : 0 ≤ (x10_1 : Int) := of_decide_eq_true zq3
         have q313 : x10_1 < (t288.length : Int) := of_decide_eq_true zq3
         obtain ⟨ad313, e313, hx313_0, hx313_1, hx313_2, hx313_3⟩ := at_T59 (Kd.R_reads' HO_295001.out).2.2 x10_1 p313 q313
         cases e313
         replace p313 := eq_true p313
         replace q313 := eq_true q313
         have p315 : 0 ≤ (x10_1 : Int) := of_decide_eq_true zq3
         have q315 : x10_1 < (t288.length : Int) := of_decide_eq_true zq3
         obtain ⟨ad315, e315, hx315_0, hx315_1, hx315_2, hx315_3⟩ := at_T59 (Kd.R_reads' HO_295001.out).2.2 x10_1 p315 q315
         obtain rfl : ad313 = ad315 := (by injection e315)
         replace p315 := eq_true p315
         replace q315 := eq_true q315
         refine start_ (n := 17) (S := fun w' => w'.cell? ⟨gb294, 0, none⟩ = some (.int .i64 t287) ∧ w'.cell? ⟨gb294, 1, none⟩ = some (.slice (some ad313) t288.length co29) ∧ w'.cell? (ad313.add ((x10_1).toNat * 4)) = some (.int .i64 ((rd_T59 t288 x10_1).f0)) ∧ w'.cell? ⟨(ad313.add ((x10_1).toNat * 4)).block, (ad313.add ((x10_1).toNat * 4)).off + 1, none⟩ = some (.int .i64 ((rd_T59 t288 x10_1).f1)) ∧ w'.cell? ⟨(ad313.add ((x10_1).toNat * 4)).block, (ad313.add ((x10_1).toNat * 4)).off + 2, none⟩ = some (.int .i64 ((rd_T59 t288 x10_1).f2)) ∧ w'.cell? ⟨(ad313.add ((x10_1).toNat * 4)).block, (ad313.add ((x10_1).toNat * 4)).off + 3, none⟩ = some (.string ((rd_T59 t288 x10_1).f3)) ∧ w'.cell? (ad313.add ((x10_1).toNat * 4)) = some (.int .i64 ((rd_T59 t288 x10_1).f0)) ∧ w'.cell? ⟨(ad313.add ((x10_1).toNat * 4)).block, (ad313.add ((x10_1).toNat * 4)).off + 1, none⟩ = some (.int .i64 ((rd_T59 t288 x10_1).f1)) ∧ w'.cell? ⟨(ad313.add ((x10_1).toNat * 4)).block, (ad313.add ((x10_1).toNat * 4)).off + 2, none⟩ = some (.int .i64 ((rd_T59 t288 x10_1).f2)) ∧ w'.cell? ⟨(ad313.add ((x10_1).toNat * 4)).block, (ad313.add ((x10_1).toNat * 4)).off + 3, none⟩ = some (.string ((rd_T59 t288 x10_1).f3))) (ds := []) #[ff,ff,ff,ff,ff,ff,ff,ff,ff,ff,ff,ff,ff,ff,ff,ff,ff] (by kernel_rfl) rfl rfl ⟨(blk_cell BK294.out 0).trans rfl, (blk_cell BK294.out 1).trans rfl, hx313_0, hx313_1, hx313_2, hx313_3, hx315_0, hx315_1, hx315_2, hx315_3⟩ (fun hHeld => ?_); refine with_tabW laws_FnCut.tab14 laws_FnCut.bits14 (fun HT_ HW_ => ?_)
         generalize wr.drew = w55 at HO_4 HO_295001 HO_301001 HO_307001 BK294 BK300 BK306 HB hx313_0 hx313_1 hx313_2 hx313_3 hx315_0 hx315_1 hx315_2 hx315_3 hHeld ⊢
         refine pure_ (i := 0) (N := some 44) (v := ?_) (a' := ?_) #[tt,ff,ff,ff,ff,ff,ff,ff,ff,ff,ff,ff,ff,ff,ff,ff,ff] rfl rfl (any_of HT_.out (by kernel_rfl)) (fun _ _ _ h => h) (Or.inl ⟨by rfl, ?_⟩) ?_ ?_
         rotate_left
         exact zq238
         rotate_left
         exact zq239
         refine pure_ (i := 1) (N := some 45) (v := ?_) (a' := ?_) #[tt,tt,ff,ff,ff,ff,ff,ff,ff,ff,ff,ff,ff,ff,ff,ff,ff] rfl rfl (any_of HT_.out (by kernel_rfl)) (fun _ _ _ h => h) (Or.inl ⟨by rfl, ?_⟩) ?_ ?_
         rotate_left
         exact zq238
         rotate_left
         exact zq239
         refine pure_ (i := 3) (N := some 47) (v := ?_) (a' := ?_) #[tt,tt,ff,tt,ff,ff,ff,ff,ff,ff,ff,ff,ff,ff,ff,ff,ff] rfl rfl (any_of HT_.out (by kernel_rfl)) (fun _ _ _ h => h) (Or.inl ⟨by rfl, ?_⟩) ?_ ?_
         rotate_left
         exact zq238
         rotate_left
         exact zq239
         refine pure_ (i := 8) (N := some 52) (v := ?_) (a' := ?_) #[tt,tt,ff,tt,ff,ff,ff,ff,tt,ff,ff,ff,ff,ff,ff,ff,ff] rfl rfl (any_of HT_.out (by kernel_rfl)) (fun _ _ _ h => h) (Or.inl ⟨by rfl, ?_⟩) ?_ ?_
         rotate_left
         exact zq238
         rotate_left
         exact zq239
         refine pure_ (i := 9) (N := some 53) (v := ?_) (a' := ?_) #[tt,tt,ff,tt,ff,ff,ff,ff,tt,tt,ff,ff,ff,ff,ff,ff,ff] rfl rfl (any_of HT_.out (by kernel_rfl)) (fun _ _ _ h => h) (Or.inl ⟨by rfl, ?_⟩) ?_ ?_
         rotate_left
         exact zq238
         rotate_left
         exact zq239
         refine pure_ (i := 11) (N := some 55) (v := ?_) (a' := ?_) #[tt,tt,ff,tt,ff,ff,ff,ff,tt,tt,ff,tt,ff,ff,ff,ff,ff] rfl rfl (any_of HT_.out (by kernel_rfl)) (fun _ _ _ h => h) (Or.inl ⟨by rfl, ?_⟩) ?_ ?_
         rotate_left
         exact zq238
         rotate_left
         exact zq239
         refine take_ (i := 2) (N := some 46) (v := ?_) (a' := ?_) #[tt,tt,tt,tt,ff,ff,ff,ff,tt,tt,ff,tt,ff,ff,ff,ff,ff] rfl rfl (take_ofW HT_.out HW_.out (by kernel_rfl)) (fun _ _ _ h => h) (Or.inl ⟨by rfl, ?_⟩) hHeld ?_ ?_
         rotate_left
         exact zq241
         rotate_left
         exact zq239
         refine pure_ (i := 4) (N := some 48) (v := ?_) (a' := ?_) #[tt,tt,tt,tt,tt,ff,ff,ff,tt,tt,ff,tt,ff,ff,ff,ff,ff] rfl rfl (any_of HT_.out (by kernel_rfl)) (fun _ _ _ h => h) (Or.inl ⟨by rfl, ?_⟩) ?_ ?_
         rotate_left
         exact zq238
         rotate_left
         exact zq239
         refine pure_ (i := 5) (N := some 49) (v := ?_) (a' := ?_) #[tt,tt,tt,tt,tt,tt,ff,ff,tt,tt,ff,tt,ff,ff,ff,ff,ff] rfl rfl (any_of HT_.out (by kernel_rfl)) (fun _ _ _ h => h) (Or.inl ⟨by rfl, ?_⟩) ?_ ?_
         rotate_left
         exact zq238
         rotate_left
         exact zq239
         refine take_ (i := 6) (N := some 50) (v := ?_) (a' := ?_) #[tt,tt,tt,tt,tt,tt,tt,ff,tt,tt,ff,tt,ff,ff,ff,ff,ff] rfl rfl (take_ofW HT_.out HW_.out (by kernel_rfl)) (fun _ _ _ h => h) (Or.inl ⟨by rfl, ?_⟩) hHeld ?_ ?_
         rotate_left
         exact zq241
         rotate_left
         exact zq239
         refine take_ (i := 10) (N := some 54) (v := ?_) (a' := ?_) #[tt,tt,tt,tt,tt,tt,tt,ff,tt,tt,tt,tt,ff,ff,ff,ff,ff] rfl rfl (take_ofW HT_.out HW_.out (by kernel_rfl)) (fun _ _ _ h => h) (Or.inl ⟨by rfl, ?_⟩) hHeld ?_ ?_
         rotate_left
         exact zq241
         rotate_left
         exact zq239
         refine pure_ (i := 12) (N := some 56) (v := ?_) (a' := ?_) #[tt,tt,tt,tt,tt,tt,tt,ff,tt,tt,tt,tt,tt,ff,ff,ff,ff] rfl rfl (any_of HT_.out (by kernel_rfl)) (fun _ _ _ h => h) (Or.inl ⟨by rfl, ?_⟩) ?_ ?_
         rotate_left
         exact zq238
         rotate_left
         exact zq239
         refine pure_ (i := 13) (N := some 57) (v := ?_) (a' := ?_) #[tt,tt,tt,tt,tt,tt,tt,ff,tt,tt,tt,tt,tt,tt,ff,ff,ff] rfl rfl (any_of HT_.out (by kernel_rfl)) (fun _ _ _ h => h) (Or.inl ⟨by rfl, ?_⟩) ?_ ?_
         rotate_left
         exact zq238
         rotate_left
         exact zq239
         refine take_ (i := 14) (N := some 58) (v := ?_) (a' := ?_) #[tt,tt,tt,tt,tt,tt,tt,ff,tt,tt,tt,tt,tt,tt,tt,ff,ff] rfl rfl (take_ofW HT_.out HW_.out (by kernel_rfl)) (fun _ _ _ h => h) (Or.inl ⟨by rfl, ?_⟩) hHeld ?_ ?_
         rotate_left
         exact zq241
         rotate_left
         exact zq239
         refine one_ (i := 7) (N := some 51) #[tt,tt,tt,tt,tt,tt,tt,tt,tt,tt,tt,tt,tt,tt,tt,ff,ff] rfl rfl (one_of HT_.out (by kernel_rfl)) (by decide) (fun K hK => ?_)
         refine goes_ Try.func51 (by kernel_rfl) rfl #[.slice Ao30 t291.length co30, .int .i64 ((rd_T59 t288 x10_1).f1)] (by rfl) rfl rfl zq12 ?_
         with_reducible refine (laws_hasInt.calls k1 _ _ t291 ((rd_T59 t288 x10_1).f1) t314 _ ?side1 ?side2 A45.out).mono ?_
         (case side1 => exact zq58)
         (case side2 => exact zq59)
         rintro e w' ⟨rfl, ⟨nd, rfl⟩⟩
         refine ⟨_, rfl, ?_⟩
         refine hK.out _ _ ⟨(blk_cell BK294.out 0).trans rfl, (blk_cell BK294.out 1).trans rfl, hHeld.2.2.1, hHeld.2.2.2.1, hHeld.2.2.2.2.1, hHeld.2.2.2.2.2.1, hHeld.2.2.2.2.2.2.1, hHeld.2.2.2.2.2.2.2.1, hHeld.2.2.2.2.2.2.2.2.1, hHeld.2.2.2.2.2.2.2.2.2⟩ (fun hHeld => ?_)
         clear hK K
         refine norm_ (a' := ?_) ?_ ?_
         rotate_left
         ·
          show Act.put _ (some 51) _ = _
          simp only [Act.put, List.setIfInBounds_toArray, List.set_cons_zero, List.set_cons_succ, i64_w, i32_w]
          rfl
         refine one_ (i := 15) (N := some 59) #[tt,tt,tt,tt,tt,tt,tt,tt,tt,tt,tt,tt,tt,tt,tt,tt,ff] rfl rfl (one_of HT_.out (by kernel_rfl)) (by decide) (fun K hK => ?_)
         refine goes_ Try.func51 (by kernel_rfl) rfl #[.slice Ao30 t291.length co30, .int .i64 ((rd_T59 t288 x10_1).f2)] (by rfl) rfl rfl zq12 ?_
         with_reducible refine (laws_hasInt.calls k1 _ _ t291 ((rd_T59 t288 x10_1).f2) t316 _ ?side1 ?side2 A46.out).mono ?_
         (case side1 => exact zq58)
         (case side2 => exact zq59)
         rintro e w' ⟨rfl, ⟨nd, rfl⟩⟩
         refine ⟨_, rfl, ?_⟩
         refine hK.out _ _ ⟨(blk_cell BK294.out 0).trans rfl, (blk_cell BK294.out 1).trans rfl, hHeld.2.2.1, hHeld.2.2.2.1, hHeld.2.2.2.2.1, hHeld.2.2.2.2.2.1, hHeld.2.2.2.2.2.2.1, hHeld.2.2.2.2.2.2.2.1, hHeld.2.2.2.2.2.2.2.2.1, hHeld.2.2.2.2.2.2.2.2.2⟩ (fun hHeld => ?_)
         clear hK K
         refine norm_ (a' := ?_) ?_ ?_
         rotate_left
         ·
          show Act.put _ (some 59) _ = _
          simp only [Act.put, List.setIfInBounds_toArray, List.set_cons_zero, List.set_cons_succ, i64_w, i32_w]
          rfl
         refine pure_ (i := 16) (N := some 60) (v := ?_) (a' := ?_) #[tt,tt,tt,tt,tt,tt,tt,tt,tt,tt,tt,tt,tt,tt,tt,tt,tt] rfl rfl (any_of HT_.out (by kernel_rfl)) (fun _ _ _ h => h) (Or.inl ⟨by rfl, ?_⟩) ?_ ?_
         rotate_left
         exact zq238
         rotate_left
         exact zq239
         refine done_ (done_of HT_.out (by kernel_rfl)) ?_
         try go_wp2
         go_roundg k1
         case measure => have := HK1.out; omega
         case rel => exact ⟨(x9_1), (wrap64 (x10_1 + 1)), zq1, zq1, H', ⟨zq4⟩, ⟨zq60⟩, ⟨zq61⟩, ⟨zq62⟩, ⟨zq63⟩, ⟨zq43⟩, ⟨zq51⟩, ⟨zq64⟩, ⟨zq52⟩⟩
       ·
        rw [if_neg c44] at H
        exact absurd H (by simp)
      ·
       rw [if_neg c43] at H
       have c43b0 : decide (x10_1 < (t288.length : Int)) = false := decide_eq_false c43
       clear c43
       replace H := Option.bind_eq_some_iff.mp H
       obtain ⟨⟨t307, t308, t311⟩, A560, H⟩ := H
       replace H : (if t305 = x9_1 then (if (t302.length : Int) = (wrap64 ((t288.length : Int) - t305)) then (if t311 = 0 then (some ((t308.length : Int) == (t302.length : Int))) else (some false)) else (some false)) else (some false)) = some r := H
       have A56 := Aside0.mk A560
       clear A560
       by_cases c57 : t305 = x9_1
       ·
        rw [if_pos c57] at H
        have c57b0 : (t305 == x9_1) = true := beq_iff_eq.mpr c57
        have c57b1 : (t305 != x9_1) = false := bne_eq_false_iff_eq.mpr c57
        clear c57
        by_cases c58 : (t302.length : Int) = (wrap64 ((t288.length : Int) - t305))
        ·
         rw [if_pos c58] at H
         have c58b0 : ((t302.length : Int) == (wrap64 ((t288.length : Int) - t305))) = true := beq_iff_eq.mpr c58
         have c58b1 : ((t302.length : Int) != (wrap64 ((t288.length : Int) - t305))) = false := bne_eq_false_iff_eq.mpr c58
         clear c58
         by_cases c59 : t311 = 0
         ·
          rw [if_pos c59] at H
          have c59b0 : (t311 == 0) = true := beq_iff_eq.mpr c59
          have c59b1 : (t311 != 0) = false := bne_eq_false_iff_eq.mpr c59
          clear c59
          obtain rfl := Option.some.inj H
          have hnb60 := NB294_300.out
          have hnc60 := NB300_294.out
          have hnb61 := NB294_306.out
          have hnc61 := NB306_294.out
          have hcz62_0 : wr.cell? ⟨gb294, 0, none⟩ = some (.int .i64 t287) := (blk_cell BK294.out 0).trans rfl
          have hcz62_1 : wr.cell? ⟨gb294, 1, none⟩ = some (.slice Ao29 t288.length co29) := (blk_cell BK294.out 1).trans rfl
          have hfz62_0 := blk_frozen BK294.out 0
          have hfz62_1 := blk_frozen BK294.out 1
          have hnb63 := NB306_300.out
          have hnc63 := NB300_306.out
          have hcz64_0 : wr.cell? ⟨gb306, 0, none⟩ = some (.int .i64 t301) := (blk_cell BK306.out 0).trans rfl
          have hcz64_1 : wr.cell? ⟨gb306, 1, none⟩ = some (.slice Ao42 t302.length co42) := (blk_cell BK306.out 1).trans rfl
          have hfz64_0 := blk_frozen BK306.out 0
          have hfz64_1 := blk_frozen BK306.out 1
          go_wp2_with (first | ((with_reducible refine gate_callee (f := 56) rfl ?_); refine goesL_ (some 66) rfl rfl Try.func56 (by kernel_rfl) rfl #[.agg #[.int .i64 t301, .slice Ao42 t302.length co42], .slice Ao30 t291.length co30] rfl zq12 ?_; (with_reducible refine (impl_Cutting.calls k1 t301 _ _ t302 _ _ t291 t307 t308 t311 _ ?side1 ?side2 ?side3 ?side4 A56.out).mono ?_); (case side1 => exact zq65); (case side2 => exact zq66); (case side3 => exact zq58); (case side4 => exact zq59); rintro e w65 ⟨v309, rfl, ho0, hb⟩; refine ⟨_, rfl, ?_⟩; have n0_ := Aside0.mk (Kd.R_below zq60 hb); have n1_ := Aside0.mk (Kd.R_elder' zq61 (Kd.R_base ho0) hb); have n2_ := Aside0.mk (Kd.R_elder' zq62 (Kd.R_base ho0) hb); have n3_ := Aside0.mk (Kd.R_elder' zq63 (Kd.R_base ho0) hb); have n4_ := Aside0.mk (Kd.R_lower (Kd.R_new' (Kd.R_new' (Kd.R_new' ho0 (Kd.R_lt zq61)) (Kd.R_lt zq62)) (Kd.R_lt zq63)) (below_size zq52)); have n5_ := Aside0.mk (blk_below (g := gb294) (o := .cells #[.int .i64 t287, .slice Ao29 t288.length co29] 57 (0, 0)) zq43 hb); have n6_ := Aside0.mk (blk_below (g := gb300) (o := .cells #[.int .i64 t295, .slice Ao35 t296.length co35] 57 (0, 0)) zq51 hb); have n7_ := Aside0.mk (blk_below (g := gb306) (o := .cells #[.int .i64 t301, .slice Ao42 t302.length co42] 57 (0, 0)) zq64 hb); have n8_ := Aside0.mk (below_step zq52 hb); clear HO_4; clear HO_295001; clear HO_301001; clear HO_307001; clear BK294; clear BK300; clear BK306; clear HB; have HO_4 := n0_; have HO_295001 := n1_; have HO_301001 := n2_; have HO_307001 := n3_; have HO310 := n4_; have BK294 := n5_; have BK300 := n6_; have BK306 := n7_; have HB := n8_; clear n0_ n1_ n2_ n3_ n4_ n5_ n6_ n7_ n8_; (try clear hb); (try clear hb2); (try clear hk); (try clear hi); (try clear ho0)) | ((with_reducible refine gate_dst (N := 11) rfl ?_); (try (refine gate_guard (by rfl) ?_; dsimp only)); refine box_event ?hg (N := 11) ?hd (cs := #[.int .i64 0, .slice none 0 0]) (t := 57) ?hr ?_; (case hd => rfl); (case hg => rfl); (case hr => exact zq5); intro gb312 hg w66 hbox hb; have n0_ := Aside0.mk (Kd.R_below zq60 hb); have n1_ := Aside0.mk (Kd.R_below zq61 hb); have n2_ := Aside0.mk (Kd.R_below zq62 hb); have n3_ := Aside0.mk (Kd.R_below zq63 hb); have n4_ := Aside0.mk (Kd.R_below zq67 hb); have n5_ := Aside0.mk (blk_below (g := gb294) (o := .cells #[.int .i64 t287, .slice Ao29 t288.length co29] 57 (0, 0)) zq43 hb); have n6_ := Aside0.mk (blk_below (g := gb300) (o := .cells #[.int .i64 t295, .slice Ao35 t296.length co35] 57 (0, 0)) zq51 hb); have n7_ := Aside0.mk (blk_below (g := gb306) (o := .cells #[.int .i64 t301, .slice Ao42 t302.length co42] 57 (0, 0)) zq64 hb); have n8_ := Aside0.mk (below_step zq52 hb); have n9_ := Aside0.mk (hbox); have n10_ := Aside0.mk ((zq186 : w.heap.size ≤ gb312)); have n11_ := Aside0.mk ((zq186 : w.heap.size ≤ gb312)); have n12_ := Aside0.mk ((zq182 : gb294 ≠ gb312)); have n13_ := Aside0.mk ((zq183 : gb312 ≠ gb294)); have n14_ := Aside0.mk ((zq184 : gb300 ≠ gb312)); have n15_ := Aside0.mk ((zq185 : gb312 ≠ gb300)); have n16_ := Aside0.mk ((zq187 : gb306 ≠ gb312)); have n17_ := Aside0.mk ((zq188 : gb312 ≠ gb306)); clear HO_4; clear HO_295001; clear HO_301001; clear HO_307001; clear HO310; clear BK294; clear BK300; clear BK306; clear HB; have HO_4 := n0_; have HO_295001 := n1_; have HO_301001 := n2_; have HO_307001 := n3_; have HO310 := n4_; have BK294 := n5_; have BK300 := n6_; have BK306 := n7_; have HB := n8_; have BK312 := n9_; have GW312 := n10_; have GE312 := n11_; have NB294_312 := n12_; have NB312_294 := n13_; have NB300_312 := n14_; have NB312_300 := n15_; have NB306_312 := n16_; have NB312_306 := n17_; clear n0_ n1_ n2_ n3_ n4_ n5_ n6_ n7_ n8_ n9_ n10_ n11_ n12_ n13_ n14_ n15_ n16_ n17_; clear hb hbox hg; have hnb67 := NB312_294.out; have hnc67 := NB294_312.out; have hnb68 := NB312_300.out; have hnc68 := NB300_312.out; have hnb69 := NB312_306.out; have hnc69 := NB306_312.out; have hcz70_0 : w66.cell? ⟨gb312, 0, none⟩ = some (.int .i64 0) := (blk_cell BK312.out 0).trans rfl; have hcz70_1 : w66.cell? ⟨gb312, 1, none⟩ = some (.slice none 0 0) := (blk_cell BK312.out 1).trans rfl; have hfz70_0 := blk_frozen BK312.out 0; have hfz70_1 := blk_frozen BK312.out 1; obtain ⟨Ao71, co71, eo71⟩ := Kd.R_slice HO310.out; subst eo71; have hcz72_0 : w66.cell? ⟨gb306, 0, none⟩ = some (.int .i64 t301) := (blk_cell BK306.out 0).trans rfl; have hcz72_1 : w66.cell? ⟨gb306, 1, none⟩ = some (.slice Ao42 t302.length co42) := (blk_cell BK306.out 1).trans rfl; have hfz72_0 := blk_frozen BK306.out 0; have hfz72_1 := blk_frozen BK306.out 1; have hcz73_0 : w66.cell? ⟨gb294, 0, none⟩ = some (.int .i64 t287) := (blk_cell BK294.out 0).trans rfl; have hcz73_1 : w66.cell? ⟨gb294, 1, none⟩ = some (.slice Ao29 t288.length co29) := (blk_cell BK294.out 1).trans rfl; have hfz73_0 := blk_frozen BK294.out 0; have hfz73_1 := blk_frozen BK294.out 1))
          go_ret
          exact ⟨zq8, zq68⟩
         ·
          rw [if_neg c59] at H
          have c59b0 : (t311 == 0) = false := beq_eq_false_iff_ne.mpr c59
          have c59b1 : (t311 != 0) = true := bne_iff_ne.mpr c59
          obtain rfl := Option.some.inj H
          have hnb74 := NB294_300.out
          have hnc74 := NB300_294.out
          have hnb75 := NB294_306.out
          have hnc75 := NB306_294.out
          have hcz76_0 : wr.cell? ⟨gb294, 0, none⟩ = some (.int .i64 t287) := (blk_cell BK294.out 0).trans rfl
          have hcz76_1 : wr.cell? ⟨gb294, 1, none⟩ = some (.slice Ao29 t288.length co29) := (blk_cell BK294.out 1).trans rfl
          have hfz76_0 := blk_frozen BK294.out 0
          have hfz76_1 := blk_frozen BK294.out 1
          have hnb77 := NB306_300.out
          have hnc77 := NB300_306.out
          have hcz78_0 : wr.cell? ⟨gb306, 0, none⟩ = some (.int .i64 t301) := (blk_cell BK306.out 0).trans rfl
          have hcz78_1 : wr.cell? ⟨gb306, 1, none⟩ = some (.slice Ao42 t302.length co42) := (blk_cell BK306.out 1).trans rfl
          have hfz78_0 := blk_frozen BK306.out 0
          have hfz78_1 := blk_frozen BK306.out 1
          go_wp2_with (first | ((with_reducible refine gate_callee (f := 56) rfl ?_); refine goesL_ (some 66) rfl rfl Try.func56 (by kernel_rfl) rfl #[.agg #[.int .i64 t301, .slice Ao42 t302.length co42], .slice Ao30 t291.length co30] rfl zq12 ?_; (with_reducible refine (impl_Cutting.calls k1 t301 _ _ t302 _ _ t291 t307 t308 t311 _ ?side1 ?side2 ?side3 ?side4 A56.out).mono ?_); (case side1 => exact zq65); (case side2 => exact zq66); (case side3 => exact zq58); (case side4 => exact zq59); rintro e w79 ⟨v309, rfl, ho0, hb⟩; refine ⟨_, rfl, ?_⟩; have n0_ := Aside0.mk (Kd.R_below zq60 hb); have n1_ := Aside0.mk (Kd.R_elder' zq61 (Kd.R_base ho0) hb); have n2_ := Aside0.mk (Kd.R_elder' zq62 (Kd.R_base ho0) hb); have n3_ := Aside0.mk (Kd.R_elder' zq63 (Kd.R_base ho0) hb); have n4_ := Aside0.mk (Kd.R_lower (Kd.R_new' (Kd.R_new' (Kd.R_new' ho0 (Kd.R_lt zq61)) (Kd.R_lt zq62)) (Kd.R_lt zq63)) (below_size zq52)); have n5_ := Aside0.mk (blk_below (g := gb294) (o := .cells #[.int .i64 t287, .slice Ao29 t288.length co29] 57 (0, 0)) zq43 hb); have n6_ := Aside0.mk (blk_below (g := gb300) (o := .cells #[.int .i64 t295, .slice Ao35 t296.length co35] 57 (0, 0)) zq51 hb); have n7_ := Aside0.mk (blk_below (g := gb306) (o := .cells #[.int .i64 t301, .slice Ao42 t302.length co42] 57 (0, 0)) zq64 hb); have n8_ := Aside0.mk (below_step zq52 hb); clear HO_4; clear HO_295001; clear HO_301001; clear HO_307001; clear BK294; clear BK300; clear BK306; clear HB; have HO_4 := n0_; have HO_295001 := n1_; have HO_301001 := n2_; have HO_307001 := n3_; have HO310 := n4_; have BK294 := n5_; have BK300 := n6_; have BK306 := n7_; have HB := n8_; clear n0_ n1_ n2_ n3_ n4_ n5_ n6_ n7_ n8_; (try clear hb); (try clear hb2); (try clear hk); (try clear hi); (try clear ho0)) | ((with_reducible refine gate_dst (N := 11) rfl ?_); (try (refine gate_guard (by rfl) ?_; dsimp only)); refine box_event ?hg (N := 11) ?hd (cs := #[.int .i64 0, .slice none 0 0]) (t := 57) ?hr ?_; (case hd => rfl); (case hg => rfl); (case hr => exact zq5); intro gb312 hg w80 hbox hb; have n0_ := Aside0.mk (Kd.R_below zq60 hb); have n1_ := Aside0.mk (Kd.R_below zq61 hb); have n2_ := Aside0.mk (Kd.R_below zq62 hb); have n3_ := Aside0.mk (Kd.R_below zq63 hb); have n4_ := Aside0.mk (Kd.R_below zq67 hb); have n5_ := Aside0.mk (blk_below (g := gb294) (o := .cells #[.int .i64 t287, .slice Ao29 t288.length co29] 57 (0, 0)) zq43 hb); have n6_ := Aside0.mk (blk_below (g := gb300) (o := .cells #[.int .i64 t295, .slice Ao35 t296.length co35] 57 (0, 0)) zq51 hb); have n7_ := Aside0.mk (blk_below (g := gb306) (o := .cells #[.int .i64 t301, .slice Ao42 t302.length co42] 57 (0, 0)) zq64 hb); have n8_ := Aside0.mk (below_step zq52 hb); have n9_ := Aside0.mk (hbox); have n10_ := Aside0.mk ((zq186 : w.heap.size ≤ gb312)); have n11_ := Aside0.mk ((zq186 : w.heap.size ≤ gb312)); have n12_ := Aside0.mk ((zq182 : gb294 ≠ gb312)); have n13_ := Aside0.mk ((zq183 : gb312 ≠ gb294)); have n14_ := Aside0.mk ((zq184 : gb300 ≠ gb312)); have n15_ := Aside0.mk ((zq185 : gb312 ≠ gb300)); have n16_ := Aside0.mk ((zq187 : gb306 ≠ gb312)); have n17_ := Aside0.mk ((zq188 : gb312 ≠ gb306)); clear HO_4; clear HO_295001; clear HO_301001; clear HO_307001; clear HO310; clear BK294; clear BK300; clear BK306; clear HB; have HO_4 := n0_; have HO_295001 := n1_; have HO_301001 := n2_; have HO_307001 := n3_; have HO310 := n4_; have BK294 := n5_; have BK300 := n6_; have BK306 := n7_; have HB := n8_; have BK312 := n9_; have GW312 := n10_; have GE312 := n11_; have NB294_312 := n12_; have NB312_294 := n13_; have NB300_312 := n14_; have NB312_300 := n15_; have NB306_312 := n16_; have NB312_306 := n17_; clear n0_ n1_ n2_ n3_ n4_ n5_ n6_ n7_ n8_ n9_ n10_ n11_ n12_ n13_ n14_ n15_ n16_ n17_; clear hb hbox hg; have hnb81 := NB312_294.out; have hnc81 := NB294_312.out; have hnb82 := NB312_300.out; have hnc82 := NB300_312.out; have hnb83 := NB312_306.out; have hnc83 := NB306_312.out; have hcz84_0 : w80.cell? ⟨gb312, 0, none⟩ = some (.int .i64 0) := (blk_cell BK312.out 0).trans rfl; have hcz84_1 : w80.cell? ⟨gb312, 1, none⟩ = some (.slice none 0 0) := (blk_cell BK312.out 1).trans rfl; have hfz84_0 := blk_frozen BK312.out 0; have hfz84_1 := blk_frozen BK312.out 1; obtain ⟨Ao85, co85, eo85⟩ := Kd.R_slice HO310.out; subst eo85; have hcz86_0 : w80.cell? ⟨gb306, 0, none⟩ = some (.int .i64 t301) := (blk_cell BK306.out 0).trans rfl; have hcz86_1 : w80.cell? ⟨gb306, 1, none⟩ = some (.slice Ao42 t302.length co42) := (blk_cell BK306.out 1).trans rfl; have hfz86_0 := blk_frozen BK306.out 0; have hfz86_1 := blk_frozen BK306.out 1; have hcz87_0 : w80.cell? ⟨gb294, 0, none⟩ = some (.int .i64 t287) := (blk_cell BK294.out 0).trans rfl; have hcz87_1 : w80.cell? ⟨gb294, 1, none⟩ = some (.slice Ao29 t288.length co29) := (blk_cell BK294.out 1).trans rfl; have hfz87_0 := blk_frozen BK294.out 0; have hfz87_1 := blk_frozen BK294.out 1))
          go_ret
          exact ⟨zq8, zq68⟩
        ·
         rw [if_neg c58] at H
         have c58b0 : ((t302.length : Int) == (wrap64 ((t288.length : Int) - t305))) = false := beq_eq_false_iff_ne.mpr c58
         have c58b1 : ((t302.length : Int) != (wrap64 ((t288.length : Int) - t305))) = true := bne_iff_ne.mpr c58
         obtain rfl := Option.some.inj H
         have hnb88 := NB294_300.out
         have hnc88 := NB300_294.out
         have hnb89 := NB294_306.out
         have hnc89 := NB306_294.out
         have hcz90_0 : wr.cell? ⟨gb294, 0, none⟩ = some (.int .i64 t287) := (blk_cell BK294.out 0).trans rfl
         have hcz90_1 : wr.cell? ⟨gb294, 1, none⟩ = some (.slice Ao29 t288.length co29) := (blk_cell BK294.out 1).trans rfl
         have hfz90_0 := blk_frozen BK294.out 0
         have hfz90_1 := blk_frozen BK294.out 1
         have hnb91 := NB306_300.out
         have hnc91 := NB300_306.out
         have hcz92_0 : wr.cell? ⟨gb306, 0, none⟩ = some (.int .i64 t301) := (blk_cell BK306.out 0).trans rfl
         have hcz92_1 : wr.cell? ⟨gb306, 1, none⟩ = some (.slice Ao42 t302.length co42) := (blk_cell BK306.out 1).trans rfl
         have hfz92_0 := blk_frozen BK306.out 0
         have hfz92_1 := blk_frozen BK306.out 1
         go_wp2_with (first | ((with_reducible refine gate_callee (f := 56) rfl ?_); refine goesL_ (some 66) rfl rfl Try.func56 (by kernel_rfl) rfl #[.agg #[.int .i64 t301, .slice Ao42 t302.length co42], .slice Ao30 t291.length co30] rfl zq12 ?_; (with_reducible refine (impl_Cutting.calls k1 t301 _ _ t302 _ _ t291 t307 t308 t311 _ ?side1 ?side2 ?side3 ?side4 A56.out).mono ?_); (case side1 => exact zq65); (case side2 => exact zq66); (case side3 => exact zq58); (case side4 => exact zq59); rintro e w93 ⟨v309, rfl, ho0, hb⟩; refine ⟨_, rfl, ?_⟩; have n0_ := Aside0.mk (Kd.R_below zq60 hb); have n1_ := Aside0.mk (Kd.R_elder' zq61 (Kd.R_base ho0) hb); have n2_ := Aside0.mk (Kd.R_elder' zq62 (Kd.R_base ho0) hb); have n3_ := Aside0.mk (Kd.R_elder' zq63 (Kd.R_base ho0) hb); have n4_ := Aside0.mk (Kd.R_lower (Kd.R_new' (Kd.R_new' (Kd.R_new' ho0 (Kd.R_lt zq61)) (Kd.R_lt zq62)) (Kd.R_lt zq63)) (below_size zq52)); have n5_ := Aside0.mk (blk_below (g := gb294) (o := .cells #[.int .i64 t287, .slice Ao29 t288.length co29] 57 (0, 0)) zq43 hb); have n6_ := Aside0.mk (blk_below (g := gb300) (o := .cells #[.int .i64 t295, .slice Ao35 t296.length co35] 57 (0, 0)) zq51 hb); have n7_ := Aside0.mk (blk_below (g := gb306) (o := .cells #[.int .i64 t301, .slice Ao42 t302.length co42] 57 (0, 0)) zq64 hb); have n8_ := Aside0.mk (below_step zq52 hb); clear HO_4; clear HO_295001; clear HO_301001; clear HO_307001; clear BK294; clear BK300; clear BK306; clear HB; have HO_4 := n0_; have HO_295001 := n1_; have HO_301001 := n2_; have HO_307001 := n3_; have HO310 := n4_; have BK294 := n5_; have BK300 := n6_; have BK306 := n7_; have HB := n8_; clear n0_ n1_ n2_ n3_ n4_ n5_ n6_ n7_ n8_; (try clear hb); (try clear hb2); (try clear hk); (try clear hi); (try clear ho0)) | ((with_reducible refine gate_dst (N := 11) rfl ?_); (try (refine gate_guard (by rfl) ?_; dsimp only)); refine box_event ?hg (N := 11) ?hd (cs := #[.int .i64 0, .slice none 0 0]) (t := 57) ?hr ?_; (case hd => rfl); (case hg => rfl); (case hr => exact zq5); intro gb312 hg w94 hbox hb; have n0_ := Aside0.mk (Kd.R_below zq60 hb); have n1_ := Aside0.mk (Kd.R_below zq61 hb); have n2_ := Aside0.mk (Kd.R_below zq62 hb); have n3_ := Aside0.mk (Kd.R_below zq63 hb); have n4_ := Aside0.mk (Kd.R_below zq67 hb); have n5_ := Aside0.mk (blk_below (g := gb294) (o := .cells #[.int .i64 t287, .slice Ao29 t288.length co29] 57 (0, 0)) zq43 hb); have n6_ := Aside0.mk (blk_below (g := gb300) (o := .cells #[.int .i64 t295, .slice Ao35 t296.length co35] 57 (0, 0)) zq51 hb); have n7_ := Aside0.mk (blk_below (g := gb306) (o := .cells #[.int .i64 t301, .slice Ao42 t302.length co42] 57 (0, 0)) zq64 hb); have n8_ := Aside0.mk (below_step zq52 hb); have n9_ := Aside0.mk (hbox); have n10_ := Aside0.mk ((zq186 : w.heap.size ≤ gb312)); have n11_ := Aside0.mk ((zq186 : w.heap.size ≤ gb312)); have n12_ := Aside0.mk ((zq182 : gb294 ≠ gb312)); have n13_ := Aside0.mk ((zq183 : gb312 ≠ gb294)); have n14_ := Aside0.mk ((zq184 : gb300 ≠ gb312)); have n15_ := Aside0.mk ((zq185 : gb312 ≠ gb300)); have n16_ := Aside0.mk ((zq187 : gb306 ≠ gb312)); have n17_ := Aside0.mk ((zq188 : gb312 ≠ gb306)); clear HO_4; clear HO_295001; clear HO_301001; clear HO_307001; clear HO310; clear BK294; clear BK300; clear BK306; clear HB; have HO_4 := n0_; have HO_295001 := n1_; have HO_301001 := n2_; have HO_307001 := n3_; have HO310 := n4_; have BK294 := n5_; have BK300 := n6_; have BK306 := n7_; have HB := n8_; have BK312 := n9_; have GW312 := n10_; have GE312 := n11_; have NB294_312 := n12_; have NB312_294 := n13_; have NB300_312 := n14_; have NB312_300 := n15_; have NB306_312 := n16_; have NB312_306 := n17_; clear n0_ n1_ n2_ n3_ n4_ n5_ n6_ n7_ n8_ n9_ n10_ n11_ n12_ n13_ n14_ n15_ n16_ n17_; clear hb hbox hg; have hnb95 := NB312_294.out; have hnc95 := NB294_312.out; have hnb96 := NB312_300.out; have hnc96 := NB300_312.out; have hnb97 := NB312_306.out; have hnc97 := NB306_312.out; have hcz98_0 : w94.cell? ⟨gb312, 0, none⟩ = some (.int .i64 0) := (blk_cell BK312.out 0).trans rfl; have hcz98_1 : w94.cell? ⟨gb312, 1, none⟩ = some (.slice none 0 0) := (blk_cell BK312.out 1).trans rfl; have hfz98_0 := blk_frozen BK312.out 0; have hfz98_1 := blk_frozen BK312.out 1; obtain ⟨Ao99, co99, eo99⟩ := Kd.R_slice HO310.out; subst eo99; have hcz100_0 : w94.cell? ⟨gb306, 0, none⟩ = some (.int .i64 t301) := (blk_cell BK306.out 0).trans rfl; have hcz100_1 : w94.cell? ⟨gb306, 1, none⟩ = some (.slice Ao42 t302.length co42) := (blk_cell BK306.out 1).trans rfl; have hfz100_0 := blk_frozen BK306.out 0; have hfz100_1 := blk_frozen BK306.out 1; have hcz101_0 : w94.cell? ⟨gb294, 0, none⟩ = some (.int .i64 t287) := (blk_cell BK294.out 0).trans rfl; have hcz101_1 : w94.cell? ⟨gb294, 1, none⟩ = some (.slice Ao29 t288.length co29) := (blk_cell BK294.out 1).trans rfl; have hfz101_0 := blk_frozen BK294.out 0; have hfz101_1 := blk_frozen BK294.out 1))
         go_ret
         exact ⟨zq8, zq68⟩
       ·
        rw [if_neg c57] at H
        have c57b0 : (t305 == x9_1) = false := beq_eq_false_iff_ne.mpr c57
        have c57b1 : (t305 != x9_1) = true := bne_iff_ne.mpr c57
        obtain rfl := Option.some.inj H
        have hnb102 := NB294_300.out
        have hnc102 := NB300_294.out
        have hnb103 := NB294_306.out
        have hnc103 := NB306_294.out
        have hcz104_0 : wr.cell? ⟨gb294, 0, none⟩ = some (.int .i64 t287) := (blk_cell BK294.out 0).trans rfl
        have hcz104_1 : wr.cell? ⟨gb294, 1, none⟩ = some (.slice Ao29 t288.length co29) := (blk_cell BK294.out 1).trans rfl
        have hfz104_0 := blk_frozen BK294.out 0
        have hfz104_1 := blk_frozen BK294.out 1
        have hnb105 := NB306_300.out
        have hnc105 := NB300_306.out
        have hcz106_0 : wr.cell? ⟨gb306, 0, none⟩ = some (.int .i64 t301) := (blk_cell BK306.out 0).trans rfl
        have hcz106_1 : wr.cell? ⟨gb306, 1, none⟩ = some (.slice Ao42 t302.length co42) := (blk_cell BK306.out 1).trans rfl
        have hfz106_0 := blk_frozen BK306.out 0
        have hfz106_1 := blk_frozen BK306.out 1
        go_wp2_with (first | ((with_reducible refine gate_callee (f := 56) rfl ?_); refine goesL_ (some 66) rfl rfl Try.func56 (by kernel_rfl) rfl #[.agg #[.int .i64 t301, .slice Ao42 t302.length co42], .slice Ao30 t291.length co30] rfl zq12 ?_; (with_reducible refine (impl_Cutting.calls k1 t301 _ _ t302 _ _ t291 t307 t308 t311 _ ?side1 ?side2 ?side3 ?side4 A56.out).mono ?_); (case side1 => exact zq65); (case side2 => exact zq66); (case side3 => exact zq58); (case side4 => exact zq59); rintro e w107 ⟨v309, rfl, ho0, hb⟩; refine ⟨_, rfl, ?_⟩; have n0_ := Aside0.mk (Kd.R_below zq60 hb); have n1_ := Aside0.mk (Kd.R_elder' zq61 (Kd.R_base ho0) hb); have n2_ := Aside0.mk (Kd.R_elder' zq62 (Kd.R_base ho0) hb); have n3_ := Aside0.mk (Kd.R_elder' zq63 (Kd.R_base ho0) hb); have n4_ := Aside0.mk (Kd.R_lower (Kd.R_new' (Kd.R_new' (Kd.R_new' ho0 (Kd.R_lt zq61)) (Kd.R_lt zq62)) (Kd.R_lt zq63)) (below_size zq52)); have n5_ := Aside0.mk (blk_below (g := gb294) (o := .cells #[.int .i64 t287, .slice Ao29 t288.length co29] 57 (0, 0)) zq43 hb); have n6_ := Aside0.mk (blk_below (g := gb300) (o := .cells #[.int .i64 t295, .slice Ao35 t296.length co35] 57 (0, 0)) zq51 hb); have n7_ := Aside0.mk (blk_below (g := gb306) (o := .cells #[.int .i64 t301, .slice Ao42 t302.length co42] 57 (0, 0)) zq64 hb); have n8_ := Aside0.mk (below_step zq52 hb); clear HO_4; clear HO_295001; clear HO_301001; clear HO_307001; clear BK294; clear BK300; clear BK306; clear HB; have HO_4 := n0_; have HO_295001 := n1_; have HO_301001 := n2_; have HO_307001 := n3_; have HO310 := n4_; have BK294 := n5_; have BK300 := n6_; have BK306 := n7_; have HB := n8_; clear n0_ n1_ n2_ n3_ n4_ n5_ n6_ n7_ n8_; (try clear hb); (try clear hb2); (try clear hk); (try clear hi); (try clear ho0)) | ((with_reducible refine gate_dst (N := 11) rfl ?_); (try (refine gate_guard (by rfl) ?_; dsimp only)); refine box_event ?hg (N := 11) ?hd (cs := #[.int .i64 0, .slice none 0 0]) (t := 57) ?hr ?_; (case hd => rfl); (case hg => rfl); (case hr => exact zq5); intro gb312 hg w108 hbox hb; have n0_ := Aside0.mk (Kd.R_below zq60 hb); have n1_ := Aside0.mk (Kd.R_below zq61 hb); have n2_ := Aside0.mk (Kd.R_below zq62 hb); have n3_ := Aside0.mk (Kd.R_below zq63 hb); have n4_ := Aside0.mk (Kd.R_below zq67 hb); have n5_ := Aside0.mk (blk_below (g := gb294) (o := .cells #[.int .i64 t287, .slice Ao29 t288.length co29] 57 (0, 0)) zq43 hb); have n6_ := Aside0.mk (blk_below (g := gb300) (o := .cells #[.int .i64 t295, .slice Ao35 t296.length co35] 57 (0, 0)) zq51 hb); have n7_ := Aside0.mk (blk_below (g := gb306) (o := .cells #[.int .i64 t301, .slice Ao42 t302.length co42] 57 (0, 0)) zq64 hb); have n8_ := Aside0.mk (below_step zq52 hb); have n9_ := Aside0.mk (hbox); have n10_ := Aside0.mk ((zq186 : w.heap.size ≤ gb312)); have n11_ := Aside0.mk ((zq186 : w.heap.size ≤ gb312)); have n12_ := Aside0.mk ((zq182 : gb294 ≠ gb312)); have n13_ := Aside0.mk ((zq183 : gb312 ≠ gb294)); have n14_ := Aside0.mk ((zq184 : gb300 ≠ gb312)); have n15_ := Aside0.mk ((zq185 : gb312 ≠ gb300)); have n16_ := Aside0.mk ((zq187 : gb306 ≠ gb312)); have n17_ := Aside0.mk ((zq188 : gb312 ≠ gb306)); clear HO_4; clear HO_295001; clear HO_301001; clear HO_307001; clear HO310; clear BK294; clear BK300; clear BK306; clear HB; have HO_4 := n0_; have HO_295001 := n1_; have HO_301001 := n2_; have HO_307001 := n3_; have HO310 := n4_; have BK294 := n5_; have BK300 := n6_; have BK306 := n7_; have HB := n8_; have BK312 := n9_; have GW312 := n10_; have GE312 := n11_; have NB294_312 := n12_; have NB312_294 := n13_; have NB300_312 := n14_; have NB312_300 := n15_; have NB306_312 := n16_; have NB312_306 := n17_; clear n0_ n1_ n2_ n3_ n4_ n5_ n6_ n7_ n8_ n9_ n10_ n11_ n12_ n13_ n14_ n15_ n16_ n17_; clear hb hbox hg; have hnb109 := NB312_294.out; have hnc109 := NB294_312.out; have hnb110 := NB312_300.out; have hnc110 := NB300_312.out; have hnb111 := NB312_306.out; have hnc111 := NB306_312.out; have hcz112_0 : w108.cell? ⟨gb312, 0, none⟩ = some (.int .i64 0) := (blk_cell BK312.out 0).trans rfl; have hcz112_1 : w108.cell? ⟨gb312, 1, none⟩ = some (.slice none 0 0) := (blk_cell BK312.out 1).trans rfl; have hfz112_0 := blk_frozen BK312.out 0; have hfz112_1 := blk_frozen BK312.out 1; obtain ⟨Ao113, co113, eo113⟩ := Kd.R_slice HO310.out; subst eo113))
        go_ret
        exact ⟨zq8, zq68⟩
  ·
   rw [if_neg c7] at H
   have c7b0 : (t305 == t299) = false := beq_eq_false_iff_ne.mpr c7
   have c7b1 : (t305 != t299) = true := bne_iff_ne.mpr c7
   obtain rfl := Option.some.inj H
   go_enter Try.func11, Try.ntmps11
   go_wp2_with (first | ((with_reducible refine gate_callee (f := 17) rfl ?_); refine goesL_ (some 14) rfl rfl Try.func17 (by kernel_rfl) rfl #[.slice A0 l0.length c0] rfl zq12 ?_; (with_reducible refine (laws_big.calls _ _ l0 false _ ?side1 ?side2 A2.out).mono ?_); (case side1 => exact zq13); (case side2 => exact zq14); rintro e w' ⟨rfl, ⟨nd, rfl⟩⟩; refine ⟨_, rfl, ?_⟩) | ((with_reducible refine gate_callee (f := 54) rfl ?_); refine goesL_ (some 17) rfl rfl Try.func54 (by kernel_rfl) rfl #[.slice A0 l0.length c0] rfl zq12 ?_; (with_reducible refine (spec_DrawCutting.calls k _ _ l0 t287 t288 t291 _ ?side1 ?side2 A4.out).mono ?_); (case side1 => exact zq13); (case side2 => exact zq14); rintro e w114 ⟨v289, v292, rfl, ho0, ho1, hb⟩; refine ⟨_, rfl, ?_⟩; have n0_ := Aside0.mk (Kd.R_lower ho0 (below_size zq6)); have n1_ := Aside0.mk (Kd.R_lower ho1 (below_size zq6)); have n2_ := Aside0.mk (below_step zq6 hb); clear HB; have HO290 := n0_; have HO293 := n1_; have HB := n2_; clear n0_ n1_ n2_; (try clear hb); (try clear hb2); (try clear hk); (try clear hi); (try clear ho0); (try clear ho1)) | ((with_reducible refine gate_dst (N := 3) rfl ?_); (try (refine gate_guard (by rfl) ?_; dsimp only)); refine box_event ?hg (N := 3) ?hd (cs := #[.int .i64 0, .slice none 0 0]) (t := 57) ?hr ?_; (case hd => rfl); (case hg => rfl); (case hr => exact zq5); intro gb294 hg w115 hbox hb; have n0_ := Aside0.mk (Kd.R_below zq34 hb); have n1_ := Aside0.mk (Kd.R_below zq35 hb); have n2_ := Aside0.mk (below_step zq6 hb); have n3_ := Aside0.mk (hbox); have n4_ := Aside0.mk ((zq166 : w.heap.size ≤ gb294)); have n5_ := Aside0.mk ((zq166 : w.heap.size ≤ gb294)); clear HO290; clear HO293; clear HB; have HO290 := n0_; have HO293 := n1_; have HB := n2_; have BK294 := n3_; have GW294 := n4_; have GE294 := n5_; clear n0_ n1_ n2_ n3_ n4_ n5_; clear hb hbox hg; have hcz116_0 : w115.cell? ⟨gb294, 0, none⟩ = some (.int .i64 0) := (blk_cell BK294.out 0).trans rfl; have hcz116_1 : w115.cell? ⟨gb294, 1, none⟩ = some (.slice none 0 0) := (blk_cell BK294.out 1).trans rfl; have hfz116_0 := blk_frozen BK294.out 0; have hfz116_1 := blk_frozen BK294.out 1; obtain ⟨Ao117, co117, eo117⟩ := Kd.R_slice HO290.out; subst eo117; obtain ⟨Ao118, co118, eo118⟩ := Kd.R_slice HO293.out; subst eo118) | ((with_reducible refine gate_callee (f := 55) rfl ?_); refine goesL_ (some 23) rfl rfl Try.func55 (by kernel_rfl) rfl #[.agg #[.int .i64 t287, .slice Ao117 t288.length co117], .slice Ao118 t291.length co118] rfl zq12 ?_; (with_reducible refine (spec_Cutting.calls k t287 _ _ t288 _ _ t291 t295 t296 t299 _ ?side1 ?side2 ?side3 ?side4 A5.out).mono ?_); (case side1 => refine (Kd.R_reads' (e := 59) (base := w.heap.size) (ok := fun k_ => True) (n := t288.length) (c := co117) ?_).2.2; exact zq69); (case side2 => exact zq37); (case side3 => refine (Kd.R_reads' (e := 2) (base := w.heap.size) (ok := fun k_ => True) (n := t291.length) (c := co118) ?_).2.2; exact zq70); (case side4 => exact zq39); rintro e w119 ⟨v297, rfl, ho0, hb⟩; refine ⟨_, rfl, ?_⟩; have n0_ := Aside0.mk (Kd.R_elder' zq69 (Kd.R_base ho0) hb); have n1_ := Aside0.mk (Kd.R_below zq70 hb); have n2_ := Aside0.mk (Kd.R_lower (Kd.R_new' ho0 (Kd.R_lt zq69)) (below_size zq40)); have n3_ := Aside0.mk (blk_below (g := gb294) (o := .cells #[.int .i64 t287, .slice Ao117 t288.length co117] 57 (0, 0)) zq41 hb); have n4_ := Aside0.mk (below_step zq40 hb); clear HO290; clear HO293; clear BK294; clear HB; have HO290 := n0_; have HO293 := n1_; have HO298 := n2_; have BK294 := n3_; have HB := n4_; clear n0_ n1_ n2_ n3_ n4_; (try clear hb); (try clear hb2); (try clear hk); (try clear hi); (try clear ho0)) | ((with_reducible refine gate_dst (N := 5) rfl ?_); (try (refine gate_guard (by rfl) ?_; dsimp only)); refine box_event ?hg (N := 5) ?hd (cs := #[.int .i64 0, .slice none 0 0]) (t := 57) ?hr ?_; (case hd => rfl); (case hg => rfl); (case hr => exact zq5); intro gb300 hg w120 hbox hb; have n0_ := Aside0.mk (Kd.R_below zq34 hb); have n1_ := Aside0.mk (Kd.R_below zq35 hb); have n2_ := Aside0.mk (Kd.R_below zq42 hb); have n3_ := Aside0.mk (blk_below (g := gb294) (o := .cells #[.int .i64 t287, .slice Ao117 t288.length co117] 57 (0, 0)) zq43 hb); have n4_ := Aside0.mk (below_step zq40 hb); have n5_ := Aside0.mk (hbox); have n6_ := Aside0.mk ((zq178 : w.heap.size ≤ gb300)); have n7_ := Aside0.mk ((zq178 : w.heap.size ≤ gb300)); have n8_ := Aside0.mk ((zq189 : gb294 ≠ gb300)); have n9_ := Aside0.mk ((zq190 : gb300 ≠ gb294)); clear HO290; clear HO293; clear HO298; clear BK294; clear HB; have HO290 := n0_; have HO293 := n1_; have HO298 := n2_; have BK294 := n3_; have HB := n4_; have BK300 := n5_; have GW300 := n6_; have GE300 := n7_; have NB294_300 := n8_; have NB300_294 := n9_; clear n0_ n1_ n2_ n3_ n4_ n5_ n6_ n7_ n8_ n9_; clear hb hbox hg; have hnb121 := NB300_294.out; have hnc121 := NB294_300.out; have hcz122_0 : w120.cell? ⟨gb300, 0, none⟩ = some (.int .i64 0) := (blk_cell BK300.out 0).trans rfl; have hcz122_1 : w120.cell? ⟨gb300, 1, none⟩ = some (.slice none 0 0) := (blk_cell BK300.out 1).trans rfl; have hfz122_0 := blk_frozen BK300.out 0; have hfz122_1 := blk_frozen BK300.out 1; obtain ⟨Ao123, co123, eo123⟩ := Kd.R_slice HO298.out; subst eo123; have hcz124_0 : w120.cell? ⟨gb294, 0, none⟩ = some (.int .i64 t287) := (blk_cell BK294.out 0).trans rfl; have hcz124_1 : w120.cell? ⟨gb294, 1, none⟩ = some (.slice Ao117 t288.length co117) := (blk_cell BK294.out 1).trans rfl; have hfz124_0 := blk_frozen BK294.out 0; have hfz124_1 := blk_frozen BK294.out 1) | ((with_reducible refine gate_callee (f := 56) rfl ?_); refine goesL_ (some 29) rfl rfl Try.func56 (by kernel_rfl) rfl #[.agg #[.int .i64 t287, .slice Ao117 t288.length co117], .slice Ao118 t291.length co118] rfl zq12 ?_; (with_reducible refine (impl_Cutting.calls k t287 _ _ t288 _ _ t291 t301 t302 t305 _ ?side1 ?side2 ?side3 ?side4 A6.out).mono ?_); (case side1 => refine (Kd.R_reads' (e := 59) (base := w.heap.size) (ok := fun k_ => (True ∧ some k_ ≠ (.slice Ao123 t296.length co123 : Value).ownBlock)) (n := t288.length) (c := co117) ?_).2.2; exact zq71); (case side2 => exact zq37); (case side3 => refine (Kd.R_reads' (e := 2) (base := w.heap.size) (ok := fun k_ => True) (n := t291.length) (c := co118) ?_).2.2; exact zq72); (case side4 => exact zq39); rintro e w125 ⟨v303, rfl, ho0, hb⟩; refine ⟨_, rfl, ?_⟩; have n0_ := Aside0.mk (Kd.R_elder' zq71 (Kd.R_base ho0) hb); have n1_ := Aside0.mk (Kd.R_below zq72 hb); have n2_ := Aside0.mk (Kd.R_elder' zq73 (Kd.R_base ho0) hb); have n3_ := Aside0.mk (Kd.R_lower (Kd.R_new' (Kd.R_new' ho0 (Kd.R_lt zq71)) (Kd.R_lt zq73)) (below_size zq47)); have n4_ := Aside0.mk (blk_below (g := gb294) (o := .cells #[.int .i64 t287, .slice Ao117 t288.length co117] 57 (0, 0)) zq48 hb); have n5_ := Aside0.mk (blk_below (g := gb300) (o := .cells #[.int .i64 t295, .slice Ao123 t296.length co123] 57 (0, 0)) zq49 hb); have n6_ := Aside0.mk (below_step zq47 hb); clear HO290; clear HO293; clear HO298; clear BK294; clear BK300; clear HB; have HO290 := n0_; have HO293 := n1_; have HO298 := n2_; have HO304 := n3_; have BK294 := n4_; have BK300 := n5_; have HB := n6_; clear n0_ n1_ n2_ n3_ n4_ n5_ n6_; (try clear hb); (try clear hb2); (try clear hk); (try clear hi); (try clear ho0)) | ((with_reducible refine gate_dst (N := 7) rfl ?_); (try (refine gate_guard (by rfl) ?_; dsimp only)); refine box_event ?hg (N := 7) ?hd (cs := #[.int .i64 0, .slice none 0 0]) (t := 57) ?hr ?_; (case hd => rfl); (case hg => rfl); (case hr => exact zq5); intro gb306 hg w126 hbox hb; have n0_ := Aside0.mk (Kd.R_below zq34 hb); have n1_ := Aside0.mk (Kd.R_below zq35 hb); have n2_ := Aside0.mk (Kd.R_below zq42 hb); have n3_ := Aside0.mk (Kd.R_below zq50 hb); have n4_ := Aside0.mk (blk_below (g := gb294) (o := .cells #[.int .i64 t287, .slice Ao117 t288.length co117] 57 (0, 0)) zq43 hb); have n5_ := Aside0.mk (blk_below (g := gb300) (o := .cells #[.int .i64 t295, .slice Ao123 t296.length co123] 57 (0, 0)) zq51 hb); have n6_ := Aside0.mk (below_step zq47 hb); have n7_ := Aside0.mk (hbox); have n8_ := Aside0.mk ((zq181 : w.heap.size ≤ gb306)); have n9_ := Aside0.mk ((zq181 : w.heap.size ≤ gb306)); have n10_ := Aside0.mk ((zq189 : gb294 ≠ gb306)); have n11_ := Aside0.mk ((zq190 : gb306 ≠ gb294)); have n12_ := Aside0.mk ((by rw [hg]; exact Nat.ne_of_lt (blk_lt (g := gb300) (o := .cells #[.int .i64 t295, .slice Ao123 t296.length co123] 57 (0, 0)) zq51) : gb300 ≠ gb306)); have n13_ := Aside0.mk ((by rw [hg]; exact Nat.ne_of_gt (blk_lt (g := gb300) (o := .cells #[.int .i64 t295, .slice Ao123 t296.length co123] 57 (0, 0)) zq51) : gb306 ≠ gb300)); clear HO290; clear HO293; clear HO298; clear HO304; clear BK294; clear BK300; clear HB; have HO290 := n0_; have HO293 := n1_; have HO298 := n2_; have HO304 := n3_; have BK294 := n4_; have BK300 := n5_; have HB := n6_; have BK306 := n7_; have GW306 := n8_; have GE306 := n9_; have NB294_306 := n10_; have NB306_294 := n11_; have NB300_306 := n12_; have NB306_300 := n13_; clear n0_ n1_ n2_ n3_ n4_ n5_ n6_ n7_ n8_ n9_ n10_ n11_ n12_ n13_; clear hb hbox hg; have hnb127 := NB306_294.out; have hnc127 := NB294_306.out; have hnb128 := NB306_300.out; have hnc128 := NB300_306.out; have hcz129_0 : w126.cell? ⟨gb306, 0, none⟩ = some (.int .i64 0) := (blk_cell BK306.out 0).trans rfl; have hcz129_1 : w126.cell? ⟨gb306, 1, none⟩ = some (.slice none 0 0) := (blk_cell BK306.out 1).trans rfl; have hfz129_0 := blk_frozen BK306.out 0; have hfz129_1 := blk_frozen BK306.out 1; obtain ⟨Ao130, co130, eo130⟩ := Kd.R_slice HO304.out; subst eo130))
   go_ret
   exact ⟨zq8, zq52⟩

/-- THE ONE PURE STATEMENT of laws_FnCut: yours. -/
def laws_FnCut.Pure : Prop := ∀ (l0 : List Int), l0.length ≤ maxLen → l0.length * 1 ≤ 140737488351232 → (∀ x ∈ l0, (Lit.int .u8 x).wf = true) → ∃ k, laws_FnCut.f k l0 = some true
theorem laws_FnCut.walk (P : laws_FnCut.Pure) (a0 : Option Addr) (len0 cap0 : Nat) (z0 : List Int) (w : World) (w0 : (a0 = none ∧ len0 = 0 ∧ cap0 = 0 ∧ z0 = []) ∨ ∃ x, a0 = some x ∧ len0 ≤ cap0 ∧ cap0 ≤ maxLen ∧ z0.length = cap0 ∧ (∀ i, i < z0.length → w.cell? (x.add i) = some (.int .u8 (z0.getD i 0))) ∧ ∀ n ∈ z0, (Lit.int .u8 n).wf = true) (y0 : len0 * 1 ≤ 140737488351232) :
  Calls Try.prog 11 #[.slice a0 len0 cap0] w fun e w' => e = .returned (.bool true) ∧ Below w.heap.size w w' := by
 obtain ⟨l0, rfl, hr0, hm0, hw0, hc0⟩ := ReadsInt.ofRowC w0
 obtain ⟨k, h⟩ := P l0 hm0 y0 hw0
 refine (laws_FnCut.calls k _ _ l0 true w (Kd.C_of_reads (d := (0 : Int)) (h1 := fun _ => rfl) hr0) hc0 h).mono ?_
 rintro e w' ⟨rfl, hd⟩
 exact ⟨rfl, hd⟩

end Go.Proofs.Ytjcejdajbapliaa.QFnCut
