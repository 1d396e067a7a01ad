/- Written by wip/myprint.py of this repo (the kit's print, with additions of this session). -/
import Derived.Test.YtjcejdajbapliaaQFnCutx0
import Derived.Test.YtjcejdajbapliaaQFnCutx1
import Derived.Test.YtjcejdajbapliaaQFnCutx4
import Derived.Test.YtjcejdajbapliaaQFnCutx5
set_option maxRecDepth 100000
namespace Go.Proofs.Ytjcejdajbapliaa.QFnCut
open Go.RowKit Go.Proofs.YtjcejdajbapliaaW.PrintWords Go.Proofs.YtjcejdajbapliaaW.PrintLast Go.Proofs.YtjcejdajbapliaaW.PrintMore
attribute [local go_sem] max2_int min2_int max_two min_two max_three min_three max_four min_four   -- for this text's walks alone
set_option linter.unusedVariables false
set_option linter.unusedSimpArgs false

/-! ### spec_l1Rd_net: function 94 -/
mutual
def spec_l1Rd_net.l0 : Nat → Int → List Int → Int → Int → List (S59) → Option (Int × (List (S59)) × Int)
 | 0, _, _, _, _, _ => none
 | k + 1, x4, x1000, x1001, x192000, x192001 => if x4 > 0 then ((spec_l1Rd_below.f x1000 x1001 3).bind fun bt194 => ((spec_l1Rd_below.f x1000 bt194.2 3).bind fun bt196 => ((spec_l1Rd_data.f x1000 bt196.2).bind fun bt198 => ((spec_Post.f k x192000 x192001 (wrap64 (1 + bt194.1)) (wrap64 (1 + bt196.1)) bt198.1).bind fun bt200 => (if bt200.2.2 = 0 then (spec_l1Rd_net.j1 k x4 x1000 bt198.2 bt200.1 bt200.2.1) else (spec_l1Rd_net.j1 k x4 x1000 bt198.2 x192000 x192001)))))) else ((spec_l1Rd_below.f x1000 x1001 40).bind fun bt220 => (if bt220.1 = 0 then ((spec_l1Rd_off.f k x1000 bt220.2 1 1000000000000).bind fun bt222 => (some (bt222.1, x192001, bt222.2))) else (if bt220.1 = 1 then (if x192001.length < 3518437208883 then (some (x192000, (x192001 ++ [(⟨1, 1, 1, (⟨#[]⟩ : ByteArray)⟩ : S59)]), bt220.2)) else (none)) else (if bt220.1 = 2 then (spec_l1Rd_net.l1 k x1000 bt220.2 x192000 x192001) else (some (x192000, x192001, bt220.2))))))
def spec_l1Rd_net.j1 : Nat → Int → List Int → Int → Int → List (S59) → Option (Int × (List (S59)) × Int)
 | 0, _, _, _, _, _ => none
 | k + 1, x4, x1000, x1001, x192000, x192001 => (spec_l1Rd_once.f x1000 x1001 5).bind fun bt206 => (if bt206.1 = true then (spec_l1Rd_net.j2 k x4 (decide ((x192001.length : Int) > 0)) x1000 bt206.2 x192000 x192001) else (spec_l1Rd_net.j2 k x4 false x1000 bt206.2 x192000 x192001))
def spec_l1Rd_net.j2 : Nat → Int → Bool → List Int → Int → Int → List (S59) → Option (Int × (List (S59)) × Int)
 | 0, _, _, _, _, _, _ => none
 | k + 1, x4, x37, x1000, x1001, x192000, x192001 => if x37 = true then ((spec_l1Rd_below.f x1000 x1001 (x192001.length : Int)).bind fun bt208 => (if 0 ≤ bt208.1 then (if bt208.1 < (x192001.length : Int) then ((spec_Take.f k x192000 x192001 ((rd_T59 x192001 bt208.1).f0) false).bind fun bt211 => (spec_l1Rd_net.l0 k (wrap64 (x4 - 1)) x1000 bt208.2 bt211.1 bt211.2.1)) else (none)) else (none))) else (spec_l1Rd_net.l0 k (wrap64 (x4 - 1)) x1000 x1001 x192000 x192001)
def spec_l1Rd_net.l1 : Nat → List Int → Int → Int → List (S59) → Option (Int × (List (S59)) × Int)
 | 0, _, _, _, _ => none
 | k + 1, x1000, x1001, x192000, x192001 => if (x192001.length : Int) < 300 then (if x192001.length < 3518437208883 then (spec_l1Rd_net.l1 k x1000 x1001 (wrap64 (x192000 + 1)) (x192001 ++ [(⟨x192000, 1, 2, (⟨#[]⟩ : ByteArray)⟩ : S59)])) else (none)) else (some (x192000, x192001, x1001))
end
def spec_l1Rd_net.f (k : Nat) (s0_0 : List Int) (s0_1 : Int) : Option (Int × (List (S59)) × Int) := (spec_l1Rd_size.f s0_0 s0_1 3 8).bind fun bt192 => (spec_l1Rd_net.l0 k bt192.1 s0_0 bt192.2 1 ([] : List (S59)))
theorem spec_l1Rd_net.mono_l : ∀ k, (∀ y0 y1 y2 y3 y4, LeO (spec_l1Rd_net.l0 k y0 y1 y2 y3 y4) (spec_l1Rd_net.l0 (k + 1) y0 y1 y2 y3 y4)) ∧ (∀ y0 y1 y2 y3 y4, LeO (spec_l1Rd_net.j1 k y0 y1 y2 y3 y4) (spec_l1Rd_net.j1 (k + 1) y0 y1 y2 y3 y4)) ∧ (∀ y0 y1 y2 y3 y4 y5, LeO (spec_l1Rd_net.j2 k y0 y1 y2 y3 y4 y5) (spec_l1Rd_net.j2 (k + 1) y0 y1 y2 y3 y4 y5)) ∧ (∀ y0 y1 y2 y3, LeO (spec_l1Rd_net.l1 k y0 y1 y2 y3) (spec_l1Rd_net.l1 (k + 1) y0 y1 y2 y3))
 | 0 => ⟨fun _ _ _ _ _ r h => by simp [spec_l1Rd_net.l0] at h, fun _ _ _ _ _ r h => by simp [spec_l1Rd_net.j1] at h, fun _ _ _ _ _ _ r h => by simp [spec_l1Rd_net.j2] at h, fun _ _ _ _ r h => by simp [spec_l1Rd_net.l1] at h⟩
 | k + 1 => by
  obtain ⟨ih0, ih1, ih2, ih3⟩ := spec_l1Rd_net.mono_l k
  refine ⟨?_, ?_, ?_, ?_⟩
  ·
   intro y0 y1 y2 y3 y4
   unfold spec_l1Rd_net.l0
   repeat' first
   | (with_reducible exact ih0 _ _ _ _ _)
   | (with_reducible exact ih1 _ _ _ _ _)
   | (with_reducible exact ih2 _ _ _ _ _ _)
   | (with_reducible exact ih3 _ _ _ _)
   | (with_reducible exact spec_Post.mono _ _ _ _ _ _)
   | (with_reducible exact spec_Take.mono _ _ _ _ _)
   | (with_reducible exact spec_l1Rd_off.mono _ _ _ _ _)
   | (with_reducible exact LeO.refl _)
   | (with_reducible exact LeO.none _)
   | (with_reducible refine LeO.ite ?_ ?_)
   | (with_reducible refine LeO.bind ?_ (fun _ => ?_))
   | exact ih0 _ _ _ _ _
   | exact ih1 _ _ _ _ _
   | exact ih2 _ _ _ _ _ _
   | exact ih3 _ _ _ _
   | exact spec_Post.mono _ _ _ _ _ _
   | exact spec_Take.mono _ _ _ _ _
   | exact spec_l1Rd_off.mono _ _ _ _ _
   | exact LeO.none _
   | refine LeO.ite ?_ ?_
   | refine LeO.bind ?_ (fun _ => ?_)
  ·
   intro y0 y1 y2 y3 y4
   unfold spec_l1Rd_net.j1
   repeat' first
   | (with_reducible exact ih0 _ _ _ _ _)
   | (with_reducible exact ih1 _ _ _ _ _)
   | (with_reducible exact ih2 _ _ _ _ _ _)
   | (with_reducible exact ih3 _ _ _ _)
   | (with_reducible exact spec_Post.mono _ _ _ _ _ _)
   | (with_reducible exact spec_Take.mono _ _ _ _ _)
   | (with_reducible exact spec_l1Rd_off.mono _ _ _ _ _)
   | (with_reducible exact LeO.refl _)
   | (with_reducible exact LeO.none _)
   | (with_reducible refine LeO.ite ?_ ?_)
   | (with_reducible refine LeO.bind ?_ (fun _ => ?_))
   | exact ih0 _ _ _ _ _
   | exact ih1 _ _ _ _ _
   | exact ih2 _ _ _ _ _ _
   | exact ih3 _ _ _ _
   | exact spec_Post.mono _ _ _ _ _ _
   | exact spec_Take.mono _ _ _ _ _
   | exact spec_l1Rd_off.mono _ _ _ _ _
   | exact LeO.none _
   | refine LeO.ite ?_ ?_
   | refine LeO.bind ?_ (fun _ => ?_)
  ·
   intro y0 y1 y2 y3 y4 y5
   unfold spec_l1Rd_net.j2
   repeat' first
   | (with_reducible exact ih0 _ _ _ _ _)
   | (with_reducible exact ih1 _ _ _ _ _)
   | (with_reducible exact ih2 _ _ _ _ _ _)
   | (with_reducible exact ih3 _ _ _ _)
   | (with_reducible exact spec_Post.mono _ _ _ _ _ _)
   | (with_reducible exact spec_Take.mono _ _ _ _ _)
   | (with_reducible exact spec_l1Rd_off.mono _ _ _ _ _)
   | (with_reducible exact LeO.refl _)
   | (with_reducible exact LeO.none _)
   | (with_reducible refine LeO.ite ?_ ?_)
   | (with_reducible refine LeO.bind ?_ (fun _ => ?_))
   | exact ih0 _ _ _ _ _
   | exact ih1 _ _ _ _ _
   | exact ih2 _ _ _ _ _ _
   | exact ih3 _ _ _ _
   | exact spec_Post.mono _ _ _ _ _ _
   | exact spec_Take.mono _ _ _ _ _
   | exact spec_l1Rd_off.mono _ _ _ _ _
   | exact LeO.none _
   | refine LeO.ite ?_ ?_
   | refine LeO.bind ?_ (fun _ => ?_)
  ·
   intro y0 y1 y2 y3
   unfold spec_l1Rd_net.l1
   repeat' first
   | (with_reducible exact ih0 _ _ _ _ _)
   | (with_reducible exact ih1 _ _ _ _ _)
   | (with_reducible exact ih2 _ _ _ _ _ _)
   | (with_reducible exact ih3 _ _ _ _)
   | (with_reducible exact spec_Post.mono _ _ _ _ _ _)
   | (with_reducible exact spec_Take.mono _ _ _ _ _)
   | (with_reducible exact spec_l1Rd_off.mono _ _ _ _ _)
   | (with_reducible exact LeO.refl _)
   | (with_reducible exact LeO.none _)
   | (with_reducible refine LeO.ite ?_ ?_)
   | (with_reducible refine LeO.bind ?_ (fun _ => ?_))
   | exact ih0 _ _ _ _ _
   | exact ih1 _ _ _ _ _
   | exact ih2 _ _ _ _ _ _
   | exact ih3 _ _ _ _
   | exact spec_Post.mono _ _ _ _ _ _
   | exact spec_Take.mono _ _ _ _ _
   | exact spec_l1Rd_off.mono _ _ _ _ _
   | exact LeO.none _
   | refine LeO.ite ?_ ?_
   | refine LeO.bind ?_ (fun _ => ?_)
theorem spec_l1Rd_net.mono : ∀ a0 a1 k, LeO (spec_l1Rd_net.f k a0 a1) (spec_l1Rd_net.f (k + 1) a0 a1) := by
 intro a0 a1 k
 obtain ⟨ih0, ih1, ih2, ih3⟩ := spec_l1Rd_net.mono_l k
 unfold spec_l1Rd_net.f
 repeat' first
   | (with_reducible exact ih0 _ _ _ _ _)
   | (with_reducible exact ih1 _ _ _ _ _)
   | (with_reducible exact ih2 _ _ _ _ _ _)
   | (with_reducible exact ih3 _ _ _ _)
   | (with_reducible exact spec_Post.mono _ _ _ _ _ _)
   | (with_reducible exact spec_Take.mono _ _ _ _ _)
   | (with_reducible exact spec_l1Rd_off.mono _ _ _ _ _)
   | (with_reducible exact LeO.refl _)
   | (with_reducible exact LeO.none _)
   | (with_reducible refine LeO.ite ?_ ?_)
   | (with_reducible refine LeO.bind ?_ (fun _ => ?_))
   | exact ih0 _ _ _ _ _
   | exact ih1 _ _ _ _ _
   | exact ih2 _ _ _ _ _ _
   | exact ih3 _ _ _ _
   | exact spec_Post.mono _ _ _ _ _ _
   | exact spec_Take.mono _ _ _ _ _
   | exact spec_l1Rd_off.mono _ _ _ _ _
   | exact LeO.none _
   | refine LeO.ite ?_ ?_
   | refine LeO.bind ?_ (fun _ => ?_)
def spec_l1Rd_net.T5 : Bool × List (List Nat × List Nat) := (true, [([], []), ([], []), ([1], [1]), ([2], [2]), ([], []), ([4, 2], [4]), ([5], [5]), ([], []), ([7, 5], [7]), ([0, 3, 6, 8, 8], [0, 3, 6, 8]), ([9], [9]), ([10], [10]), ([10], [10]), ([], []), ([13, 11, 9, 0, 1, 2, 3, 4, 5, 6, 7, 8, 9, 10, 11, 13], [11, 13]), ([12, 14, 0, 1, 2, 3, 4, 5, 6, 7, 8, 9, 10, 11, 12, 13, 14], [12])])
def spec_l1Rd_net.B5 : List Nat := [0, 0, 2, 6, 0, 22, 54, 0, 182, 511, 1023, 2047, 2047, 0, 12287, 32767]
theorem spec_l1Rd_net.tab5 : rtab .any (opsOf Try.f94 5) = spec_l1Rd_net.T5 := by kernel_rfl
theorem spec_l1Rd_net.bits5 : waitsOk spec_l1Rd_net.T5.2 spec_l1Rd_net.B5 = true := by kernel_rfl
def spec_l1Rd_net.T9 : Bool × List (List Nat × List Nat) := (true, [([], []), ([], []), ([1], [1]), ([], []), ([], []), ([4], [4]), ([5], [5]), ([3, 6], [3, 6]), ([2, 7], [2, 7]), ([8], [8]), ([9], [9]), ([0, 10, 7], [0, 10]), ([11], [11]), ([12], [12]), ([12], [12]), ([12], [12]), ([13, 11, 0, 1, 2, 3, 4, 5, 6, 7, 8, 9, 10, 11, 12, 13], [13])])
def spec_l1Rd_net.B9 : List Nat := [0, 0, 2, 0, 0, 16, 48, 120, 254, 510, 1022, 2047, 4095, 8191, 8191, 8191, 16383]
theorem spec_l1Rd_net.tab9 : rtab .any (opsOf Try.f94 9) = spec_l1Rd_net.T9 := by kernel_rfl
theorem spec_l1Rd_net.bits9 : waitsOk spec_l1Rd_net.T9.2 spec_l1Rd_net.B9 = true := by kernel_rfl
set_option maxHeartbeats 8000000 in
set_option maxRecDepth 100000 in
theorem spec_l1Rd_net.calls (k : Nat) (g : Nat) (s0_0 : List Int) (s0_1 : Int) (r1 : Int) (r2 : List (S59)) (r3 : Int) (w0 w : World) (hI : IsS110 w0 w g s0_0 s0_1) (hB : Below w0.heap.size w0 w) (h : spec_l1Rd_net.f k s0_0 s0_1 = some (r1, r2, r3)) :
  Calls Try.prog 94 #[.pointer (some ⟨g, 0, none⟩)] w fun e w' => ∃ v1_ : Value, e = .returned (.agg #[.int .i64 r1, v1_]) ∧ Kd.R k59 59 w' w.heap.size (fun _ => True) v1_ r2 ∧ IsS110 w0 w' g s0_0 r3 ∧ Below w0.heap.size w0 w' ∧ KeepBut w w' g none := by
 have hu57 := Try.underlying57
 have hu59 := Try.underlying59
 have HI0 := Aside0.mk hI
 have HK := Aside0.mk (KeepBut.refl w g none)
 have HL := Aside0.mk hB.size
 clear hI
 have HW0 := Aside0.mk hB.size
 have HB := Aside0.mk hB
 clear hB
 have H : ((spec_l1Rd_size.f s0_0 s0_1 3 8).bind fun bt192 => (spec_l1Rd_net.l0 k bt192.1 s0_0 bt192.2 1 ([] : List (S59)))) = some (r1, r2, r3) := h
 clear h
 replace H := Option.bind_eq_some_iff.mp H
 obtain ⟨⟨t192, t193⟩, A20, H⟩ := H
 replace H : (spec_l1Rd_net.l0 k t192 s0_0 t193 1 ([] : List (S59))) = some (r1, r2, r3) := H
 have A2 := Aside0.mk A20
 clear A20
 have H' := Aside0.mk H
 clear H
 go_enter Try.func94, Try.ntmps94
 go_wp2_with (first | ((with_reducible refine gate_dst (N := 2) rfl ?_); (try (refine gate_guard (by rfl) ?_; dsimp only)); refine box_event ?hg (N := 2) ?hd (cs := #[.int .i64 0, .slice none 0 0]) (t := 57) ?hr ?_; (case hd => rfl); (case hg => rfl); (case hr => exact zq5); intro gb190 hg w3 hbox hb; have n0_ := Aside0.mk (IsS110.below zq9 hb); have n1_ := Aside0.mk (KeepBut.trans zq11 (KeepBut.of_below hb g none) (.inl rfl)); have n2_ := Aside0.mk (below_step zq10 hb); have n3_ := Aside0.mk (hbox); have n4_ := Aside0.mk ((zq219 : w.heap.size ≤ gb190)); have n5_ := Aside0.mk ((Nat.le_trans HW0.out (zq219 : w.heap.size ≤ gb190) : w0.heap.size ≤ gb190)); have n6_ := Aside0.mk ((by rw [hg]; exact Nat.ne_of_lt (IsS110.lt (show IsS110 w0 _ g s0_0 s0_1 from by repeat (first | (with_reducible first | exact HI0.out | apply IsS110.alloc | apply IsS110.drewN | apply IsS110.drew | apply IsS110.set_1) | exact HI0.out))) : g ≠ gb190)); have n7_ := Aside0.mk ((by rw [hg]; exact Nat.ne_of_gt (IsS110.lt (show IsS110 w0 _ g s0_0 s0_1 from by repeat (first | (with_reducible first | exact HI0.out | apply IsS110.alloc | apply IsS110.drewN | apply IsS110.drew | apply IsS110.set_1) | exact HI0.out))) : gb190 ≠ g)); clear HI0; clear HK; clear HB; have HI0 := n0_; have HK := n1_; have HB := n2_; have BK190 := n3_; have GW190 := n4_; have GE190 := n5_; have NB0_190 := n6_; have NB190_0 := n7_; clear n0_ n1_ n2_ n3_ n4_ n5_ n6_ n7_; clear hb hbox hg) | ((with_reducible refine gate_dst (N := 3) rfl ?_); (try (refine gate_guard (by rfl) ?_; dsimp only)); refine box_event ?hg (N := 3) ?hd (cs := #[.int .i64 0, .slice none 0 0]) (t := 57) ?hr ?_; (case hd => rfl); (case hg => rfl); (case hr => exact zq5); intro gb191 hg w4 hbox hb; have n0_ := Aside0.mk (IsS110.below (by repeat (first | (with_reducible first | exact HI0.out | apply IsS110.alloc | apply IsS110.drewN | apply IsS110.drew | apply IsS110.set_1 | refine IsS110.far ?_ NB0_190.out _) | exact HI0.out)) hb); have n1_ := Aside0.mk (blk_below (g := gb190) (o := .cells #[.int .i64 0, .slice none 0 0] 57 (0, 0)) zq113 hb); have n2_ := Aside0.mk (KeepBut.trans zq114 (KeepBut.of_below hb g none) (.inl rfl)); have n3_ := Aside0.mk (below_step (by repeat (first | (with_reducible first | exact HB.out | apply below_alloc | apply pw_below_drewN | apply below_drew1 | refine below_set ?_ (IsS110.ge HI0.out) | refine below_set ?_ GE190.out) | exact HB.out)) hb); have n4_ := Aside0.mk (hbox); have n5_ := Aside0.mk ((zq220 : w.heap.size ≤ gb191)); have n6_ := Aside0.mk ((Nat.le_trans HW0.out (zq220 : w.heap.size ≤ gb191) : w0.heap.size ≤ gb191)); have n7_ := Aside0.mk ((zq221 : gb190 ≠ gb191)); have n8_ := Aside0.mk ((zq222 : gb191 ≠ gb190)); have n9_ := Aside0.mk ((by rw [hg]; exact Nat.ne_of_lt (IsS110.lt (show IsS110 w0 _ g s0_0 s0_1 from by repeat (first | (with_reducible first | exact HI0.out | apply IsS110.alloc | apply IsS110.drewN | apply IsS110.drew | apply IsS110.set_1 | refine IsS110.far ?_ NB0_190.out _) | exact HI0.out))) : g ≠ gb191)); have n10_ := Aside0.mk ((by rw [hg]; exact Nat.ne_of_gt (IsS110.lt (show IsS110 w0 _ g s0_0 s0_1 from by repeat (first | (with_reducible first | exact HI0.out | apply IsS110.alloc | apply IsS110.drewN | apply IsS110.drew | apply IsS110.set_1 | refine IsS110.far ?_ NB0_190.out _) | exact HI0.out))) : gb191 ≠ g)); clear HI0; clear BK190; clear HK; clear HB; have HI0 := n0_; have BK190 := n1_; have HK := n2_; have HB := n3_; have BK191 := n4_; have GW191 := n5_; have GE191 := n6_; have NB190_191 := n7_; have NB191_190 := n8_; have NB0_191 := n9_; have NB191_0 := n10_; clear n0_ n1_ n2_ n3_ n4_ n5_ n6_ n7_ n8_ n9_ n10_; clear hb hbox hg; have hnb5 := NB191_190.out; have hnc5 := NB190_191.out; have hnb6 := NB191_0.out; have hnc6 := NB0_191.out; have hcz7_0 : w4.cell? ⟨gb191, 0, none⟩ = some (.int .i64 0) := (blk_cell BK191.out 0).trans rfl; have hcz7_1 : w4.cell? ⟨gb191, 1, none⟩ = some (.slice none 0 0) := (blk_cell BK191.out 1).trans rfl; have hfz7_0 := blk_frozen BK191.out 0; have hfz7_1 := blk_frozen BK191.out 1) | ((with_reducible refine gate_callee (f := 113) rfl ?_); refine goesL_ (some 9) rfl rfl Try.func113 (by kernel_rfl) rfl #[.pointer (some ⟨g, 0, none⟩), .int .i64 3, .int .i64 8] rfl zq12 ?_; (with_reducible refine (spec_l1Rd_size.calls g s0_0 s0_1 3 8 t192 t193 w0 _ ?side1 ?side2 A2.out).mono ?_); (case side1 => exact zq115); (case side2 => exact zq116); rintro e w8 ⟨rfl, hi, hb, hk⟩; refine ⟨_, rfl, ?_⟩; have n0_ := Aside0.mk (KeepBut.blk hk (g' := gb190) (o := .cells #[.int .i64 0, .slice none 0 0] 57 (0, 0)) zq117 NB190_0.out (by simp)); have n1_ := Aside0.mk (KeepBut.blk hk (g' := gb191) (o := .cells #[.int .i64 1, .slice none 0 0] 57 (0, 0)) (by (with_reducible repeat (first | refine blk_drewN ?_ _ | refine blk_drew ?_ | refine blk_alloc ?_ _)); refine blk_put (cs := #[.int .i64 1, .slice none 0 0]) ?_ 1 _ rfl; (with_reducible repeat (first | refine blk_drewN ?_ _ | refine blk_drew ?_ | refine blk_alloc ?_ _)); refine blk_put (cs := #[.int .i64 0, .slice none 0 0]) ?_ 0 _ rfl; (with_reducible repeat (first | refine blk_drewN ?_ _ | refine blk_drew ?_ | refine blk_alloc ?_ _)); exact BK191.out) NB191_0.out (by simp)); have n2_ := Aside0.mk (KeepBut.trans zq118 hk (.inl rfl)); have n3_ := Aside0.mk (hb); have n4_ := Aside0.mk (hi); clear BK190; clear BK191; clear HK; clear HB; clear HI0; have BK190 := n0_; have BK191 := n1_; have HK := n2_; have HB := n3_; have HI0 := n4_; clear n0_ n1_ n2_ n3_ n4_; (try clear hb); (try clear hb2); (try clear hk); (try clear hi)))
 go_loopg [4] k (fun kq v4 w' => ∃ (x4_1 : Int) (x1001_1 : Int) (x192000_1 : Int) (x192001_1 : List (S59)) (u192001 : Value), v4 = .int .i64 x4_1 ∧ Aside0 (spec_l1Rd_net.l0 kq x4_1 s0_0 x1001_1 x192000_1 x192001_1 = some (r1, r2, r3)) ∧ Aside0 (kq ≤ k) ∧ Aside0 (Kd.R k59 59 w' w.heap.size (fun _ => True) u192001 x192001_1) ∧ Aside0 (w'.heap[gb190]? = some (.cells #[.int .i64 0, (.slice none 0 0)] 57 (0, 0))) ∧ Aside0 (w'.heap[gb191]? = some (.cells #[.int .i64 x192000_1, u192001] 57 (0, 0))) ∧ Aside0 (IsS110 w0 w' g s0_0 x1001_1) ∧ Aside0 (KeepBut w w' g none) ∧ Aside0 (Below w0.heap.size w0 w'))
 case atStart => exact ⟨(t192), (t193), (1), (([] : List (S59))), (.slice none 0 0), zq1, H', ⟨Nat.le_refl _⟩, ⟨zq21⟩, ⟨zq113⟩, ⟨zq119⟩, ⟨zq115⟩, ⟨zq118⟩, ⟨zq116⟩⟩
 case round =>
  clear H'
  try clear c1
  try clear p2
  try clear c5
  try clear c6
  try clear hcz7_0
  try clear hcz7_1
  try clear hfz7_0
  try clear hfz7_1
  obtain ⟨x4_1, x1001_1, x192000_1, x192001_1, u192001, rfl, HA, HK1, HO_192001, BK190, BK191, HI0, HK, HB⟩ := hrel
  cases gk with
  | zero => exact absurd HA.out (by simp [spec_l1Rd_net.l0])
  | succ k1 =>
   have H := HA.out
   clear HA
   simp only [spec_l1Rd_net.l0] at H
   by_cases c9 : x4_1 > 0
   ·
    rw [if_pos c9] at H
    have c9b0 : decide (0 < x4_1) = true := decide_eq_true c9
    clear c9
    replace H := Option.bind_eq_some_iff.mp H
    obtain ⟨⟨t194, t195⟩, A100, H⟩ := H
    replace H : ((spec_l1Rd_below.f s0_0 t195 3).bind fun bt196 => ((spec_l1Rd_data.f s0_0 bt196.2).bind fun bt198 => ((spec_Post.f k1 x192000_1 x192001_1 (wrap64 (1 + t194)) (wrap64 (1 + bt196.1)) bt198.1).bind fun bt200 => (if bt200.2.2 = 0 then (spec_l1Rd_net.j1 k1 x4_1 s0_0 bt198.2 bt200.1 bt200.2.1) else (spec_l1Rd_net.j1 k1 x4_1 s0_0 bt198.2 x192000_1 x192001_1))))) = some (r1, r2, r3) := H
    have A10 := Aside0.mk A100
    clear A100
    replace H := Option.bind_eq_some_iff.mp H
    obtain ⟨⟨t196, t197⟩, A110, H⟩ := H
    replace H : ((spec_l1Rd_data.f s0_0 t197).bind fun bt198 => ((spec_Post.f k1 x192000_1 x192001_1 (wrap64 (1 + t194)) (wrap64 (1 + t196)) bt198.1).bind fun bt200 => (if bt200.2.2 = 0 then (spec_l1Rd_net.j1 k1 x4_1 s0_0 bt198.2 bt200.1 bt200.2.1) else (spec_l1Rd_net.j1 k1 x4_1 s0_0 bt198.2 x192000_1 x192001_1)))) = some (r1, r2, r3) := H
    have A11 := Aside0.mk A110
    clear A110
    replace H := Option.bind_eq_some_iff.mp H
    obtain ⟨⟨t198, t199⟩, A120, H⟩ := H
    replace H : ((spec_Post.f k1 x192000_1 x192001_1 (wrap64 (1 + t194)) (wrap64 (1 + t196)) t198).bind fun bt200 => (if bt200.2.2 = 0 then (spec_l1Rd_net.j1 k1 x4_1 s0_0 t199 bt200.1 bt200.2.1) else (spec_l1Rd_net.j1 k1 x4_1 s0_0 t199 x192000_1 x192001_1))) = some (r1, r2, r3) := H
    have A12 := Aside0.mk A120
    clear A120
    replace H := Option.bind_eq_some_iff.mp H
    obtain ⟨⟨t200, t201, t204⟩, A130, H⟩ := H
    replace H : (if t204 = 0 then (spec_l1Rd_net.j1 k1 x4_1 s0_0 t199 t200 t201) else (spec_l1Rd_net.j1 k1 x4_1 s0_0 t199 x192000_1 x192001_1)) = some (r1, r2, r3) := H
    have A13 := Aside0.mk A130
    clear A130
    have HC14 := Aside0.mk H
    clear H
    obtain ⟨Ao15, co15, eo15⟩ := Kd.R_slice HO_192001.out
    subst eo15
    try go_wp2
    have n0_ := Aside0.mk (Kd.R_drew HO_192001.out)
    have n1_ := Aside0.mk (blk_drew BK190.out)
    have n2_ := Aside0.mk (blk_drew BK191.out)
    have n3_ := Aside0.mk (IsS110.drew HI0.out)
    have n4_ := Aside0.mk (keep_drew HK.out)
    have n5_ := Aside0.mk (below_drew1 HB.out)
    clear HO_192001
    clear BK190
    clear BK191
    clear HI0
    clear HK
    clear HB
    have HO_192001 := n0_
    have BK190 := n1_
    have BK191 := n2_
    have HI0 := n3_
    have HK := n4_
    have HB := n5_
    clear n0_ n1_ n2_ n3_ n4_ n5_
    refine start_ (n := 16) (S := fun w' => w'.cell? ⟨gb191, 0, none⟩ = some (.int .i64 x192000_1) ∧ w'.cell? ⟨gb191, 1, none⟩ = some (.slice Ao15 x192001_1.length co15)) (ds := []) #[ff,ff,ff,ff,ff,ff,ff,ff,ff,ff,ff,ff,ff,ff,ff,ff] (by kernel_rfl) rfl rfl ⟨(blk_cell BK191.out 0).trans rfl, (blk_cell BK191.out 1).trans rfl⟩ (fun hHeld => ?_); refine with_tabW spec_l1Rd_net.tab5 spec_l1Rd_net.bits5 (fun HT_ HW_ => ?_)
    generalize wr.drew = w16 at HO_192001 BK190 BK191 HI0 HK HB hHeld ⊢
    refine pure_ (i := 1) (N := some 16) (v := ?_) (a' := ?_) #[ff,tt,ff,ff,ff,ff,ff,ff,ff,ff,ff,ff,ff,ff,ff,ff] rfl rfl (any_of HT_.out (by kernel_rfl)) (fun _ _ _ h => h) (Or.inl ⟨by rfl, ?_⟩) ?_ ?_
    rotate_left
    exact zq238
    rotate_left
    exact zq239
    refine pure_ (i := 4) (N := some 19) (v := ?_) (a' := ?_) #[ff,tt,ff,ff,tt,ff,ff,ff,ff,ff,ff,ff,ff,ff,ff,ff] rfl rfl (any_of HT_.out (by kernel_rfl)) (fun _ _ _ h => h) (Or.inl ⟨by rfl, ?_⟩) ?_ ?_
    rotate_left
    exact zq238
    rotate_left
    exact zq239
    refine pure_ (i := 7) (N := some 22) (v := ?_) (a' := ?_) #[ff,tt,ff,ff,tt,ff,ff,tt,ff,ff,ff,ff,ff,ff,ff,ff] rfl rfl (any_of HT_.out (by kernel_rfl)) (fun _ _ _ h => h) (Or.inl ⟨by rfl, ?_⟩) ?_ ?_
    rotate_left
    exact zq238
    rotate_left
    exact zq239
    refine take_ (i := 0) (N := some 15) (v := ?_) (a' := ?_) #[tt,tt,ff,ff,tt,ff,ff,tt,ff,ff,ff,ff,ff,ff,ff,ff] rfl rfl (take_ofW HT_.out HW_.out (by kernel_rfl)) (fun _ _ _ h => h) (Or.inl ⟨by rfl, ?_⟩) hHeld ?_ ?_
    rotate_left
    exact zq246
    rotate_left
    exact zq239
    refine join_ (σ := Value × Nat) 2 #[tt,tt,tt,tt,tt,tt,tt,tt,tt,tt,tt,tt,tt,tt,ff,ff] (fun s_ => [(17, .int .i64 t194), (20, .int .i64 t196), (23, .string t198), (24, .tuple #[.agg #[.int .i64 t200, s_.1], .int .i64 t204]), (5, .pointer (some ⟨s_.2, 0, none⟩)), (18, .int .i64 (wrap64 (1 + t194))), (21, .int .i64 (wrap64 (1 + t196))), (14, .tuple #[.agg #[.int .i64 t200, s_.1], .int .i64 t204]), (25, .agg #[.int .i64 t200, s_.1]), (26, .int .i64 t204)]) (fun s_ w' => (w'.cell? ⟨gb191, 0, none⟩ = some (.int .i64 x192000_1) ∧ w'.cell? ⟨gb191, 1, none⟩ = some (.slice Ao15 x192001_1.length co15)) ∧ (Kd.R k59 59 w' w.heap.size (fun k_ => some k_ ≠ (.slice Ao15 x192001_1.length co15 : Value).ownBlock) s_.1 t201) ∧ (Kd.R k59 59 w' w.heap.size (fun k_ => some k_ ≠ (s_.1 : Value).ownBlock) (.slice Ao15 x192001_1.length co15) x192001_1) ∧ (w'.heap[gb190]? = some (.cells #[.int .i64 0, .slice none 0 0] 57 (0, 0))) ∧ (w'.heap[gb191]? = some (.cells #[.int .i64 x192000_1, .slice Ao15 x192001_1.length co15] 57 (0, 0))) ∧ (w'.heap[s_.2]? = some (.cells #[.int .i64 0, .slice none 0 0] 57 (0, 0))) ∧ (w.heap.size ≤ s_.2) ∧ (w0.heap.size ≤ s_.2) ∧ (g ≠ s_.2) ∧ (s_.2 ≠ g) ∧ (gb190 ≠ s_.2) ∧ (s_.2 ≠ gb190) ∧ (gb191 ≠ s_.2) ∧ (s_.2 ≠ gb191) ∧ (IsS110 w0 w' g s0_0 t199) ∧ (KeepBut w w' g none) ∧ (Below w0.heap.size w0 w')) ?_ ?_
    rotate_left
    ·
     intro hJ2_5_8_9_13
     refine join_ (σ := Value) 3 #[tt,tt,tt,tt,tt,tt,tt,tt,tt,tt,tt,tt,tt,ff,ff,ff] (fun s_ => [(17, .int .i64 t194), (20, .int .i64 t196), (23, .string t198), (24, .tuple #[.agg #[.int .i64 t200, s_], .int .i64 t204]), (18, .int .i64 (wrap64 (1 + t194))), (21, .int .i64 (wrap64 (1 + t196))), (14, .tuple #[.agg #[.int .i64 t200, s_], .int .i64 t204]), (25, .agg #[.int .i64 t200, s_]), (26, .int .i64 t204)]) (fun s_ w' => (w'.cell? ⟨gb191, 0, none⟩ = some (.int .i64 x192000_1) ∧ w'.cell? ⟨gb191, 1, none⟩ = some (.slice Ao15 x192001_1.length co15)) ∧ (Kd.R k59 59 w' w.heap.size (fun k_ => some k_ ≠ (.slice Ao15 x192001_1.length co15 : Value).ownBlock) s_ t201) ∧ (Kd.R k59 59 w' w.heap.size (fun k_ => some k_ ≠ (s_ : Value).ownBlock) (.slice Ao15 x192001_1.length co15) x192001_1) ∧ (w'.heap[gb190]? = some (.cells #[.int .i64 0, .slice none 0 0] 57 (0, 0))) ∧ (w'.heap[gb191]? = some (.cells #[.int .i64 x192000_1, .slice Ao15 x192001_1.length co15] 57 (0, 0))) ∧ (IsS110 w0 w' g s0_0 t199) ∧ (KeepBut w w' g none) ∧ (Below w0.heap.size w0 w')) ?_ ?_
     rotate_left
     ·
      intro hJ2_5_8_9
      refine join_ (σ := Nat) 6 #[tt,tt,tt,tt,tt,tt,tt,tt,tt,ff,ff,ff,ff,tt,ff,ff] (fun s_ => [(17, .int .i64 t194), (20, .int .i64 t196), (23, .string t198), (5, .pointer (some ⟨s_, 0, none⟩)), (18, .int .i64 (wrap64 (1 + t194))), (21, .int .i64 (wrap64 (1 + t196)))]) (fun s_ w' => (w'.cell? ⟨gb191, 0, none⟩ = some (.int .i64 x192000_1) ∧ w'.cell? ⟨gb191, 1, none⟩ = some (.slice Ao15 x192001_1.length co15)) ∧ (Kd.R k59 59 w' w.heap.size (fun _ => True) (.slice Ao15 x192001_1.length co15) x192001_1) ∧ (w'.heap[gb190]? = some (.cells #[.int .i64 0, .slice none 0 0] 57 (0, 0))) ∧ (w'.heap[gb191]? = some (.cells #[.int .i64 x192000_1, .slice Ao15 x192001_1.length co15] 57 (0, 0))) ∧ (w'.heap[s_]? = some (.cells #[.int .i64 0, .slice none 0 0] 57 (0, 0))) ∧ (w.heap.size ≤ s_) ∧ (w0.heap.size ≤ s_) ∧ (g ≠ s_) ∧ (s_ ≠ g) ∧ (gb190 ≠ s_) ∧ (s_ ≠ gb190) ∧ (gb191 ≠ s_) ∧ (s_ ≠ gb191) ∧ (IsS110 w0 w' g s0_0 t199) ∧ (KeepBut w w' g none) ∧ (Below w0.heap.size w0 w')) ?_ ?_
      rotate_left
      ·
       intro hJ2_5_8_13
       refine join_ (σ := Unit) 7 #[tt,tt,tt,tt,tt,tt,tt,tt,tt,ff,ff,ff,ff,ff,ff,ff] (fun s_ => [(17, .int .i64 t194), (20, .int .i64 t196), (23, .string t198), (18, .int .i64 (wrap64 (1 + t194))), (21, .int .i64 (wrap64 (1 + t196)))]) (fun s_ w' => (w'.cell? ⟨gb191, 0, none⟩ = some (.int .i64 x192000_1) ∧ w'.cell? ⟨gb191, 1, none⟩ = some (.slice Ao15 x192001_1.length co15)) ∧ (Kd.R k59 59 w' w.heap.size (fun _ => True) (.slice Ao15 x192001_1.length co15) x192001_1) ∧ (w'.heap[gb190]? = some (.cells #[.int .i64 0, .slice none 0 0] 57 (0, 0))) ∧ (w'.heap[gb191]? = some (.cells #[.int .i64 x192000_1, .slice Ao15 x192001_1.length co15] 57 (0, 0))) ∧ (IsS110 w0 w' g s0_0 t199) ∧ (KeepBut w w' g none) ∧ (Below w0.heap.size w0 w')) ?_ ?_
       rotate_left
       ·
        intro hJ2_5_8
        refine join_ (σ := Nat) 7 #[tt,tt,tt,tt,tt,tt,tt,tt,ff,ff,ff,ff,ff,tt,ff,ff] (fun s_ => [(17, .int .i64 t194), (20, .int .i64 t196), (5, .pointer (some ⟨s_, 0, none⟩)), (18, .int .i64 (wrap64 (1 + t194))), (21, .int .i64 (wrap64 (1 + t196)))]) (fun s_ w' => (w'.cell? ⟨gb191, 0, none⟩ = some (.int .i64 x192000_1) ∧ w'.cell? ⟨gb191, 1, none⟩ = some (.slice Ao15 x192001_1.length co15)) ∧ (Kd.R k59 59 w' w.heap.size (fun _ => True) (.slice Ao15 x192001_1.length co15) x192001_1) ∧ (w'.heap[gb190]? = some (.cells #[.int .i64 0, .slice none 0 0] 57 (0, 0))) ∧ (w'.heap[gb191]? = some (.cells #[.int .i64 x192000_1, .slice Ao15 x192001_1.length co15] 57 (0, 0))) ∧ (w'.heap[s_]? = some (.cells #[.int .i64 0, .slice none 0 0] 57 (0, 0))) ∧ (w.heap.size ≤ s_) ∧ (w0.heap.size ≤ s_) ∧ (g ≠ s_) ∧ (s_ ≠ g) ∧ (gb190 ≠ s_) ∧ (s_ ≠ gb190) ∧ (gb191 ≠ s_) ∧ (s_ ≠ gb191) ∧ (IsS110 w0 w' g s0_0 t197) ∧ (KeepBut w w' g none) ∧ (Below w0.heap.size w0 w')) ?_ ?_
        rotate_left
        ·
         intro hJ2_5_13
         refine join_ (σ := Unit) 8 #[tt,tt,tt,tt,tt,tt,tt,tt,ff,ff,ff,ff,ff,ff,ff,ff] (fun s_ => [(17, .int .i64 t194), (20, .int .i64 t196), (18, .int .i64 (wrap64 (1 + t194))), (21, .int .i64 (wrap64 (1 + t196)))]) (fun s_ w' => (w'.cell? ⟨gb191, 0, none⟩ = some (.int .i64 x192000_1) ∧ w'.cell? ⟨gb191, 1, none⟩ = some (.slice Ao15 x192001_1.length co15)) ∧ (Kd.R k59 59 w' w.heap.size (fun _ => True) (.slice Ao15 x192001_1.length co15) x192001_1) ∧ (w'.heap[gb190]? = some (.cells #[.int .i64 0, .slice none 0 0] 57 (0, 0))) ∧ (w'.heap[gb191]? = some (.cells #[.int .i64 x192000_1, .slice Ao15 x192001_1.length co15] 57 (0, 0))) ∧ (IsS110 w0 w' g s0_0 t197) ∧ (KeepBut w w' g none) ∧ (Below w0.heap.size w0 w')) ?_ ?_
         rotate_left
         ·
          intro hJ2_5
          refine join_ (σ := Nat) 9 #[tt,tt,tt,tt,tt,ff,ff,tt,ff,ff,ff,ff,ff,tt,ff,ff] (fun s_ => [(17, .int .i64 t194), (5, .pointer (some ⟨s_, 0, none⟩)), (18, .int .i64 (wrap64 (1 + t194)))]) (fun s_ w' => (w'.cell? ⟨gb191, 0, none⟩ = some (.int .i64 x192000_1) ∧ w'.cell? ⟨gb191, 1, none⟩ = some (.slice Ao15 x192001_1.length co15)) ∧ (Kd.R k59 59 w' w.heap.size (fun _ => True) (.slice Ao15 x192001_1.length co15) x192001_1) ∧ (w'.heap[gb190]? = some (.cells #[.int .i64 0, .slice none 0 0] 57 (0, 0))) ∧ (w'.heap[gb191]? = some (.cells #[.int .i64 x192000_1, .slice Ao15 x192001_1.length co15] 57 (0, 0))) ∧ (w'.heap[s_]? = some (.cells #[.int .i64 0, .slice none 0 0] 57 (0, 0))) ∧ (w.heap.size ≤ s_) ∧ (w0.heap.size ≤ s_) ∧ (g ≠ s_) ∧ (s_ ≠ g) ∧ (gb190 ≠ s_) ∧ (s_ ≠ gb190) ∧ (gb191 ≠ s_) ∧ (s_ ≠ gb191) ∧ (IsS110 w0 w' g s0_0 t195) ∧ (KeepBut w w' g none) ∧ (Below w0.heap.size w0 w')) ?_ ?_
          rotate_left
          ·
           intro hJ2_13
           refine join_ (σ := Unit) 10 #[tt,tt,tt,tt,tt,ff,ff,tt,ff,ff,ff,ff,ff,ff,ff,ff] (fun s_ => [(17, .int .i64 t194), (18, .int .i64 (wrap64 (1 + t194)))]) (fun s_ w' => (w'.cell? ⟨gb191, 0, none⟩ = some (.int .i64 x192000_1) ∧ w'.cell? ⟨gb191, 1, none⟩ = some (.slice Ao15 x192001_1.length co15)) ∧ (Kd.R k59 59 w' w.heap.size (fun _ => True) (.slice Ao15 x192001_1.length co15) x192001_1) ∧ (w'.heap[gb190]? = some (.cells #[.int .i64 0, .slice none 0 0] 57 (0, 0))) ∧ (w'.heap[gb191]? = some (.cells #[.int .i64 x192000_1, .slice Ao15 x192001_1.length co15] 57 (0, 0))) ∧ (IsS110 w0 w' g s0_0 t195) ∧ (KeepBut w w' g none) ∧ (Below w0.heap.size w0 w')) ?_ ?_
           rotate_left
           ·
            intro hJ2
            refine join_ (σ := Nat) 11 #[tt,tt,ff,ff,tt,ff,ff,tt,ff,ff,ff,ff,ff,tt,ff,ff] (fun s_ => [(5, .pointer (some ⟨s_, 0, none⟩))]) (fun s_ w' => (w'.cell? ⟨gb191, 0, none⟩ = some (.int .i64 x192000_1) ∧ w'.cell? ⟨gb191, 1, none⟩ = some (.slice Ao15 x192001_1.length co15)) ∧ (Kd.R k59 59 w' w.heap.size (fun _ => True) (.slice Ao15 x192001_1.length co15) x192001_1) ∧ (w'.heap[gb190]? = some (.cells #[.int .i64 0, .slice none 0 0] 57 (0, 0))) ∧ (w'.heap[gb191]? = some (.cells #[.int .i64 x192000_1, .slice Ao15 x192001_1.length co15] 57 (0, 0))) ∧ (w'.heap[s_]? = some (.cells #[.int .i64 0, .slice none 0 0] 57 (0, 0))) ∧ (w.heap.size ≤ s_) ∧ (w0.heap.size ≤ s_) ∧ (g ≠ s_) ∧ (s_ ≠ g) ∧ (gb190 ≠ s_) ∧ (s_ ≠ gb190) ∧ (gb191 ≠ s_) ∧ (s_ ≠ gb191) ∧ (IsS110 w0 w' g s0_0 x1001_1) ∧ (KeepBut w w' g none) ∧ (Below w0.heap.size w0 w')) ?_ ?_
            rotate_left
            ·
             intro hJ13
             refine two_ (i := 2) (j := 13) (Ni := some 17) (Nj := some 5) #[tt,tt,tt,ff,tt,ff,ff,tt,ff,ff,ff,ff,ff,ff,ff,ff] #[tt,tt,ff,ff,tt,ff,ff,tt,ff,ff,ff,ff,ff,tt,ff,ff] rfl rfl rfl rfl (two_of HT_.out (by kernel_rfl)) (by decide) (by decide) (fun K hK => ?_) (fun K hK => ?_)
             ·
              skip
              refine goes_ Try.func63 (by kernel_rfl) rfl #[.pointer (some ⟨g, 0, none⟩), .int .i64 3] (by rfl) rfl rfl zq12 ?_
              with_reducible refine (spec_l1Rd_below.calls g s0_0 x1001_1 3 t194 t195 w0 _ ?side1 ?side2 A10.out).mono ?_
              (case side1 => exact zq115)
              (case side2 => exact zq116)
              rintro e w17 ⟨rfl, hi, hb, hk⟩
              refine ⟨_, rfl, ?_⟩
              have n0_ := Aside0.mk (Kd.R_mono (Kd.R_keep (IsS110.apart (show IsS110 w0 _ g s0_0 x1001_1 from by repeat (first | (with_reducible first | exact HI0.out | apply IsS110.alloc | apply IsS110.drewN | apply IsS110.drew | apply IsS110.set_1 | refine IsS110.far ?_ NB0_190.out _ | refine IsS110.far ?_ NB0_191.out _) | exact HI0.out)) zq120 (by decide)) hk (fun _ h => h.2)) (fun _ h => h.1))
              have n1_ := Aside0.mk (KeepBut.blk hk (g' := gb190) (o := .cells #[.int .i64 0, .slice none 0 0] 57 (0, 0)) zq113 NB190_0.out (by simp))
              have n2_ := Aside0.mk (KeepBut.blk hk (g' := gb191) (o := .cells #[.int .i64 x192000_1, .slice Ao15 x192001_1.length co15] 57 (0, 0)) zq119 NB191_0.out (by simp))
              have n3_ := Aside0.mk (KeepBut.trans zq118 hk (.inl rfl))
              have n4_ := Aside0.mk (hb)
              have n5_ := Aside0.mk (hi)
              clear HO_192001
              clear BK190
              clear BK191
              clear HK
              clear HB
              clear HI0
              have HO_192001 := n0_
              have BK190 := n1_
              have BK191 := n2_
              have HK := n3_
              have HB := n4_
              have HI0 := n5_
              clear n0_ n1_ n2_ n3_ n4_ n5_
              (try clear hb)
              (try clear hb2)
              (try clear hk)
              (try clear hi)
              refine hK.out _ _ ⟨(blk_cell BK191.out 0).trans rfl, (blk_cell BK191.out 1).trans rfl⟩ (fun hHeld => ?_)
              clear hK K
              refine norm_ (a' := ?_) ?_ ?_
              rotate_left
              ·
               show Act.put _ (some 17) _ = _
               simp only [Act.put, List.setIfInBounds_toArray, List.set_cons_zero, List.set_cons_succ, i64_w, i32_w]
               rfl
              refine pure_ (i := 3) (N := some 18) (v := ?_) (a' := ?_) #[tt,tt,tt,tt,tt,ff,ff,tt,ff,ff,ff,ff,ff,ff,ff,ff] rfl rfl (any_of HT_.out (by kernel_rfl)) (fun _ _ _ h => h) (Or.inl ⟨by rfl, ?_⟩) ?_ ?_
              rotate_left
              exact zq238
              rotate_left
              exact zq239
              exact norm_ zq121 (hJ2 () _ ⟨hHeld, zq120, zq113, zq119, zq115, zq118, zq116⟩)
             ·
              skip
              refine box_step ?hg (N := 5) ?hd (cs := #[.int .i64 0, .slice none 0 0]) (t := 57) ?hr ?_; (case hd => rfl); (case hg => rfl); (case hr => exact zq5)
              intro gb205 hg w17 hbox hb
              have n0_ := Aside0.mk (Kd.R_below zq120 hb)
              have n1_ := Aside0.mk (blk_below (g := gb190) (o := .cells #[.int .i64 0, .slice none 0 0] 57 (0, 0)) zq113 hb)
              have n2_ := Aside0.mk (blk_below (g := gb191) (o := .cells #[.int .i64 x192000_1, .slice Ao15 x192001_1.length co15] 57 (0, 0)) zq119 hb)
              have n3_ := Aside0.mk (IsS110.below zq115 hb)
              have n4_ := Aside0.mk (KeepBut.trans zq118 (KeepBut.of_below hb g none) (.inl rfl))
              have n5_ := Aside0.mk (below_step zq116 hb)
              have n6_ := Aside0.mk (hbox)
              have n7_ := Aside0.mk ((zq223 : w.heap.size ≤ gb205))
              have n8_ := Aside0.mk ((Nat.le_trans HW0.out (zq223 : w.heap.size ≤ gb205) : w0.heap.size ≤ gb205))
              have n9_ := Aside0.mk ((zq221 : gb190 ≠ gb205))
              have n10_ := Aside0.mk ((zq222 : gb205 ≠ gb190))
              have n11_ := Aside0.mk ((zq224 : gb191 ≠ gb205))
              have n12_ := Aside0.mk ((zq225 : gb205 ≠ gb191))
              have n13_ := Aside0.mk ((by rw [hg]; exact Nat.ne_of_lt (IsS110.lt (show IsS110 w0 _ g s0_0 x1001_1 from by repeat (first | (with_reducible first | exact HI0.out | apply IsS110.alloc | apply IsS110.drewN | apply IsS110.drew | apply IsS110.set_1 | refine IsS110.far ?_ NB0_190.out _ | refine IsS110.far ?_ NB0_191.out _) | exact HI0.out))) : g ≠ gb205))
              have n14_ := Aside0.mk ((by rw [hg]; exact Nat.ne_of_gt (IsS110.lt (show IsS110 w0 _ g s0_0 x1001_1 from by repeat (first | (with_reducible first | exact HI0.out | apply IsS110.alloc | apply IsS110.drewN | apply IsS110.drew | apply IsS110.set_1 | refine IsS110.far ?_ NB0_190.out _ | refine IsS110.far ?_ NB0_191.out _) | exact HI0.out))) : gb205 ≠ g))
              clear HO_192001
              clear BK190
              clear BK191
              clear HI0
              clear HK
              clear HB
              have HO_192001 := n0_
              have BK190 := n1_
              have BK191 := n2_
              have HI0 := n3_
              have HK := n4_
              have HB := n5_
              have BK205 := n6_
              have GW205 := n7_
              have GE205 := n8_
              have NB190_205 := n9_
              have NB205_190 := n10_
              have NB191_205 := n11_
              have NB205_191 := n12_
              have NB0_205 := n13_
              have NB205_0 := n14_
              clear n0_ n1_ n2_ n3_ n4_ n5_ n6_ n7_ n8_ n9_ n10_ n11_ n12_ n13_ n14_
              clear hb hbox hg
              refine hK.out _ _ ⟨(blk_cell BK191.out 0).trans rfl, (blk_cell BK191.out 1).trans rfl⟩ (fun hHeld => ?_)
              clear hK K
              refine norm_ (a' := ?_) ?_ ?_
              rotate_left
              exact zq247
              exact norm_ zq121 (hJ13 (gb205) _ ⟨hHeld, zq120, zq113, zq119, zq122, GW205.out, GE205.out, NB0_205.out, NB205_0.out, NB190_205.out, NB205_190.out, NB191_205.out, NB205_191.out, zq123, zq124, zq125⟩)
            ·
             skip
             rintro gb205 w18 ⟨hS_, h0_, h1_, h2_, h3_, h4_, h5_, h6_, h7_, h8_, h9_, h10_, h11_, h12_, h13_, h14_⟩
             have n0_ : Aside0 (Kd.R k59 59 w18 w.heap.size (fun _ => True) (.slice Ao15 x192001_1.length co15) x192001_1) := ⟨h0_⟩
             have n1_ : Aside0 (w18.heap[gb190]? = some (.cells #[.int .i64 0, .slice none 0 0] 57 (0, 0))) := ⟨h1_⟩
             have n2_ : Aside0 (w18.heap[gb191]? = some (.cells #[.int .i64 x192000_1, .slice Ao15 x192001_1.length co15] 57 (0, 0))) := ⟨h2_⟩
             have n3_ : Aside0 (w18.heap[gb205]? = some (.cells #[.int .i64 0, .slice none 0 0] 57 (0, 0))) := ⟨h3_⟩
             have n4_ : Aside0 (w.heap.size ≤ gb205) := ⟨h4_⟩
             have n5_ : Aside0 (w0.heap.size ≤ gb205) := ⟨h5_⟩
             have n6_ : Aside0 (g ≠ gb205) := ⟨h6_⟩
             have n7_ : Aside0 (gb205 ≠ g) := ⟨h7_⟩
             have n8_ : Aside0 (gb190 ≠ gb205) := ⟨h8_⟩
             have n9_ : Aside0 (gb205 ≠ gb190) := ⟨h9_⟩
             have n10_ : Aside0 (gb191 ≠ gb205) := ⟨h10_⟩
             have n11_ : Aside0 (gb205 ≠ gb191) := ⟨h11_⟩
             have n12_ : Aside0 (IsS110 w0 w18 g s0_0 x1001_1) := ⟨h12_⟩
             have n13_ : Aside0 (KeepBut w w18 g none) := ⟨h13_⟩
             have n14_ : Aside0 (Below w0.heap.size w0 w18) := ⟨h14_⟩
             clear HO_192001
             clear BK190
             clear BK191
             clear HI0
             clear HK
             clear HB
             clear h0_ h1_ h2_ h3_ h4_ h5_ h6_ h7_ h8_ h9_ h10_ h11_ h12_ h13_ h14_
             have HO_192001 := n0_
             have BK190 := n1_
             have BK191 := n2_
             have BK205 := n3_
             have GW205 := n4_
             have GE205 := n5_
             have NB0_205 := n6_
             have NB205_0 := n7_
             have NB190_205 := n8_
             have NB205_190 := n9_
             have NB191_205 := n10_
             have NB205_191 := n11_
             have HI0 := n12_
             have HK := n13_
             have HB := n14_
             clear n0_ n1_ n2_ n3_ n4_ n5_ n6_ n7_ n8_ n9_ n10_ n11_ n12_ n13_ n14_
             have hHeld : w18.cell? ⟨gb191, 0, none⟩ = some (.int .i64 x192000_1) ∧ w18.cell? ⟨gb191, 1, none⟩ = some (.slice Ao15 x192001_1.length co15) := hS_
             refine norm_ (a' := ?_) ?_ ?_
             rotate_left
             exact zq248
             refine one_ (i := 2) (N := some 17) #[tt,tt,tt,ff,tt,ff,ff,tt,ff,ff,ff,ff,ff,tt,ff,ff] rfl rfl (one_of HT_.out (by kernel_rfl)) (by decide) (fun K hK => ?_)
             refine goes_ Try.func63 (by kernel_rfl) rfl #[.pointer (some ⟨g, 0, none⟩), .int .i64 3] (by rfl) rfl rfl zq12 ?_
             with_reducible refine (spec_l1Rd_below.calls g s0_0 x1001_1 3 t194 t195 w0 _ ?side1 ?side2 A10.out).mono ?_
             (case side1 => exact zq123)
             (case side2 => exact zq125)
             rintro e w19 ⟨rfl, hi, hb, hk⟩
             refine ⟨_, rfl, ?_⟩
             have n0_ := Aside0.mk (Kd.R_mono (Kd.R_keep (IsS110.apart (show IsS110 w0 _ g s0_0 x1001_1 from by repeat (first | (with_reducible first | exact HI0.out | apply IsS110.alloc | apply IsS110.drewN | apply IsS110.drew | apply IsS110.set_1 | refine IsS110.far ?_ NB0_190.out _ | refine IsS110.far ?_ NB0_191.out _ | refine IsS110.far ?_ NB0_205.out _) | exact HI0.out)) zq120 (by decide)) hk (fun _ h => h.2)) (fun _ h => h.1))
             have n1_ := Aside0.mk (KeepBut.blk hk (g' := gb190) (o := .cells #[.int .i64 0, .slice none 0 0] 57 (0, 0)) zq113 NB190_0.out (by simp))
             have n2_ := Aside0.mk (KeepBut.blk hk (g' := gb191) (o := .cells #[.int .i64 x192000_1, .slice Ao15 x192001_1.length co15] 57 (0, 0)) zq119 NB191_0.out (by simp))
             have n3_ := Aside0.mk (KeepBut.blk hk (g' := gb205) (o := .cells #[.int .i64 0, .slice none 0 0] 57 (0, 0)) zq122 NB205_0.out (by simp))
             have n4_ := Aside0.mk (KeepBut.trans zq124 hk (.inl rfl))
             have n5_ := Aside0.mk (hb)
             have n6_ := Aside0.mk (hi)
             clear HO_192001
             clear BK190
             clear BK191
             clear BK205
             clear HK
             clear HB
             clear HI0
             have HO_192001 := n0_
             have BK190 := n1_
             have BK191 := n2_
             have BK205 := n3_
             have HK := n4_
             have HB := n5_
             have HI0 := n6_
             clear n0_ n1_ n2_ n3_ n4_ n5_ n6_
             (try clear hb)
             (try clear hb2)
             (try clear hk)
             (try clear hi)
             refine hK.out _ _ ⟨(blk_cell BK191.out 0).trans rfl, (blk_cell BK191.out 1).trans rfl⟩ (fun hHeld => ?_)
             clear hK K
             refine norm_ (a' := ?_) ?_ ?_
             rotate_left
             ·
              show Act.put _ (some 17) _ = _
              simp only [Act.put, List.setIfInBounds_toArray, List.set_cons_zero, List.set_cons_succ, i64_w, i32_w]
              rfl
             refine pure_ (i := 3) (N := some 18) (v := ?_) (a' := ?_) #[tt,tt,tt,tt,tt,ff,ff,tt,ff,ff,ff,ff,ff,tt,ff,ff] rfl rfl (any_of HT_.out (by kernel_rfl)) (fun _ _ _ h => h) (Or.inl ⟨by rfl, ?_⟩) ?_ ?_
             rotate_left
             exact zq238
             rotate_left
             exact zq239
             exact norm_ zq121 (hJ2_13 (gb205) _ ⟨hHeld, zq120, zq113, zq119, zq122, GW205.out, GE205.out, NB0_205.out, NB205_0.out, NB190_205.out, NB205_190.out, NB191_205.out, NB205_191.out, zq123, zq124, zq125⟩)
           ·
            skip
            rintro _ w18 ⟨hS_, h0_, h1_, h2_, h3_, h4_, h5_⟩
            have n0_ : Aside0 (Kd.R k59 59 w18 w.heap.size (fun _ => True) (.slice Ao15 x192001_1.length co15) x192001_1) := ⟨h0_⟩
            have n1_ : Aside0 (w18.heap[gb190]? = some (.cells #[.int .i64 0, .slice none 0 0] 57 (0, 0))) := ⟨h1_⟩
            have n2_ : Aside0 (w18.heap[gb191]? = some (.cells #[.int .i64 x192000_1, .slice Ao15 x192001_1.length co15] 57 (0, 0))) := ⟨h2_⟩
            have n3_ : Aside0 (IsS110 w0 w18 g s0_0 t195) := ⟨h3_⟩
            have n4_ : Aside0 (KeepBut w w18 g none) := ⟨h4_⟩
            have n5_ : Aside0 (Below w0.heap.size w0 w18) := ⟨h5_⟩
            clear HO_192001
            clear BK190
            clear BK191
            clear HI0
            clear HK
            clear HB
            clear h0_ h1_ h2_ h3_ h4_ h5_
            have HO_192001 := n0_
            have BK190 := n1_
            have BK191 := n2_
            have HI0 := n3_
            have HK := n4_
            have HB := n5_
            clear n0_ n1_ n2_ n3_ n4_ n5_
            have hHeld : w18.cell? ⟨gb191, 0, none⟩ = some (.int .i64 x192000_1) ∧ w18.cell? ⟨gb191, 1, none⟩ = some (.slice Ao15 x192001_1.length co15) := hS_
            refine norm_ (a' := ?_) ?_ ?_
            rotate_left
            exact zq248
            refine two_ (i := 5) (j := 13) (Ni := some 20) (Nj := some 5) #[tt,tt,tt,tt,tt,tt,ff,tt,ff,ff,ff,ff,ff,ff,ff,ff] #[tt,tt,tt,tt,tt,ff,ff,tt,ff,ff,ff,ff,ff,tt,ff,ff] rfl rfl rfl rfl (two_of HT_.out (by kernel_rfl)) (by decide) (by decide) (fun K hK => ?_) (fun K hK => ?_)
            ·
             skip
             refine goes_ Try.func63 (by kernel_rfl) rfl #[.pointer (some ⟨g, 0, none⟩), .int .i64 3] (by rfl) rfl rfl zq12 ?_
             with_reducible refine (spec_l1Rd_below.calls g s0_0 t195 3 t196 t197 w0 _ ?side1 ?side2 A11.out).mono ?_
             (case side1 => exact zq115)
             (case side2 => exact zq116)
             rintro e w19 ⟨rfl, hi, hb, hk⟩
             refine ⟨_, rfl, ?_⟩
             have n0_ := Aside0.mk (Kd.R_mono (Kd.R_keep (IsS110.apart (show IsS110 w0 _ g s0_0 t195 from by repeat (first | (with_reducible first | exact HI0.out | apply IsS110.alloc | apply IsS110.drewN | apply IsS110.drew | apply IsS110.set_1 | refine IsS110.far ?_ NB0_190.out _ | refine IsS110.far ?_ NB0_191.out _) | exact HI0.out)) zq120 (by decide)) hk (fun _ h => h.2)) (fun _ h => h.1))
             have n1_ := Aside0.mk (KeepBut.blk hk (g' := gb190) (o := .cells #[.int .i64 0, .slice none 0 0] 57 (0, 0)) zq113 NB190_0.out (by simp))
             have n2_ := Aside0.mk (KeepBut.blk hk (g' := gb191) (o := .cells #[.int .i64 x192000_1, .slice Ao15 x192001_1.length co15] 57 (0, 0)) zq119 NB191_0.out (by simp))
             have n3_ := Aside0.mk (KeepBut.trans zq118 hk (.inl rfl))
             have n4_ := Aside0.mk (hb)
             have n5_ := Aside0.mk (hi)
             clear HO_192001
             clear BK190
             clear BK191
             clear HK
             clear HB
             clear HI0
             have HO_192001 := n0_
             have BK190 := n1_
             have BK191 := n2_
             have HK := n3_
             have HB := n4_
             have HI0 := n5_
             clear n0_ n1_ n2_ n3_ n4_ n5_
             (try clear hb)
             (try clear hb2)
             (try clear hk)
             (try clear hi)
             refine hK.out _ _ ⟨(blk_cell BK191.out 0).trans rfl, (blk_cell BK191.out 1).trans rfl⟩ (fun hHeld => ?_)
             clear hK K
             refine norm_ (a' := ?_) ?_ ?_
             rotate_left
             ·
              show Act.put _ (some 20) _ = _
              simp only [Act.put, List.setIfInBounds_toArray, List.set_cons_zero, List.set_cons_succ, i64_w, i32_w]
              rfl
             refine pure_ (i := 6) (N := some 21) (v := ?_) (a' := ?_) #[tt,tt,tt,tt,tt,tt,tt,tt,ff,ff,ff,ff,ff,ff,ff,ff] rfl rfl (any_of HT_.out (by kernel_rfl)) (fun _ _ _ h => h) (Or.inl ⟨by rfl, ?_⟩) ?_ ?_
             rotate_left
             exact zq238
             rotate_left
             exact zq239
             exact norm_ zq121 (hJ2_5 () _ ⟨hHeld, zq120, zq113, zq119, zq115, zq118, zq116⟩)
            ·
             skip
             refine box_step ?hg (N := 5) ?hd (cs := #[.int .i64 0, .slice none 0 0]) (t := 57) ?hr ?_; (case hd => rfl); (case hg => rfl); (case hr => exact zq5)
             intro gb205 hg w19 hbox hb
             have n0_ := Aside0.mk (Kd.R_below zq120 hb)
             have n1_ := Aside0.mk (blk_below (g := gb190) (o := .cells #[.int .i64 0, .slice none 0 0] 57 (0, 0)) zq113 hb)
             have n2_ := Aside0.mk (blk_below (g := gb191) (o := .cells #[.int .i64 x192000_1, .slice Ao15 x192001_1.length co15] 57 (0, 0)) zq119 hb)
             have n3_ := Aside0.mk (IsS110.below zq115 hb)
             have n4_ := Aside0.mk (KeepBut.trans zq118 (KeepBut.of_below hb g none) (.inl rfl))
             have n5_ := Aside0.mk (below_step zq116 hb)
             have n6_ := Aside0.mk (hbox)
             have n7_ := Aside0.mk ((zq223 : w.heap.size ≤ gb205))
             have n8_ := Aside0.mk ((Nat.le_trans HW0.out (zq223 : w.heap.size ≤ gb205) : w0.heap.size ≤ gb205))
             have n9_ := Aside0.mk ((zq221 : gb190 ≠ gb205))
             have n10_ := Aside0.mk ((zq222 : gb205 ≠ gb190))
             have n11_ := Aside0.mk ((zq224 : gb191 ≠ gb205))
             have n12_ := Aside0.mk ((zq225 : gb205 ≠ gb191))
             have n13_ := Aside0.mk ((by rw [hg]; exact Nat.ne_of_lt (IsS110.lt (show IsS110 w0 _ g s0_0 t195 from by repeat (first | (with_reducible first | exact HI0.out | apply IsS110.alloc | apply IsS110.drewN | apply IsS110.drew | apply IsS110.set_1 | refine IsS110.far ?_ NB0_190.out _ | refine IsS110.far ?_ NB0_191.out _) | exact HI0.out))) : g ≠ gb205))
             have n14_ := Aside0.mk ((by rw [hg]; exact Nat.ne_of_gt (IsS110.lt (show IsS110 w0 _ g s0_0 t195 from by repeat (first | (with_reducible first | exact HI0.out | apply IsS110.alloc | apply IsS110.drewN | apply IsS110.drew | apply IsS110.set_1 | refine IsS110.far ?_ NB0_190.out _ | refine IsS110.far ?_ NB0_191.out _) | exact HI0.out))) : gb205 ≠ g))
             clear HO_192001
             clear BK190
             clear BK191
             clear HI0
             clear HK
             clear HB
             have HO_192001 := n0_
             have BK190 := n1_
             have BK191 := n2_
             have HI0 := n3_
             have HK := n4_
             have HB := n5_
             have BK205 := n6_
             have GW205 := n7_
             have GE205 := n8_
             have NB190_205 := n9_
             have NB205_190 := n10_
             have NB191_205 := n11_
             have NB205_191 := n12_
             have NB0_205 := n13_
             have NB205_0 := n14_
             clear n0_ n1_ n2_ n3_ n4_ n5_ n6_ n7_ n8_ n9_ n10_ n11_ n12_ n13_ n14_
             clear hb hbox hg
             refine hK.out _ _ ⟨(blk_cell BK191.out 0).trans rfl, (blk_cell BK191.out 1).trans rfl⟩ (fun hHeld => ?_)
             clear hK K
             refine norm_ (a' := ?_) ?_ ?_
             rotate_left
             exact zq247
             exact norm_ zq121 (hJ2_13 (gb205) _ ⟨hHeld, zq120, zq113, zq119, zq122, GW205.out, GE205.out, NB0_205.out, NB205_0.out, NB190_205.out, NB205_190.out, NB191_205.out, NB205_191.out, zq123, zq124, zq125⟩)
          ·
           skip
           rintro gb205 w19 ⟨hS_, h0_, h1_, h2_, h3_, h4_, h5_, h6_, h7_, h8_, h9_, h10_, h11_, h12_, h13_, h14_⟩
           have n0_ : Aside0 (Kd.R k59 59 w19 w.heap.size (fun _ => True) (.slice Ao15 x192001_1.length co15) x192001_1) := ⟨h0_⟩
           have n1_ : Aside0 (w19.heap[gb190]? = some (.cells #[.int .i64 0, .slice none 0 0] 57 (0, 0))) := ⟨h1_⟩
           have n2_ : Aside0 (w19.heap[gb191]? = some (.cells #[.int .i64 x192000_1, .slice Ao15 x192001_1.length co15] 57 (0, 0))) := ⟨h2_⟩
           have n3_ : Aside0 (w19.heap[gb205]? = some (.cells #[.int .i64 0, .slice none 0 0] 57 (0, 0))) := ⟨h3_⟩
           have n4_ : Aside0 (w.heap.size ≤ gb205) := ⟨h4_⟩
           have n5_ : Aside0 (w0.heap.size ≤ gb205) := ⟨h5_⟩
           have n6_ : Aside0 (g ≠ gb205) := ⟨h6_⟩
           have n7_ : Aside0 (gb205 ≠ g) := ⟨h7_⟩
           have n8_ : Aside0 (gb190 ≠ gb205) := ⟨h8_⟩
           have n9_ : Aside0 (gb205 ≠ gb190) := ⟨h9_⟩
           have n10_ : Aside0 (gb191 ≠ gb205) := ⟨h10_⟩
           have n11_ : Aside0 (gb205 ≠ gb191) := ⟨h11_⟩
           have n12_ : Aside0 (IsS110 w0 w19 g s0_0 t195) := ⟨h12_⟩
           have n13_ : Aside0 (KeepBut w w19 g none) := ⟨h13_⟩
           have n14_ : Aside0 (Below w0.heap.size w0 w19) := ⟨h14_⟩
           clear HO_192001
           clear BK190
           clear BK191
           clear HI0
           clear HK
           clear HB
           clear h0_ h1_ h2_ h3_ h4_ h5_ h6_ h7_ h8_ h9_ h10_ h11_ h12_ h13_ h14_
           have HO_192001 := n0_
           have BK190 := n1_
           have BK191 := n2_
           have BK205 := n3_
           have GW205 := n4_
           have GE205 := n5_
           have NB0_205 := n6_
           have NB205_0 := n7_
           have NB190_205 := n8_
           have NB205_190 := n9_
           have NB191_205 := n10_
           have NB205_191 := n11_
           have HI0 := n12_
           have HK := n13_
           have HB := n14_
           clear n0_ n1_ n2_ n3_ n4_ n5_ n6_ n7_ n8_ n9_ n10_ n11_ n12_ n13_ n14_
           have hHeld : w19.cell? ⟨gb191, 0, none⟩ = some (.int .i64 x192000_1) ∧ w19.cell? ⟨gb191, 1, none⟩ = some (.slice Ao15 x192001_1.length co15) := hS_
           refine norm_ (a' := ?_) ?_ ?_
           rotate_left
           exact zq248
           refine one_ (i := 5) (N := some 20) #[tt,tt,tt,tt,tt,tt,ff,tt,ff,ff,ff,ff,ff,tt,ff,ff] rfl rfl (one_of HT_.out (by kernel_rfl)) (by decide) (fun K hK => ?_)
           refine goes_ Try.func63 (by kernel_rfl) rfl #[.pointer (some ⟨g, 0, none⟩), .int .i64 3] (by rfl) rfl rfl zq12 ?_
           with_reducible refine (spec_l1Rd_below.calls g s0_0 t195 3 t196 t197 w0 _ ?side1 ?side2 A11.out).mono ?_
           (case side1 => exact zq123)
           (case side2 => exact zq125)
           rintro e w20 ⟨rfl, hi, hb, hk⟩
           refine ⟨_, rfl, ?_⟩
           have n0_ := Aside0.mk (Kd.R_mono (Kd.R_keep (IsS110.apart (show IsS110 w0 _ g s0_0 t195 from by repeat (first | (with_reducible first | exact HI0.out | apply IsS110.alloc | apply IsS110.drewN | apply IsS110.drew | apply IsS110.set_1 | refine IsS110.far ?_ NB0_190.out _ | refine IsS110.far ?_ NB0_191.out _ | refine IsS110.far ?_ NB0_205.out _) | exact HI0.out)) zq120 (by decide)) hk (fun _ h => h.2)) (fun _ h => h.1))
           have n1_ := Aside0.mk (KeepBut.blk hk (g' := gb190) (o := .cells #[.int .i64 0, .slice none 0 0] 57 (0, 0)) zq113 NB190_0.out (by simp))
           have n2_ := Aside0.mk (KeepBut.blk hk (g' := gb191) (o := .cells #[.int .i64 x192000_1, .slice Ao15 x192001_1.length co15] 57 (0, 0)) zq119 NB191_0.out (by simp))
           have n3_ := Aside0.mk (KeepBut.blk hk (g' := gb205) (o := .cells #[.int .i64 0, .slice none 0 0] 57 (0, 0)) zq122 NB205_0.out (by simp))
           have n4_ := Aside0.mk (KeepBut.trans zq124 hk (.inl rfl))
           have n5_ := Aside0.mk (hb)
           have n6_ := Aside0.mk (hi)
           clear HO_192001
           clear BK190
           clear BK191
           clear BK205
           clear HK
           clear HB
           clear HI0
           have HO_192001 := n0_
           have BK190 := n1_
           have BK191 := n2_
           have BK205 := n3_
           have HK := n4_
           have HB := n5_
           have HI0 := n6_
           clear n0_ n1_ n2_ n3_ n4_ n5_ n6_
           (try clear hb)
           (try clear hb2)
           (try clear hk)
           (try clear hi)
           refine hK.out _ _ ⟨(blk_cell BK191.out 0).trans rfl, (blk_cell BK191.out 1).trans rfl⟩ (fun hHeld => ?_)
           clear hK K
           refine norm_ (a' := ?_) ?_ ?_
           rotate_left
           ·
            show Act.put _ (some 20) _ = _
            simp only [Act.put, List.setIfInBounds_toArray, List.set_cons_zero, List.set_cons_succ, i64_w, i32_w]
            rfl
           refine pure_ (i := 6) (N := some 21) (v := ?_) (a' := ?_) #[tt,tt,tt,tt,tt,tt,tt,tt,ff,ff,ff,ff,ff,tt,ff,ff] rfl rfl (any_of HT_.out (by kernel_rfl)) (fun _ _ _ h => h) (Or.inl ⟨by rfl, ?_⟩) ?_ ?_
           rotate_left
           exact zq238
           rotate_left
           exact zq239
           exact norm_ zq121 (hJ2_5_13 (gb205) _ ⟨hHeld, zq120, zq113, zq119, zq122, GW205.out, GE205.out, NB0_205.out, NB205_0.out, NB190_205.out, NB205_190.out, NB191_205.out, NB205_191.out, zq123, zq124, zq125⟩)
         ·
          skip
          rintro _ w19 ⟨hS_, h0_, h1_, h2_, h3_, h4_, h5_⟩
          have n0_ : Aside0 (Kd.R k59 59 w19 w.heap.size (fun _ => True) (.slice Ao15 x192001_1.length co15) x192001_1) := ⟨h0_⟩
          have n1_ : Aside0 (w19.heap[gb190]? = some (.cells #[.int .i64 0, .slice none 0 0] 57 (0, 0))) := ⟨h1_⟩
          have n2_ : Aside0 (w19.heap[gb191]? = some (.cells #[.int .i64 x192000_1, .slice Ao15 x192001_1.length co15] 57 (0, 0))) := ⟨h2_⟩
          have n3_ : Aside0 (IsS110 w0 w19 g s0_0 t197) := ⟨h3_⟩
          have n4_ : Aside0 (KeepBut w w19 g none) := ⟨h4_⟩
          have n5_ : Aside0 (Below w0.heap.size w0 w19) := ⟨h5_⟩
          clear HO_192001
          clear BK190
          clear BK191
          clear HI0
          clear HK
          clear HB
          clear h0_ h1_ h2_ h3_ h4_ h5_
          have HO_192001 := n0_
          have BK190 := n1_
          have BK191 := n2_
          have HI0 := n3_
          have HK := n4_
          have HB := n5_
          clear n0_ n1_ n2_ n3_ n4_ n5_
          have hHeld : w19.cell? ⟨gb191, 0, none⟩ = some (.int .i64 x192000_1) ∧ w19.cell? ⟨gb191, 1, none⟩ = some (.slice Ao15 x192001_1.length co15) := hS_
          refine norm_ (a' := ?_) ?_ ?_
          rotate_left
          exact zq248
          refine two_ (i := 8) (j := 13) (Ni := some 23) (Nj := some 5) #[tt,tt,tt,tt,tt,tt,tt,tt,tt,ff,ff,ff,ff,ff,ff,ff] #[tt,tt,tt,tt,tt,tt,tt,tt,ff,ff,ff,ff,ff,tt,ff,ff] rfl rfl rfl rfl (two_of HT_.out (by kernel_rfl)) (by decide) (by decide) (fun K hK => ?_) (fun K hK => ?_)
          ·
           skip
           refine goes_ Try.func72 (by kernel_rfl) rfl #[.pointer (some ⟨g, 0, none⟩)] (by rfl) rfl rfl zq12 ?_
           with_reducible refine (spec_l1Rd_data.calls g s0_0 t197 t198 t199 w0 _ ?side1 ?side2 A12.out).mono ?_
           (case side1 => exact zq115)
           (case side2 => exact zq116)
           rintro e w20 ⟨rfl, hi, hb, hk⟩
           refine ⟨_, rfl, ?_⟩
           have n0_ := Aside0.mk (Kd.R_mono (Kd.R_keep (IsS110.apart (show IsS110 w0 _ g s0_0 t197 from by repeat (first | (with_reducible first | exact HI0.out | apply IsS110.alloc | apply IsS110.drewN | apply IsS110.drew | apply IsS110.set_1 | refine IsS110.far ?_ NB0_190.out _ | refine IsS110.far ?_ NB0_191.out _) | exact HI0.out)) zq120 (by decide)) hk (fun _ h => h.2)) (fun _ h => h.1))
           have n1_ := Aside0.mk (KeepBut.blk hk (g' := gb190) (o := .cells #[.int .i64 0, .slice none 0 0] 57 (0, 0)) zq113 NB190_0.out (by simp))
           have n2_ := Aside0.mk (KeepBut.blk hk (g' := gb191) (o := .cells #[.int .i64 x192000_1, .slice Ao15 x192001_1.length co15] 57 (0, 0)) zq119 NB191_0.out (by simp))
           have n3_ := Aside0.mk (KeepBut.trans zq118 hk (.inl rfl))
           have n4_ := Aside0.mk (hb)
           have n5_ := Aside0.mk (hi)
           clear HO_192001
           clear BK190
           clear BK191
           clear HK
           clear HB
           clear HI0
           have HO_192001 := n0_
           have BK190 := n1_
           have BK191 := n2_
           have HK := n3_
           have HB := n4_
           have HI0 := n5_
           clear n0_ n1_ n2_ n3_ n4_ n5_
           (try clear hb)
           (try clear hb2)
           (try clear hk)
           (try clear hi)
           refine hK.out _ _ ⟨(blk_cell BK191.out 0).trans rfl, (blk_cell BK191.out 1).trans rfl⟩ (fun hHeld => ?_)
           clear hK K
           refine norm_ (a' := ?_) ?_ ?_
           rotate_left
           ·
            show Act.put _ (some 23) _ = _
            simp only [Act.put, List.setIfInBounds_toArray, List.set_cons_zero, List.set_cons_succ, i64_w, i32_w]
            rfl
           exact norm_ zq121 (hJ2_5_8 () _ ⟨hHeld, zq120, zq113, zq119, zq115, zq118, zq116⟩)
          ·
           skip
           refine box_step ?hg (N := 5) ?hd (cs := #[.int .i64 0, .slice none 0 0]) (t := 57) ?hr ?_; (case hd => rfl); (case hg => rfl); (case hr => exact zq5)
           intro gb205 hg w20 hbox hb
           have n0_ := Aside0.mk (Kd.R_below zq120 hb)
           have n1_ := Aside0.mk (blk_below (g := gb190) (o := .cells #[.int .i64 0, .slice none 0 0] 57 (0, 0)) zq113 hb)
           have n2_ := Aside0.mk (blk_below (g := gb191) (o := .cells #[.int .i64 x192000_1, .slice Ao15 x192001_1.length co15] 57 (0, 0)) zq119 hb)
           have n3_ := Aside0.mk (IsS110.below zq115 hb)
           have n4_ := Aside0.mk (KeepBut.trans zq118 (KeepBut.of_below hb g none) (.inl rfl))
           have n5_ := Aside0.mk (below_step zq116 hb)
           have n6_ := Aside0.mk (hbox)
           have n7_ := Aside0.mk ((zq223 : w.heap.size ≤ gb205))
           have n8_ := Aside0.mk ((Nat.le_trans HW0.out (zq223 : w.heap.size ≤ gb205) : w0.heap.size ≤ gb205))
           have n9_ := Aside0.mk ((zq221 : gb190 ≠ gb205))
           have n10_ := Aside0.mk ((zq222 : gb205 ≠ gb190))
           have n11_ := Aside0.mk ((zq224 : gb191 ≠ gb205))
           have n12_ := Aside0.mk ((zq225 : gb205 ≠ gb191))
           have n13_ := Aside0.mk ((by rw [hg]; exact Nat.ne_of_lt (IsS110.lt (show IsS110 w0 _ g s0_0 t197 from by repeat (first | (with_reducible first | exact HI0.out | apply IsS110.alloc | apply IsS110.drewN | apply IsS110.drew | apply IsS110.set_1 | refine IsS110.far ?_ NB0_190.out _ | refine IsS110.far ?_ NB0_191.out _) | exact HI0.out))) : g ≠ gb205))
           have n14_ := Aside0.mk ((by rw [hg]; exact Nat.ne_of_gt (IsS110.lt (show IsS110 w0 _ g s0_0 t197 from by repeat (first | (with_reducible first | exact HI0.out | apply IsS110.alloc | apply IsS110.drewN | apply IsS110.drew | apply IsS110.set_1 | refine IsS110.far ?_ NB0_190.out _ | refine IsS110.far ?_ NB0_191.out _) | exact HI0.out))) : gb205 ≠ g))
           clear HO_192001
           clear BK190
           clear BK191
           clear HI0
           clear HK
           clear HB
           have HO_192001 := n0_
           have BK190 := n1_
           have BK191 := n2_
           have HI0 := n3_
           have HK := n4_
           have HB := n5_
           have BK205 := n6_
           have GW205 := n7_
           have GE205 := n8_
           have NB190_205 := n9_
           have NB205_190 := n10_
           have NB191_205 := n11_
           have NB205_191 := n12_
           have NB0_205 := n13_
           have NB205_0 := n14_
           clear n0_ n1_ n2_ n3_ n4_ n5_ n6_ n7_ n8_ n9_ n10_ n11_ n12_ n13_ n14_
           clear hb hbox hg
           refine hK.out _ _ ⟨(blk_cell BK191.out 0).trans rfl, (blk_cell BK191.out 1).trans rfl⟩ (fun hHeld => ?_)
           clear hK K
           refine norm_ (a' := ?_) ?_ ?_
           rotate_left
           exact zq247
           exact norm_ zq121 (hJ2_5_13 (gb205) _ ⟨hHeld, zq120, zq113, zq119, zq122, GW205.out, GE205.out, NB0_205.out, NB205_0.out, NB190_205.out, NB205_190.out, NB191_205.out, NB205_191.out, zq123, zq124, zq125⟩)
        ·
         skip
         rintro gb205 w20 ⟨hS_, h0_, h1_, h2_, h3_, h4_, h5_, h6_, h7_, h8_, h9_, h10_, h11_, h12_, h13_, h14_⟩
         have n0_ : Aside0 (Kd.R k59 59 w20 w.heap.size (fun _ => True) (.slice Ao15 x192001_1.length co15) x192001_1) := ⟨h0_⟩
         have n1_ : Aside0 (w20.heap[gb190]? = some (.cells #[.int .i64 0, .slice none 0 0] 57 (0, 0))) := ⟨h1_⟩
         have n2_ : Aside0 (w20.heap[gb191]? = some (.cells #[.int .i64 x192000_1, .slice Ao15 x192001_1.length co15] 57 (0, 0))) := ⟨h2_⟩
         have n3_ : Aside0 (w20.heap[gb205]? = some (.cells #[.int .i64 0, .slice none 0 0] 57 (0, 0))) := ⟨h3_⟩
         have n4_ : Aside0 (w.heap.size ≤ gb205) := ⟨h4_⟩
         have n5_ : Aside0 (w0.heap.size ≤ gb205) := ⟨h5_⟩
         have n6_ : Aside0 (g ≠ gb205) := ⟨h6_⟩
         have n7_ : Aside0 (gb205 ≠ g) := ⟨h7_⟩
         have n8_ : Aside0 (gb190 ≠ gb205) := ⟨h8_⟩
         have n9_ : Aside0 (gb205 ≠ gb190) := ⟨h9_⟩
         have n10_ : Aside0 (gb191 ≠ gb205) := ⟨h10_⟩
         have n11_ : Aside0 (gb205 ≠ gb191) := ⟨h11_⟩
         have n12_ : Aside0 (IsS110 w0 w20 g s0_0 t197) := ⟨h12_⟩
         have n13_ : Aside0 (KeepBut w w20 g none) := ⟨h13_⟩
         have n14_ : Aside0 (Below w0.heap.size w0 w20) := ⟨h14_⟩
         clear HO_192001
         clear BK190
         clear BK191
         clear HI0
         clear HK
         clear HB
         clear h0_ h1_ h2_ h3_ h4_ h5_ h6_ h7_ h8_ h9_ h10_ h11_ h12_ h13_ h14_
         have HO_192001 := n0_
         have BK190 := n1_
         have BK191 := n2_
         have BK205 := n3_
         have GW205 := n4_
         have GE205 := n5_
         have NB0_205 := n6_
         have NB205_0 := n7_
         have NB190_205 := n8_
         have NB205_190 := n9_
         have NB191_205 := n10_
         have NB205_191 := n11_
         have HI0 := n12_
         have HK := n13_
         have HB := n14_
         clear n0_ n1_ n2_ n3_ n4_ n5_ n6_ n7_ n8_ n9_ n10_ n11_ n12_ n13_ n14_
         have hHeld : w20.cell? ⟨gb191, 0, none⟩ = some (.int .i64 x192000_1) ∧ w20.cell? ⟨gb191, 1, none⟩ = some (.slice Ao15 x192001_1.length co15) := hS_
         refine norm_ (a' := ?_) ?_ ?_
         rotate_left
         exact zq248
         refine one_ (i := 8) (N := some 23) #[tt,tt,tt,tt,tt,tt,tt,tt,tt,ff,ff,ff,ff,tt,ff,ff] rfl rfl (one_of HT_.out (by kernel_rfl)) (by decide) (fun K hK => ?_)
         refine goes_ Try.func72 (by kernel_rfl) rfl #[.pointer (some ⟨g, 0, none⟩)] (by rfl) rfl rfl zq12 ?_
         with_reducible refine (spec_l1Rd_data.calls g s0_0 t197 t198 t199 w0 _ ?side1 ?side2 A12.out).mono ?_
         (case side1 => exact zq123)
         (case side2 => exact zq125)
         rintro e w21 ⟨rfl, hi, hb, hk⟩
         refine ⟨_, rfl, ?_⟩
         have n0_ := Aside0.mk (Kd.R_mono (Kd.R_keep (IsS110.apart (show IsS110 w0 _ g s0_0 t197 from by repeat (first | (with_reducible first | exact HI0.out | apply IsS110.alloc | apply IsS110.drewN | apply IsS110.drew | apply IsS110.set_1 | refine IsS110.far ?_ NB0_190.out _ | refine IsS110.far ?_ NB0_191.out _ | refine IsS110.far ?_ NB0_205.out _) | exact HI0.out)) zq120 (by decide)) hk (fun _ h => h.2)) (fun _ h => h.1))
         have n1_ := Aside0.mk (KeepBut.blk hk (g' := gb190) (o := .cells #[.int .i64 0, .slice none 0 0] 57 (0, 0)) zq113 NB190_0.out (by simp))
         have n2_ := Aside0.mk (KeepBut.blk hk (g' := gb191) (o := .cells #[.int .i64 x192000_1, .slice Ao15 x192001_1.length co15] 57 (0, 0)) zq119 NB191_0.out (by simp))
         have n3_ := Aside0.mk (KeepBut.blk hk (g' := gb205) (o := .cells #[.int .i64 0, .slice none 0 0] 57 (0, 0)) zq122 NB205_0.out (by simp))
         have n4_ := Aside0.mk (KeepBut.trans zq124 hk (.inl rfl))
         have n5_ := Aside0.mk (hb)
         have n6_ := Aside0.mk (hi)
         clear HO_192001
         clear BK190
         clear BK191
         clear BK205
         clear HK
         clear HB
         clear HI0
         have HO_192001 := n0_
         have BK190 := n1_
         have BK191 := n2_
         have BK205 := n3_
         have HK := n4_
         have HB := n5_
         have HI0 := n6_
         clear n0_ n1_ n2_ n3_ n4_ n5_ n6_
         (try clear hb)
         (try clear hb2)
         (try clear hk)
         (try clear hi)
         refine hK.out _ _ ⟨(blk_cell BK191.out 0).trans rfl, (blk_cell BK191.out 1).trans rfl⟩ (fun hHeld => ?_)
         clear hK K
         refine norm_ (a' := ?_) ?_ ?_
         rotate_left
         ·
          show Act.put _ (some 23) _ = _
          simp only [Act.put, List.setIfInBounds_toArray, List.set_cons_zero, List.set_cons_succ, i64_w, i32_w]
          rfl
         exact norm_ zq121 (hJ2_5_8_13 (gb205) _ ⟨hHeld, zq120, zq113, zq119, zq122, GW205.out, GE205.out, NB0_205.out, NB205_0.out, NB190_205.out, NB205_190.out, NB191_205.out, NB205_191.out, zq123, zq124, zq125⟩)
       ·
        skip
        rintro _ w20 ⟨hS_, h0_, h1_, h2_, h3_, h4_, h5_⟩
        have n0_ : Aside0 (Kd.R k59 59 w20 w.heap.size (fun _ => True) (.slice Ao15 x192001_1.length co15) x192001_1) := ⟨h0_⟩
        have n1_ : Aside0 (w20.heap[gb190]? = some (.cells #[.int .i64 0, .slice none 0 0] 57 (0, 0))) := ⟨h1_⟩
        have n2_ : Aside0 (w20.heap[gb191]? = some (.cells #[.int .i64 x192000_1, .slice Ao15 x192001_1.length co15] 57 (0, 0))) := ⟨h2_⟩
        have n3_ : Aside0 (IsS110 w0 w20 g s0_0 t199) := ⟨h3_⟩
        have n4_ : Aside0 (KeepBut w w20 g none) := ⟨h4_⟩
        have n5_ : Aside0 (Below w0.heap.size w0 w20) := ⟨h5_⟩
        clear HO_192001
        clear BK190
        clear BK191
        clear HI0
        clear HK
        clear HB
        clear h0_ h1_ h2_ h3_ h4_ h5_
        have HO_192001 := n0_
        have BK190 := n1_
        have BK191 := n2_
        have HI0 := n3_
        have HK := n4_
        have HB := n5_
        clear n0_ n1_ n2_ n3_ n4_ n5_
        have hHeld : w20.cell? ⟨gb191, 0, none⟩ = some (.int .i64 x192000_1) ∧ w20.cell? ⟨gb191, 1, none⟩ = some (.slice Ao15 x192001_1.length co15) := hS_
        refine norm_ (a' := ?_) ?_ ?_
        rotate_left
        exact zq248
        refine two_ (i := 9) (j := 13) (Ni := some 24) (Nj := some 5) #[tt,tt,tt,tt,tt,tt,tt,tt,tt,tt,ff,ff,ff,ff,ff,ff] #[tt,tt,tt,tt,tt,tt,tt,tt,tt,ff,ff,ff,ff,tt,ff,ff] rfl rfl rfl rfl (two_of HT_.out (by kernel_rfl)) (by decide) (by decide) (fun K hK => ?_) (fun K hK => ?_)
        ·
         skip
         refine goes_ Try.func49 (by kernel_rfl) rfl #[.agg #[.int .i64 x192000_1, .slice Ao15 x192001_1.length co15], .int .i64 (wrap64 (1 + t194)), .int .i64 (wrap64 (1 + t196)), .string t198] (by rfl) rfl rfl zq12 ?_
         with_reducible refine (spec_Post.calls k1 x192000_1 _ _ x192001_1 (wrap64 (1 + t194)) (wrap64 (1 + t196)) t198 t200 t201 t204 _ ?side1 ?side2 A13.out).mono ?_
         (case side1 => exact zq126)
         (case side2 => exact zq127)
         rintro e w21 ⟨v202, rfl, ho0, hb⟩
         refine ⟨_, rfl, ?_⟩
         have n0_ := Aside0.mk (Kd.R_elder' zq120 (Kd.R_base ho0) hb)
         have n1_ := Aside0.mk (Kd.R_lower (Kd.R_new' ho0 (Kd.R_lt zq120)) (keep_size (w := w) (g := g) (row := none) zq118))
         have n2_ := Aside0.mk (blk_below (g := gb190) (o := .cells #[.int .i64 0, .slice none 0 0] 57 (0, 0)) zq113 hb)
         have n3_ := Aside0.mk (blk_below (g := gb191) (o := .cells #[.int .i64 x192000_1, .slice Ao15 x192001_1.length co15] 57 (0, 0)) zq119 hb)
         have n4_ := Aside0.mk (IsS110.below zq115 hb)
         have n5_ := Aside0.mk (KeepBut.trans zq118 (KeepBut.of_below hb g none) (.inl rfl))
         have n6_ := Aside0.mk (below_step zq116 hb)
         clear HO_192001
         clear BK190
         clear BK191
         clear HI0
         clear HK
         clear HB
         have HO_192001 := n0_
         have HO203 := n1_
         have BK190 := n2_
         have BK191 := n3_
         have HI0 := n4_
         have HK := n5_
         have HB := n6_
         clear n0_ n1_ n2_ n3_ n4_ n5_ n6_
         (try clear hb)
         (try clear hb2)
         (try clear hk)
         (try clear hi)
         (try clear ho0)
         refine hK.out _ _ ⟨(blk_cell BK191.out 0).trans rfl, (blk_cell BK191.out 1).trans rfl⟩ (fun hHeld => ?_)
         clear hK K
         refine norm_ (a' := ?_) ?_ ?_
         rotate_left
         ·
          show Act.put _ (some 24) _ = _
          simp only [Act.put, List.setIfInBounds_toArray, List.set_cons_zero, List.set_cons_succ, i64_w, i32_w]
          rfl
         refine pure_ (i := 10) (N := some 14) (v := ?_) (a' := ?_) #[tt,tt,tt,tt,tt,tt,tt,tt,tt,tt,tt,ff,ff,ff,ff,ff] rfl rfl (any_of HT_.out (by kernel_rfl)) (fun _ _ _ h => h) (Or.inl ⟨by rfl, ?_⟩) ?_ ?_
         rotate_left
         exact zq238
         rotate_left
         exact zq239
         refine pure_ (i := 11) (N := some 25) (v := ?_) (a' := ?_) #[tt,tt,tt,tt,tt,tt,tt,tt,tt,tt,tt,tt,ff,ff,ff,ff] rfl rfl (any_of HT_.out (by kernel_rfl)) (fun _ _ _ h => h) (Or.inl ⟨by rfl, ?_⟩) ?_ ?_
         rotate_left
         exact zq238
         rotate_left
         exact zq239
         refine pure_ (i := 12) (N := some 26) (v := ?_) (a' := ?_) #[tt,tt,tt,tt,tt,tt,tt,tt,tt,tt,tt,tt,tt,ff,ff,ff] rfl rfl (any_of HT_.out (by kernel_rfl)) (fun _ _ _ h => h) (Or.inl ⟨by rfl, ?_⟩) ?_ ?_
         rotate_left
         exact zq238
         rotate_left
         exact zq239
         exact norm_ zq121 (hJ2_5_8_9 (v202) _ ⟨hHeld, zq128, zq129, zq113, zq119, zq115, zq118, zq116⟩)
        ·
         skip
         refine box_step ?hg (N := 5) ?hd (cs := #[.int .i64 0, .slice none 0 0]) (t := 57) ?hr ?_; (case hd => rfl); (case hg => rfl); (case hr => exact zq5)
         intro gb205 hg w21 hbox hb
         have n0_ := Aside0.mk (Kd.R_below zq120 hb)
         have n1_ := Aside0.mk (blk_below (g := gb190) (o := .cells #[.int .i64 0, .slice none 0 0] 57 (0, 0)) zq113 hb)
         have n2_ := Aside0.mk (blk_below (g := gb191) (o := .cells #[.int .i64 x192000_1, .slice Ao15 x192001_1.length co15] 57 (0, 0)) zq119 hb)
         have n3_ := Aside0.mk (IsS110.below zq115 hb)
         have n4_ := Aside0.mk (KeepBut.trans zq118 (KeepBut.of_below hb g none) (.inl rfl))
         have n5_ := Aside0.mk (below_step zq116 hb)
         have n6_ := Aside0.mk (hbox)
         have n7_ := Aside0.mk ((zq223 : w.heap.size ≤ gb205))
         have n8_ := Aside0.mk ((Nat.le_trans HW0.out (zq223 : w.heap.size ≤ gb205) : w0.heap.size ≤ gb205))
         have n9_ := Aside0.mk ((zq221 : gb190 ≠ gb205))
         have n10_ := Aside0.mk ((zq222 : gb205 ≠ gb190))
         have n11_ := Aside0.mk ((zq224 : gb191 ≠ gb205))
         have n12_ := Aside0.mk ((zq225 : gb205 ≠ gb191))
         have n13_ := Aside0.mk ((zq130 : g ≠ gb205))
         have n14_ := Aside0.mk ((zq131 : gb205 ≠ g))
         clear HO_192001
         clear BK190
         clear BK191
         clear HI0
         clear HK
         clear HB
         have HO_192001 := n0_
         have BK190 := n1_
         have BK191 := n2_
         have HI0 := n3_
         have HK := n4_
         have HB := n5_
         have BK205 := n6_
         have GW205 := n7_
         have GE205 := n8_
         have NB190_205 := n9_
         have NB205_190 := n10_
         have NB191_205 := n11_
         have NB205_191 := n12_
         have NB0_205 := n13_
         have NB205_0 := n14_
         clear n0_ n1_ n2_ n3_ n4_ n5_ n6_ n7_ n8_ n9_ n10_ n11_ n12_ n13_ n14_
         clear hb hbox hg
         refine hK.out _ _ ⟨(blk_cell BK191.out 0).trans rfl, (blk_cell BK191.out 1).trans rfl⟩ (fun hHeld => ?_)
         clear hK K
         refine norm_ (a' := ?_) ?_ ?_
         rotate_left
         exact zq247
         exact norm_ zq121 (hJ2_5_8_13 (gb205) _ ⟨hHeld, zq120, zq113, zq119, zq122, GW205.out, GE205.out, NB0_205.out, NB205_0.out, NB190_205.out, NB205_190.out, NB191_205.out, NB205_191.out, zq123, zq124, zq125⟩)
      ·
       skip
       rintro gb205 w21 ⟨hS_, h0_, h1_, h2_, h3_, h4_, h5_, h6_, h7_, h8_, h9_, h10_, h11_, h12_, h13_, h14_⟩
       have n0_ : Aside0 (Kd.R k59 59 w21 w.heap.size (fun _ => True) (.slice Ao15 x192001_1.length co15) x192001_1) := ⟨h0_⟩
       have n1_ : Aside0 (w21.heap[gb190]? = some (.cells #[.int .i64 0, .slice none 0 0] 57 (0, 0))) := ⟨h1_⟩
       have n2_ : Aside0 (w21.heap[gb191]? = some (.cells #[.int .i64 x192000_1, .slice Ao15 x192001_1.length co15] 57 (0, 0))) := ⟨h2_⟩
       have n3_ : Aside0 (w21.heap[gb205]? = some (.cells #[.int .i64 0, .slice none 0 0] 57 (0, 0))) := ⟨h3_⟩
       have n4_ : Aside0 (w.heap.size ≤ gb205) := ⟨h4_⟩
       have n5_ : Aside0 (w0.heap.size ≤ gb205) := ⟨h5_⟩
       have n6_ : Aside0 (g ≠ gb205) := ⟨h6_⟩
       have n7_ : Aside0 (gb205 ≠ g) := ⟨h7_⟩
       have n8_ : Aside0 (gb190 ≠ gb205) := ⟨h8_⟩
       have n9_ : Aside0 (gb205 ≠ gb190) := ⟨h9_⟩
       have n10_ : Aside0 (gb191 ≠ gb205) := ⟨h10_⟩
       have n11_ : Aside0 (gb205 ≠ gb191) := ⟨h11_⟩
       have n12_ : Aside0 (IsS110 w0 w21 g s0_0 t199) := ⟨h12_⟩
       have n13_ : Aside0 (KeepBut w w21 g none) := ⟨h13_⟩
       have n14_ : Aside0 (Below w0.heap.size w0 w21) := ⟨h14_⟩
       clear HO_192001
       clear BK190
       clear BK191
       clear HI0
       clear HK
       clear HB
       clear h0_ h1_ h2_ h3_ h4_ h5_ h6_ h7_ h8_ h9_ h10_ h11_ h12_ h13_ h14_
       have HO_192001 := n0_
       have BK190 := n1_
       have BK191 := n2_
       have BK205 := n3_
       have GW205 := n4_
       have GE205 := n5_
       have NB0_205 := n6_
       have NB205_0 := n7_
       have NB190_205 := n8_
       have NB205_190 := n9_
       have NB191_205 := n10_
       have NB205_191 := n11_
       have HI0 := n12_
       have HK := n13_
       have HB := n14_
       clear n0_ n1_ n2_ n3_ n4_ n5_ n6_ n7_ n8_ n9_ n10_ n11_ n12_ n13_ n14_
       have hHeld : w21.cell? ⟨gb191, 0, none⟩ = some (.int .i64 x192000_1) ∧ w21.cell? ⟨gb191, 1, none⟩ = some (.slice Ao15 x192001_1.length co15) := hS_
       refine norm_ (a' := ?_) ?_ ?_
       rotate_left
       exact zq248
       refine one_ (i := 9) (N := some 24) #[tt,tt,tt,tt,tt,tt,tt,tt,tt,tt,ff,ff,ff,tt,ff,ff] rfl rfl (one_of HT_.out (by kernel_rfl)) (by decide) (fun K hK => ?_)
       refine goes_ Try.func49 (by kernel_rfl) rfl #[.agg #[.int .i64 x192000_1, .slice Ao15 x192001_1.length co15], .int .i64 (wrap64 (1 + t194)), .int .i64 (wrap64 (1 + t196)), .string t198] (by rfl) rfl rfl zq12 ?_
       with_reducible refine (spec_Post.calls k1 x192000_1 _ _ x192001_1 (wrap64 (1 + t194)) (wrap64 (1 + t196)) t198 t200 t201 t204 _ ?side1 ?side2 A13.out).mono ?_
       (case side1 => exact zq126)
       (case side2 => exact zq127)
       rintro e w22 ⟨v202, rfl, ho0, hb⟩
       refine ⟨_, rfl, ?_⟩
       have n0_ := Aside0.mk (Kd.R_elder' zq120 (Kd.R_base ho0) hb)
       have n1_ := Aside0.mk (Kd.R_lower (Kd.R_new' ho0 (Kd.R_lt zq120)) (keep_size (w := w) (g := g) (row := none) zq124))
       have n2_ := Aside0.mk (blk_below (g := gb190) (o := .cells #[.int .i64 0, .slice none 0 0] 57 (0, 0)) zq113 hb)
       have n3_ := Aside0.mk (blk_below (g := gb191) (o := .cells #[.int .i64 x192000_1, .slice Ao15 x192001_1.length co15] 57 (0, 0)) zq119 hb)
       have n4_ := Aside0.mk (IsS110.below zq123 hb)
       have n5_ := Aside0.mk (blk_below (g := gb205) (o := .cells #[.int .i64 0, .slice none 0 0] 57 (0, 0)) zq122 hb)
       have n6_ := Aside0.mk (KeepBut.trans zq124 (KeepBut.of_below hb g none) (.inl rfl))
       have n7_ := Aside0.mk (below_step zq125 hb)
       clear HO_192001
       clear BK190
       clear BK191
       clear HI0
       clear BK205
       clear HK
       clear HB
       have HO_192001 := n0_
       have HO203 := n1_
       have BK190 := n2_
       have BK191 := n3_
       have HI0 := n4_
       have BK205 := n5_
       have HK := n6_
       have HB := n7_
       clear n0_ n1_ n2_ n3_ n4_ n5_ n6_ n7_
       (try clear hb)
       (try clear hb2)
       (try clear hk)
       (try clear hi)
       (try clear ho0)
       refine hK.out _ _ ⟨(blk_cell BK191.out 0).trans rfl, (blk_cell BK191.out 1).trans rfl⟩ (fun hHeld => ?_)
       clear hK K
       refine norm_ (a' := ?_) ?_ ?_
       rotate_left
       ·
        show Act.put _ (some 24) _ = _
        simp only [Act.put, List.setIfInBounds_toArray, List.set_cons_zero, List.set_cons_succ, i64_w, i32_w]
        rfl
       refine pure_ (i := 10) (N := some 14) (v := ?_) (a' := ?_) #[tt,tt,tt,tt,tt,tt,tt,tt,tt,tt,tt,ff,ff,tt,ff,ff] rfl rfl (any_of HT_.out (by kernel_rfl)) (fun _ _ _ h => h) (Or.inl ⟨by rfl, ?_⟩) ?_ ?_
       rotate_left
       exact zq238
       rotate_left
       exact zq239
       refine pure_ (i := 11) (N := some 25) (v := ?_) (a' := ?_) #[tt,tt,tt,tt,tt,tt,tt,tt,tt,tt,tt,tt,ff,tt,ff,ff] rfl rfl (any_of HT_.out (by kernel_rfl)) (fun _ _ _ h => h) (Or.inl ⟨by rfl, ?_⟩) ?_ ?_
       rotate_left
       exact zq238
       rotate_left
       exact zq239
       refine pure_ (i := 12) (N := some 26) (v := ?_) (a' := ?_) #[tt,tt,tt,tt,tt,tt,tt,tt,tt,tt,tt,tt,tt,tt,ff,ff] rfl rfl (any_of HT_.out (by kernel_rfl)) (fun _ _ _ h => h) (Or.inl ⟨by rfl, ?_⟩) ?_ ?_
       rotate_left
       exact zq238
       rotate_left
       exact zq239
       exact norm_ zq121 (hJ2_5_8_9_13 (v202, gb205) _ ⟨hHeld, zq128, zq129, zq113, zq119, zq122, GW205.out, GE205.out, NB0_205.out, NB205_0.out, NB190_205.out, NB205_190.out, NB191_205.out, NB205_191.out, zq123, zq124, zq125⟩)
     ·
      skip
      rintro v202 w21 ⟨hS_, h0_, h1_, h2_, h3_, h4_, h5_, h6_⟩
      have n0_ : Aside0 (Kd.R k59 59 w21 w.heap.size (fun k_ => some k_ ≠ (.slice Ao15 x192001_1.length co15 : Value).ownBlock) v202 t201) := ⟨h0_⟩
      have n1_ : Aside0 (Kd.R k59 59 w21 w.heap.size (fun k_ => some k_ ≠ (v202 : Value).ownBlock) (.slice Ao15 x192001_1.length co15) x192001_1) := ⟨h1_⟩
      have n2_ : Aside0 (w21.heap[gb190]? = some (.cells #[.int .i64 0, .slice none 0 0] 57 (0, 0))) := ⟨h2_⟩
      have n3_ : Aside0 (w21.heap[gb191]? = some (.cells #[.int .i64 x192000_1, .slice Ao15 x192001_1.length co15] 57 (0, 0))) := ⟨h3_⟩
      have n4_ : Aside0 (IsS110 w0 w21 g s0_0 t199) := ⟨h4_⟩
      have n5_ : Aside0 (KeepBut w w21 g none) := ⟨h5_⟩
      have n6_ : Aside0 (Below w0.heap.size w0 w21) := ⟨h6_⟩
      clear HO_192001
      clear BK190
      clear BK191
      clear HI0
      clear HK
      clear HB
      clear h0_ h1_ h2_ h3_ h4_ h5_ h6_
      have HO203 := n0_
      have HO_192001 := n1_
      have BK190 := n2_
      have BK191 := n3_
      have HI0 := n4_
      have HK := n5_
      have HB := n6_
      clear n0_ n1_ n2_ n3_ n4_ n5_ n6_
      have hHeld : w21.cell? ⟨gb191, 0, none⟩ = some (.int .i64 x192000_1) ∧ w21.cell? ⟨gb191, 1, none⟩ = some (.slice Ao15 x192001_1.length co15) := hS_
      refine norm_ (a' := ?_) ?_ ?_
      rotate_left
      exact zq248
      refine one_ (i := 13) (N := some 5) #[tt,tt,tt,tt,tt,tt,tt,tt,tt,tt,tt,tt,tt,tt,ff,ff] rfl rfl (one_of HT_.out (by kernel_rfl)) (by decide) (fun K hK => ?_)
      refine box_step ?hg (N := 5) ?hd (cs := #[.int .i64 0, .slice none 0 0]) (t := 57) ?hr ?_; (case hd => rfl); (case hg => rfl); (case hr => exact zq5)
      intro gb205 hg w22 hbox hb
      have n0_ := Aside0.mk (Kd.R_below zq120 hb)
      have n1_ := Aside0.mk (Kd.R_below zq132 hb)
      have n2_ := Aside0.mk (blk_below (g := gb190) (o := .cells #[.int .i64 0, .slice none 0 0] 57 (0, 0)) zq113 hb)
      have n3_ := Aside0.mk (blk_below (g := gb191) (o := .cells #[.int .i64 x192000_1, .slice Ao15 x192001_1.length co15] 57 (0, 0)) zq119 hb)
      have n4_ := Aside0.mk (IsS110.below zq115 hb)
      have n5_ := Aside0.mk (KeepBut.trans zq118 (KeepBut.of_below hb g none) (.inl rfl))
      have n6_ := Aside0.mk (below_step zq116 hb)
      have n7_ := Aside0.mk (hbox)
      have n8_ := Aside0.mk ((zq223 : w.heap.size ≤ gb205))
      have n9_ := Aside0.mk ((Nat.le_trans HW0.out (zq223 : w.heap.size ≤ gb205) : w0.heap.size ≤ gb205))
      have n10_ := Aside0.mk ((zq221 : gb190 ≠ gb205))
      have n11_ := Aside0.mk ((zq222 : gb205 ≠ gb190))
      have n12_ := Aside0.mk ((zq224 : gb191 ≠ gb205))
      have n13_ := Aside0.mk ((zq225 : gb205 ≠ gb191))
      have n14_ := Aside0.mk ((zq130 : g ≠ gb205))
      have n15_ := Aside0.mk ((zq131 : gb205 ≠ g))
      clear HO_192001
      clear HO203
      clear BK190
      clear BK191
      clear HI0
      clear HK
      clear HB
      have HO_192001 := n0_
      have HO203 := n1_
      have BK190 := n2_
      have BK191 := n3_
      have HI0 := n4_
      have HK := n5_
      have HB := n6_
      have BK205 := n7_
      have GW205 := n8_
      have GE205 := n9_
      have NB190_205 := n10_
      have NB205_190 := n11_
      have NB191_205 := n12_
      have NB205_191 := n13_
      have NB0_205 := n14_
      have NB205_0 := n15_
      clear n0_ n1_ n2_ n3_ n4_ n5_ n6_ n7_ n8_ n9_ n10_ n11_ n12_ n13_ n14_ n15_
      clear hb hbox hg
      refine hK.out _ _ ⟨(blk_cell BK191.out 0).trans rfl, (blk_cell BK191.out 1).trans rfl⟩ (fun hHeld => ?_)
      clear hK K
      refine norm_ (a' := ?_) ?_ ?_
      rotate_left
      exact zq247
      exact norm_ zq121 (hJ2_5_8_9_13 (v202, gb205) _ ⟨hHeld, zq132, zq120, zq113, zq119, zq122, GW205.out, GE205.out, NB0_205.out, NB205_0.out, NB190_205.out, NB205_190.out, NB191_205.out, NB205_191.out, zq123, zq124, zq125⟩)
    rintro ⟨v202, gb205⟩ w22 ⟨hS_, h0_, h1_, h2_, h3_, h4_, h5_, h6_, h7_, h8_, h9_, h10_, h11_, h12_, h13_, h14_, h15_⟩
    have n0_ : Aside0 (Kd.R k59 59 w22 w.heap.size (fun k_ => some k_ ≠ (.slice Ao15 x192001_1.length co15 : Value).ownBlock) v202 t201) := ⟨h0_⟩
    have n1_ : Aside0 (Kd.R k59 59 w22 w.heap.size (fun k_ => some k_ ≠ (v202 : Value).ownBlock) (.slice Ao15 x192001_1.length co15) x192001_1) := ⟨h1_⟩
    have n2_ : Aside0 (w22.heap[gb190]? = some (.cells #[.int .i64 0, .slice none 0 0] 57 (0, 0))) := ⟨h2_⟩
    have n3_ : Aside0 (w22.heap[gb191]? = some (.cells #[.int .i64 x192000_1, .slice Ao15 x192001_1.length co15] 57 (0, 0))) := ⟨h3_⟩
    have n4_ : Aside0 (w22.heap[gb205]? = some (.cells #[.int .i64 0, .slice none 0 0] 57 (0, 0))) := ⟨h4_⟩
    have n5_ : Aside0 (w.heap.size ≤ gb205) := ⟨h5_⟩
    have n6_ : Aside0 (w0.heap.size ≤ gb205) := ⟨h6_⟩
    have n7_ : Aside0 (g ≠ gb205) := ⟨h7_⟩
    have n8_ : Aside0 (gb205 ≠ g) := ⟨h8_⟩
    have n9_ : Aside0 (gb190 ≠ gb205) := ⟨h9_⟩
    have n10_ : Aside0 (gb205 ≠ gb190) := ⟨h10_⟩
    have n11_ : Aside0 (gb191 ≠ gb205) := ⟨h11_⟩
    have n12_ : Aside0 (gb205 ≠ gb191) := ⟨h12_⟩
    have n13_ : Aside0 (IsS110 w0 w22 g s0_0 t199) := ⟨h13_⟩
    have n14_ : Aside0 (KeepBut w w22 g none) := ⟨h14_⟩
    have n15_ : Aside0 (Below w0.heap.size w0 w22) := ⟨h15_⟩
    clear HO_192001
    clear BK190
    clear BK191
    clear HI0
    clear HK
    clear HB
    clear h0_ h1_ h2_ h3_ h4_ h5_ h6_ h7_ h8_ h9_ h10_ h11_ h12_ h13_ h14_ h15_
    have HO203 := n0_
    have HO_192001 := n1_
    have BK190 := n2_
    have BK191 := n3_
    have BK205 := n4_
    have GW205 := n5_
    have GE205 := n6_
    have NB0_205 := n7_
    have NB205_0 := n8_
    have NB190_205 := n9_
    have NB205_190 := n10_
    have NB191_205 := n11_
    have NB205_191 := n12_
    have HI0 := n13_
    have HK := n14_
    have HB := n15_
    clear n0_ n1_ n2_ n3_ n4_ n5_ n6_ n7_ n8_ n9_ n10_ n11_ n12_ n13_ n14_ n15_
    have hHeld : w22.cell? ⟨gb191, 0, none⟩ = some (.int .i64 x192000_1) ∧ w22.cell? ⟨gb191, 1, none⟩ = some (.slice Ao15 x192001_1.length co15) := hS_
    obtain ⟨Ao24, co24, eo24⟩ := Kd.R_slice HO203.out
    (first | subst eo24 | (injection eo24 with f1_ f2_ f3_; have f4_ := f1_.symm; have f5_ := f3_.symm; clear f1_ f2_ f3_; subst f4_; subst f5_))
    refine norm_ (a' := ?_) ?_ ?_
    rotate_left
    exact zq248
    refine one_ (i := 14) (N := none) #[tt,tt,tt,tt,tt,tt,tt,tt,tt,tt,tt,tt,tt,tt,tt,ff] rfl rfl (one_of HT_.out (by kernel_rfl)) (by decide) (fun K hK => ?_)
    have hs23 : w22.cell? ⟨gb205, 0, none⟩ = some (.int .i64 0) := (blk_cell BK205.out 0).trans rfl
    have hfs23 := blk_frozen BK205.out 0
    have hns23_0 := NB190_205.out
    have hns23_1 := NB191_205.out
    have hms23_0 := NB205_190.out
    have hms23_1 := NB205_191.out
    have hs25 : w22.cell? ⟨gb205, 1, none⟩ = some (.slice none 0 0) := (blk_cell BK205.out 1).trans rfl
    have hfs25 := blk_frozen BK205.out 1
    have hns25_0 := NB190_205.out
    have hns25_1 := NB191_205.out
    have hms25_0 := NB205_190.out
    have hms25_1 := NB205_191.out
    refine skip_ (w1 := ?_) (by rfl) rfl ?_ ?_
    rotate_left
    ·
     go_simp
     rfl
    refine hK.out _ _ ⟨((cell_far (p := ⟨gb205, _, none⟩) NB191_205.out _).trans (((cell_far (p := ⟨gb205, _, none⟩) NB191_205.out _).trans (hHeld.1)))), ((cell_far (p := ⟨gb205, _, none⟩) NB191_205.out _).trans (((cell_far (p := ⟨gb205, _, none⟩) NB191_205.out _).trans (hHeld.2))))⟩ (fun hHeld => ?_)
    clear hK K
    refine pure_ (i := 15) (N := some 6) (v := ?_) (a' := ?_) #[tt,tt,tt,tt,tt,tt,tt,tt,tt,tt,tt,tt,tt,tt,tt,tt] rfl rfl (any_of HT_.out (by kernel_rfl)) (fun _ _ _ h => h) (Or.inl ⟨by rfl, ?_⟩) ?_ ?_
    rotate_left
    exact zq238
    rotate_left
    exact zq239
    refine done_ (done_of HT_.out (by kernel_rfl)) ?_
    go_upto_if 28 with (fail)
    go_cut [] (fun wc => ∃ (kq : Nat) (x192000_13 : Int) (x192001_13 : List (S59)) (u192001 : Value), Aside0 (spec_l1Rd_net.j1 kq x4_1 s0_0 t199 x192000_13 x192001_13 = some (r1, r2, r3)) ∧ Aside0 (kq ≤ k1) ∧ Aside0 (Kd.R k59 59 wc w.heap.size (fun _ => True) u192001 x192001_13) ∧ Aside0 (wc.heap[gb190]? = some (.cells #[.int .i64 0, (.slice none 0 0)] 57 (0, 0))) ∧ Aside0 (wc.heap[gb191]? = some (.cells #[.int .i64 x192000_13, u192001] 57 (0, 0))) ∧ Aside0 (IsS110 w0 wc g s0_0 t199) ∧ Aside0 (KeepBut w wc g none) ∧ Aside0 (Below w0.heap.size w0 wc))
    case first =>
     have H := HC14.out
     clear HC14
     by_cases c26 : t204 = 0
     ·
      rw [if_pos c26] at H
      have c26b0 : (t204 == 0) = true := beq_iff_eq.mpr c26
      have c26b1 : (t204 != 0) = false := bne_eq_false_iff_eq.mpr c26
      clear c26
      (first | rw [c26b0] | (simp only [i64_w, i32_w]; rw [c26b0]) | skip)
      have H' := Aside0.mk H
      clear H
      have hnb27 := NB205_190.out
      have hnc27 := NB190_205.out
      have hnb28 := NB205_191.out
      have hnc28 := NB191_205.out
      have hnb29 := NB205_0.out
      have hnc29 := NB0_205.out
      have hcz30_0 : w22.cell? ⟨gb205, 0, none⟩ = some (.int .i64 0) := (blk_cell BK205.out 0).trans rfl
      have hcz30_1 : w22.cell? ⟨gb205, 1, none⟩ = some (.slice none 0 0) := (blk_cell BK205.out 1).trans rfl
      have hfz30_0 := blk_frozen BK205.out 0
      have hfz30_1 := blk_frozen BK205.out 1
      have hnb31 := NB191_190.out
      have hnc31 := NB190_191.out
      have hnb32 := NB191_0.out
      have hnc32 := NB0_191.out
      have hcz33_0 : w22.cell? ⟨gb191, 0, none⟩ = some (.int .i64 x192000_1) := (blk_cell BK191.out 0).trans rfl
      have hcz33_1 : w22.cell? ⟨gb191, 1, none⟩ = some (.slice Ao15 x192001_1.length co15) := (blk_cell BK191.out 1).trans rfl
      have hfz33_0 := blk_frozen BK191.out 0
      have hfz33_1 := blk_frozen BK191.out 1
      go_wp2
      go_meet
      case rel => exact ⟨_, (t200), (t201), (.slice Ao24 t201.length co24), H', ⟨by have := HK1.out; first | omega | exact Nat.le_refl _⟩, ⟨by (with_reducible repeat (first | apply Kd.R_alloc | apply Kd.R_drewN | apply Kd.R_drew)); exact Kd.R_mono (Kd.R_far (p := ⟨gb191, 1, none⟩) (Kd.R_far (p := ⟨gb191, 0, none⟩) (Kd.R_far (p := ⟨gb205, 1, none⟩) (Kd.R_far (p := ⟨gb205, 0, none⟩) (Kd.R_types (Kd.R_types HO203.out BK205.out (by decide)) BK191.out (by decide)) (fun _ hk => hk.1.2) (.int .i64 t200)) (fun _ hk => hk.1.2) (.slice Ao24 t201.length co24)) (fun _ hk => hk.2) (.int .i64 t200)) (fun _ hk => hk.2) (.slice Ao24 t201.length co24)) (fun _ hk => trivial)⟩, ⟨by (with_reducible repeat (first | refine blk_drewN ?_ _ | refine blk_drew ?_ | refine blk_alloc ?_ _)); refine blk_far ?_ NB190_191.out _; (with_reducible repeat (first | refine blk_drewN ?_ _ | refine blk_drew ?_ | refine blk_alloc ?_ _)); refine blk_far ?_ NB190_191.out _; (with_reducible repeat (first | refine blk_drewN ?_ _ | refine blk_drew ?_ | refine blk_alloc ?_ _)); refine blk_far ?_ NB190_205.out _; (with_reducible repeat (first | refine blk_drewN ?_ _ | refine blk_drew ?_ | refine blk_alloc ?_ _)); refine blk_far ?_ NB190_205.out _; (with_reducible repeat (first | refine blk_drewN ?_ _ | refine blk_drew ?_ | refine blk_alloc ?_ _)); exact BK190.out⟩, ⟨by (with_reducible repeat (first | refine blk_drewN ?_ _ | refine blk_drew ?_ | refine blk_alloc ?_ _)); refine blk_put (cs := #[.int .i64 t200, .slice Ao15 x192001_1.length co15]) ?_ 1 _ rfl; (with_reducible repeat (first | refine blk_drewN ?_ _ | refine blk_drew ?_ | refine blk_alloc ?_ _)); refine blk_put (cs := #[.int .i64 x192000_1, .slice Ao15 x192001_1.length co15]) ?_ 0 _ rfl; (with_reducible repeat (first | refine blk_drewN ?_ _ | refine blk_drew ?_ | refine blk_alloc ?_ _)); refine blk_far ?_ NB191_205.out _; (with_reducible repeat (first | refine blk_drewN ?_ _ | refine blk_drew ?_ | refine blk_alloc ?_ _)); refine blk_far ?_ NB191_205.out _; (with_reducible repeat (first | refine blk_drewN ?_ _ | refine blk_drew ?_ | refine blk_alloc ?_ _)); exact BK191.out⟩, ⟨zq123⟩, ⟨zq124⟩, ⟨zq125⟩⟩
     ·
      rw [if_neg c26] at H
      have c26b0 : (t204 == 0) = false := beq_eq_false_iff_ne.mpr c26
      have c26b1 : (t204 != 0) = true := bne_iff_ne.mpr c26
      (first | rw [c26b0] | (simp only [i64_w, i32_w]; rw [c26b0]) | skip)
      have H' := Aside0.mk H
      clear H
      go_wp2
      go_meet
      case rel => exact ⟨_, (x192000_1), (x192001_1), (.slice Ao15 x192001_1.length co15), H', ⟨by have := HK1.out; first | omega | exact Nat.le_refl _⟩, ⟨by (with_reducible repeat (first | apply Kd.R_alloc | apply Kd.R_drewN | apply Kd.R_drew)); exact Kd.R_mono (Kd.R_far (p := ⟨gb205, 1, none⟩) (Kd.R_far (p := ⟨gb205, 0, none⟩) (Kd.R_types HO_192001.out BK205.out (by decide)) (fun _ hk => hk.2) (.int .i64 t200)) (fun _ hk => hk.2) (.slice Ao24 t201.length co24)) (fun _ hk => trivial)⟩, ⟨by (with_reducible repeat (first | refine blk_drewN ?_ _ | refine blk_drew ?_ | refine blk_alloc ?_ _)); refine blk_far ?_ NB190_205.out _; (with_reducible repeat (first | refine blk_drewN ?_ _ | refine blk_drew ?_ | refine blk_alloc ?_ _)); refine blk_far ?_ NB190_205.out _; (with_reducible repeat (first | refine blk_drewN ?_ _ | refine blk_drew ?_ | refine blk_alloc ?_ _)); exact BK190.out⟩, ⟨by (with_reducible repeat (first | refine blk_drewN ?_ _ | refine blk_drew ?_ | refine blk_alloc ?_ _)); refine blk_far ?_ NB191_205.out _; (with_reducible repeat (first | refine blk_drewN ?_ _ | refine blk_drew ?_ | refine blk_alloc ?_ _)); refine blk_far ?_ NB191_205.out _; (with_reducible repeat (first | refine blk_drewN ?_ _ | refine blk_drew ?_ | refine blk_alloc ?_ _)); exact BK191.out⟩, ⟨zq123⟩, ⟨zq124⟩, ⟨zq125⟩⟩
    case rest =>
     clear HC14
     try clear c2
     try clear p2
     try clear c3
     try clear c4
     try clear p6
     try clear c7
     try clear c26
     try clear c26b0
     try clear c26b1
     try clear c27
     try clear c28
     try clear c29
     try clear c31
     try clear c32
     try clear hcz30_0
     try clear hcz30_1
     try clear hcz33_0
     try clear hcz33_1
     try clear hfz30_0
     try clear hfz30_1
     try clear hfz33_0
     try clear hfz33_1
     obtain ⟨kq, x192000_13, x192001_13, u192001, HA, HJ13, HO_192001, BK190, BK191, HI0, HK, HB⟩ := hcut
     cases kq with
     | zero => exact absurd HA.out (by simp [spec_l1Rd_net.j1])
     | succ kj13 =>
      have H := HA.out
      clear HA
      simp only [spec_l1Rd_net.j1] at H
      have HC34 := Aside0.mk H
      clear H
      go_upto_region 8 with (fail)
      go_cut [37] (fun v37 wc => ∃ (kq : Nat) (x37_33 : Bool) (x1001_33 : Int), v37 = .bool x37_33 ∧ Aside0 (spec_l1Rd_net.j2 kq x4_1 x37_33 s0_0 x1001_33 x192000_13 x192001_13 = some (r1, r2, r3)) ∧ Aside0 (kq ≤ kj13) ∧ Aside0 (Kd.R k59 59 wc w.heap.size (fun _ => True) u192001 x192001_13) ∧ Aside0 (wc.heap[gb190]? = some (.cells #[.int .i64 0, (.slice none 0 0)] 57 (0, 0))) ∧ Aside0 (wc.heap[gb191]? = some (.cells #[.int .i64 x192000_13, u192001] 57 (0, 0))) ∧ Aside0 (IsS110 w0 wc g s0_0 x1001_33) ∧ Aside0 (KeepBut w wc g none) ∧ Aside0 (Below w0.heap.size w0 wc))
      case first =>
       have H := HC34.out
       clear HC34
       replace H := Option.bind_eq_some_iff.mp H
       obtain ⟨⟨t206, t207⟩, A350, H⟩ := H
       replace H : (if t206 = true then (spec_l1Rd_net.j2 kj13 x4_1 (decide ((x192001_13.length : Int) > 0)) s0_0 t207 x192000_13 x192001_13) else (spec_l1Rd_net.j2 kj13 x4_1 false s0_0 t207 x192000_13 x192001_13)) = some (r1, r2, r3) := H
       have A35 := Aside0.mk A350
       clear A350
       by_cases c36 : t206 = true
       ·
        subst c36
        have H1 : (spec_l1Rd_net.j2 kj13 x4_1 (decide ((x192001_13.length : Int) > 0)) s0_0 t207 x192000_13 x192001_13) = some (r1, r2, r3) := by rw [if_pos rfl] at H; exact H
        clear H
        have H := H1
        clear H1
        have H' := Aside0.mk H
        clear H
        go_wp2_with (first | ((with_reducible refine gate_callee (f := 71) rfl ?_); refine goesL_ (some 31) rfl rfl Try.func71 (by kernel_rfl) rfl #[.pointer (some ⟨g, 0, none⟩), .int .i64 5] rfl zq12 ?_; (with_reducible refine (spec_l1Rd_once.calls g s0_0 t199 5 true t207 w0 _ ?side1 ?side2 A35.out).mono ?_); (case side1 => exact zq115); (case side2 => exact zq116); rintro e w37 ⟨rfl, hi, hb, hk⟩; refine ⟨_, rfl, ?_⟩; have n0_ := Aside0.mk (Kd.R_mono (Kd.R_keep (IsS110.apart (show IsS110 w0 _ g s0_0 t199 from by repeat (first | (with_reducible first | exact HI0.out | apply IsS110.alloc | apply IsS110.drewN | apply IsS110.drew | apply IsS110.set_1 | refine IsS110.far ?_ NB0_190.out _ | refine IsS110.far ?_ NB0_191.out _) | exact HI0.out)) zq120 (by decide)) hk (fun _ h => h.2)) (fun _ h => h.1)); have n1_ := Aside0.mk (KeepBut.blk hk (g' := gb190) (o := .cells #[.int .i64 0, .slice none 0 0] 57 (0, 0)) zq113 NB190_0.out (by simp)); have n2_ := Aside0.mk (KeepBut.blk hk (g' := gb191) (o := .cells #[.int .i64 x192000_13, u192001] 57 (0, 0)) zq119 NB191_0.out (by simp)); have n3_ := Aside0.mk (KeepBut.trans zq118 hk (.inl rfl)); have n4_ := Aside0.mk (hb); have n5_ := Aside0.mk (hi); clear HO_192001; clear BK190; clear BK191; clear HK; clear HB; clear HI0; have HO_192001 := n0_; have BK190 := n1_; have BK191 := n2_; have HK := n3_; have HB := n4_; have HI0 := n5_; clear n0_ n1_ n2_ n3_ n4_ n5_; (try clear hb); (try clear hb2); (try clear hk); (try clear hi); have hnb38 := NB191_190.out; have hnc38 := NB190_191.out; have hnb39 := NB191_0.out; have hnc39 := NB0_191.out; have hcz40_0 : w37.cell? ⟨gb191, 0, none⟩ = some (.int .i64 x192000_13) := (blk_cell BK191.out 0).trans rfl; have hcz40_1 : w37.cell? ⟨gb191, 1, none⟩ = some (u192001) := (blk_cell BK191.out 1).trans rfl; have hfz40_0 := blk_frozen BK191.out 0; have hfz40_1 := blk_frozen BK191.out 1; obtain ⟨Ao41, co41, eo41⟩ := Kd.R_slice HO_192001.out; subst eo41))
        go_meet
        case rel => exact ⟨_, (decide ((x192001_13.length : Int) > 0)), (t207), zq1, H', ⟨zq133⟩, ⟨zq120⟩, ⟨zq113⟩, ⟨zq119⟩, ⟨zq115⟩, ⟨zq118⟩, ⟨zq116⟩⟩
       ·
        replace c36 := Bool.eq_false_iff.mpr c36
        subst c36
        have H1 : (spec_l1Rd_net.j2 kj13 x4_1 false s0_0 t207 x192000_13 x192001_13) = some (r1, r2, r3) := by rw [if_neg (show ¬ (false = true) by decide)] at H; exact H
        clear H
        have H := H1
        clear H1
        have H' := Aside0.mk H
        clear H
        go_wp2_with (first | ((with_reducible refine gate_callee (f := 71) rfl ?_); refine goesL_ (some 31) rfl rfl Try.func71 (by kernel_rfl) rfl #[.pointer (some ⟨g, 0, none⟩), .int .i64 5] rfl zq12 ?_; (with_reducible refine (spec_l1Rd_once.calls g s0_0 t199 5 false t207 w0 _ ?side1 ?side2 A35.out).mono ?_); (case side1 => exact zq115); (case side2 => exact zq116); rintro e w42 ⟨rfl, hi, hb, hk⟩; refine ⟨_, rfl, ?_⟩; have n0_ := Aside0.mk (Kd.R_mono (Kd.R_keep (IsS110.apart (show IsS110 w0 _ g s0_0 t199 from by repeat (first | (with_reducible first | exact HI0.out | apply IsS110.alloc | apply IsS110.drewN | apply IsS110.drew | apply IsS110.set_1 | refine IsS110.far ?_ NB0_190.out _ | refine IsS110.far ?_ NB0_191.out _) | exact HI0.out)) zq120 (by decide)) hk (fun _ h => h.2)) (fun _ h => h.1)); have n1_ := Aside0.mk (KeepBut.blk hk (g' := gb190) (o := .cells #[.int .i64 0, .slice none 0 0] 57 (0, 0)) zq113 NB190_0.out (by simp)); have n2_ := Aside0.mk (KeepBut.blk hk (g' := gb191) (o := .cells #[.int .i64 x192000_13, u192001] 57 (0, 0)) zq119 NB191_0.out (by simp)); have n3_ := Aside0.mk (KeepBut.trans zq118 hk (.inl rfl)); have n4_ := Aside0.mk (hb); have n5_ := Aside0.mk (hi); clear HO_192001; clear BK190; clear BK191; clear HK; clear HB; clear HI0; have HO_192001 := n0_; have BK190 := n1_; have BK191 := n2_; have HK := n3_; have HB := n4_; have HI0 := n5_; clear n0_ n1_ n2_ n3_ n4_ n5_; (try clear hb); (try clear hb2); (try clear hk); (try clear hi)))
        go_meet
        case rel => exact ⟨_, (false), (t207), zq1, H', ⟨zq133⟩, ⟨zq120⟩, ⟨zq113⟩, ⟨zq119⟩, ⟨zq115⟩, ⟨zq118⟩, ⟨zq116⟩⟩
      case rest =>
       clear HC34
       try clear c2
       try clear p2
       try clear c3
       try clear c4
       try clear p6
       try clear c7
       try clear c26
       try clear c26b0
       try clear c26b1
       try clear c27
       try clear c28
       try clear c29
       try clear c31
       try clear c32
       try clear c36
       try clear c38
       try clear c39
       try clear hcz30_0
       try clear hcz30_1
       try clear hcz33_0
       try clear hcz33_1
       try clear hcz40_0
       try clear hcz40_1
       try clear hfz30_0
       try clear hfz30_1
       try clear hfz33_0
       try clear hfz33_1
       try clear hfz40_0
       try clear hfz40_1
       try clear p2
       try clear p6
       obtain ⟨kq, x37_33, x1001_33, rfl, HA, HJ33, HO_192001, BK190, BK191, HI0, HK, HB⟩ := hcut
       cases kq with
       | zero => exact absurd HA.out (by simp [spec_l1Rd_net.j2])
       | succ kj33 =>
        have H := HA.out
        clear HA
        simp only [spec_l1Rd_net.j2] at H
        by_cases c43 : x37_33 = true
        ·
         subst c43
         have H1 : ((spec_l1Rd_below.f s0_0 x1001_33 (x192001_13.length : Int)).bind fun bt208 => (if 0 ≤ bt208.1 then (if bt208.1 < (x192001_13.length : Int) then ((spec_Take.f kj33 x192000_13 x192001_13 ((rd_T59 x192001_13 bt208.1).f0) false).bind fun bt211 => (spec_l1Rd_net.l0 kj33 (wrap64 (x4_1 - 1)) s0_0 bt208.2 bt211.1 bt211.2.1)) else (none)) else (none))) = some (r1, r2, r3) := by rw [if_pos rfl] at H; exact H
         clear H
         have H := H1
         clear H1
         replace H := Option.bind_eq_some_iff.mp H
         obtain ⟨⟨t208, t209⟩, A440, H⟩ := H
         replace H : (if 0 ≤ t208 then (if t208 < (x192001_13.length : Int) then ((spec_Take.f kj33 x192000_13 x192001_13 ((rd_T59 x192001_13 t208).f0) false).bind fun bt211 => (spec_l1Rd_net.l0 kj33 (wrap64 (x4_1 - 1)) s0_0 t209 bt211.1 bt211.2.1)) else (none)) else (none)) = some (r1, r2, r3) := H
         have A44 := Aside0.mk A440
         clear A440
         by_cases c45 : 0 ≤ t208
         ·
          rw [if_pos c45] at H
          have c45b0 : decide (0 ≤ t208) = true := decide_eq_true c45
          clear c45
          by_cases c46 : t208 < (x192001_13.length : Int)
          ·
           rw [if_pos c46] at H
           have c46b0 : decide (t208 < (x192001_13.length : Int)) = true := decide_eq_true c46
           clear c46
           replace H := Option.bind_eq_some_iff.mp H
           obtain ⟨⟨t211, t212, t215, t216, t217, t218, t219⟩, A470, H⟩ := H
           replace H : (spec_l1Rd_net.l0 kj33 (wrap64 (x4_1 - 1)) s0_0 t209 t211 t212) = some (r1, r2, r3) := H
           have A47 := Aside0.mk A470
           clear A470
           have H' := Aside0.mk H
           clear H
           try go_wp2
           have n0_ := Aside0.mk (Kd.R_drew HO_192001.out)
           have n1_ := Aside0.mk (blk_drew BK190.out)
           have n2_ := Aside0.mk (blk_drew BK191.out)
           have n3_ := Aside0.mk (IsS110.drew HI0.out)
           have n4_ := Aside0.mk (keep_drew HK.out)
           have n5_ := Aside0.mk (below_drew1 HB.out)
           clear HO_192001
           clear BK190
           clear BK191
           clear HI0
           clear HK
           clear HB
           have HO_192001 := n0_
           have BK190 := n1_
           have BK191 := n2_
           have HI0 := n3_
           have HK := n4_
           have HB := n5_
           clear n0_ n1_ n2_ n3_ n4_ n5_
           obtain ⟨Ao49, co49, eo49⟩ := Kd.R_slice HO_192001.out
           (first | subst eo49 | (injection eo49 with f1_ f2_ f3_; have f4_ := f1_.symm; have f5_ := f3_.symm; clear f1_ f2_ f3_; subst f4_; subst f5_))
           have p210 : 0 ≤ (t208 : Int) := of_decide_eq_true zq3
           have q210 : t208 < (x192001_13.length : Int) := of_decide_eq_true zq3
           obtain ⟨ad210, e210, hx210_0, hx210_1, hx210_2, hx210_3⟩ := at_T59 (Kd.R_reads' HO_192001.out).2.2 t208 p210 q210
           cases e210
           replace p210 := eq_true p210
           replace q210 := eq_true q210
           refine start_ (n := 17) (S := fun w' => w'.cell? ⟨gb191, 0, none⟩ = some (.int .i64 x192000_13) ∧ w'.cell? ⟨gb191, 1, none⟩ = some (.slice (some ad210) x192001_13.length co49) ∧ w'.cell? (ad210.add ((t208).toNat * 4)) = some (.int .i64 ((rd_T59 x192001_13 t208).f0)) ∧ w'.cell? ⟨(ad210.add ((t208).toNat * 4)).block, (ad210.add ((t208).toNat * 4)).off + 1, none⟩ = some (.int .i64 ((rd_T59 x192001_13 t208).f1)) ∧ w'.cell? ⟨(ad210.add ((t208).toNat * 4)).block, (ad210.add ((t208).toNat * 4)).off + 2, none⟩ = some (.int .i64 ((rd_T59 x192001_13 t208).f2)) ∧ w'.cell? ⟨(ad210.add ((t208).toNat * 4)).block, (ad210.add ((t208).toNat * 4)).off + 3, none⟩ = some (.string ((rd_T59 x192001_13 t208).f3))) (ds := [16]) #[ff,ff,ff,ff,ff,ff,ff,ff,ff,ff,ff,ff,ff,ff,ff,ff,ff] (by kernel_rfl) rfl rfl ⟨(blk_cell BK191.out 0).trans rfl, (blk_cell BK191.out 1).trans rfl, hx210_0, hx210_1, hx210_2, hx210_3⟩ (fun hHeld => ?_); refine with_tabW spec_l1Rd_net.tab9 spec_l1Rd_net.bits9 (fun HT_ HW_ => ?_)
           generalize wc.drew = w48 at HO_192001 BK190 BK191 HI0 HK HB hx210_0 hx210_1 hx210_2 hx210_3 hHeld ⊢
           refine pure_ (i := 1) (N := some 40) (v := ?_) (a' := ?_) #[ff,tt,ff,ff,ff,ff,ff,ff,ff,ff,ff,ff,ff,ff,ff,ff,ff] rfl rfl (any_of HT_.out (by kernel_rfl)) (fun _ _ _ h => h) (Or.inl ⟨by rfl, ?_⟩) ?_ ?_
           rotate_left
           exact zq238
           rotate_left
           exact zq239
           refine pure_ (i := 3) (N := some 42) (v := ?_) (a' := ?_) #[ff,tt,ff,tt,ff,ff,ff,ff,ff,ff,ff,ff,ff,ff,ff,ff,ff] rfl rfl (any_of HT_.out (by kernel_rfl)) (fun _ _ _ h => h) (Or.inl ⟨by rfl, ?_⟩) ?_ ?_
           rotate_left
           exact zq238
           rotate_left
           exact zq239
           refine pure_ (i := 4) (N := some 43) (v := ?_) (a' := ?_) #[ff,tt,ff,tt,tt,ff,ff,ff,ff,ff,ff,ff,ff,ff,ff,ff,ff] rfl rfl (any_of HT_.out (by kernel_rfl)) (fun _ _ _ h => h) (Or.inl ⟨by rfl, ?_⟩) ?_ ?_
           rotate_left
           exact zq238
           rotate_left
           exact zq239
           refine take_ (i := 0) (N := some 39) (v := ?_) (a' := ?_) #[tt,tt,ff,tt,tt,ff,ff,ff,ff,ff,ff,ff,ff,ff,ff,ff,ff] rfl rfl (take_ofW HT_.out HW_.out (by kernel_rfl)) (fun _ _ _ h => h) (Or.inl ⟨by rfl, ?_⟩) hHeld ?_ ?_
           rotate_left
           exact zq244
           rotate_left
           exact zq239
           refine take_ (i := 2) (N := some 41) (v := ?_) (a' := ?_) #[tt,tt,tt,tt,tt,ff,ff,ff,ff,ff,ff,ff,ff,ff,ff,ff,ff] rfl rfl (take_ofW HT_.out HW_.out (by kernel_rfl)) (fun _ _ _ h => h) (Or.inl ⟨by rfl, ?_⟩) hHeld ?_ ?_
           rotate_left
           exact zq244
           rotate_left
           exact zq239
           refine take_ (i := 5) (N := some 44) (v := ?_) (a' := ?_) #[tt,tt,tt,tt,tt,tt,ff,ff,ff,ff,ff,ff,ff,ff,ff,ff,ff] rfl rfl (take_ofW HT_.out HW_.out (by kernel_rfl)) (fun _ _ _ h => h) (Or.inl ⟨by rfl, ?_⟩) hHeld ?_ ?_
           rotate_left
           exact zq244
           rotate_left
           exact zq239
           refine pure_ (i := 6) (N := some 45) (v := ?_) (a' := ?_) #[tt,tt,tt,tt,tt,tt,tt,ff,ff,ff,ff,ff,ff,ff,ff,ff,ff] rfl rfl (any_of HT_.out (by kernel_rfl)) (fun _ _ _ h => h) (Or.inl ⟨by rfl, ?_⟩) ?_ ?_
           rotate_left
           exact zq238
           rotate_left
           exact zq239
           refine one_ (i := 7) (N := some 46) #[tt,tt,tt,tt,tt,tt,tt,tt,ff,ff,ff,ff,ff,ff,ff,ff,ff] rfl rfl (one_of HT_.out (by kernel_rfl)) (by decide) (fun K hK => ?_)
           refine goes_ Try.func63 (by kernel_rfl) rfl #[.pointer (some ⟨g, 0, none⟩), .int .i64 (x192001_13.length : Int)] (by rfl) rfl rfl zq12 ?_
           with_reducible refine (spec_l1Rd_below.calls g s0_0 x1001_33 (x192001_13.length : Int) t208 t209 w0 _ ?side1 ?side2 A44.out).mono ?_
           (case side1 => exact zq115)
           (case side2 => exact zq116)
           rintro e w50 ⟨rfl, hi, hb, hk⟩
           have HS2_ := keep_cell hk (hHeld.2.2.1) zq134
           have HS3_ := keep_cell hk (hHeld.2.2.2.1) zq134
           have HS4_ := keep_cell hk (hHeld.2.2.2.2.1) zq134
           have HS5_ := keep_cell hk (hHeld.2.2.2.2.2) zq134
           refine ⟨_, rfl, ?_⟩
           have n0_ := Aside0.mk (Kd.R_mono (Kd.R_keep (IsS110.apart (show IsS110 w0 _ g s0_0 x1001_33 from by repeat (first | (with_reducible first | exact HI0.out | apply IsS110.alloc | apply IsS110.drewN | apply IsS110.drew | apply IsS110.set_1 | refine IsS110.far ?_ NB0_190.out _ | refine IsS110.far ?_ NB0_191.out _) | exact HI0.out)) zq120 (by decide)) hk (fun _ h => h.2)) (fun _ h => h.1))
           have n1_ := Aside0.mk (KeepBut.blk hk (g' := gb190) (o := .cells #[.int .i64 0, .slice none 0 0] 57 (0, 0)) zq113 NB190_0.out (by simp))
           have n2_ := Aside0.mk (KeepBut.blk hk (g' := gb191) (o := .cells #[.int .i64 x192000_13, .slice (some ad210) x192001_13.length co49] 57 (0, 0)) zq119 NB191_0.out (by simp))
           have n3_ := Aside0.mk (KeepBut.trans zq118 hk (.inl rfl))
           have n4_ := Aside0.mk (hb)
           have n5_ := Aside0.mk (hi)
           clear HO_192001
           clear BK190
           clear BK191
           clear HK
           clear HB
           clear HI0
           have HO_192001 := n0_
           have BK190 := n1_
           have BK191 := n2_
           have HK := n3_
           have HB := n4_
           have HI0 := n5_
           clear n0_ n1_ n2_ n3_ n4_ n5_
           (try clear hb)
           (try clear hb2)
           (try clear hk)
           (try clear hi)
           refine hK.out _ _ ⟨(blk_cell BK191.out 0).trans rfl, (blk_cell BK191.out 1).trans rfl, HS2_, HS3_, HS4_, HS5_⟩ (fun hHeld => ?_)
           clear hK K
           refine norm_ (a' := ?_) ?_ ?_
           rotate_left
           ·
            show Act.put _ (some 46) _ = _
            simp only [Act.put, List.setIfInBounds_toArray, List.set_cons_zero, List.set_cons_succ, i64_w, i32_w]
            rfl
           refine pure_ (i := 8) (N := some 47) (v := ?_) (a' := ?_) #[tt,tt,tt,tt,tt,tt,tt,tt,tt,ff,ff,ff,ff,ff,ff,ff,ff] rfl rfl (any_of HT_.out (by kernel_rfl)) (fun _ _ _ h => h) (Or.inl ⟨by rfl, ?_⟩) ?_ ?_
           rotate_left
           exact zq238
           rotate_left
           exact zq239
           refine pure_ (i := 9) (N := some 48) (v := ?_) (a' := ?_) #[tt,tt,tt,tt,tt,tt,tt,tt,tt,tt,ff,ff,ff,ff,ff,ff,ff] rfl rfl (any_of HT_.out (by kernel_rfl)) (fun _ _ _ h => h) (Or.inl ⟨by rfl, ?_⟩) ?_ ?_
           rotate_left
           exact zq238
           rotate_left
           exact zq239
           refine take_ (i := 10) (N := some 49) (v := ?_) (a' := ?_) #[tt,tt,tt,tt,tt,tt,tt,tt,tt,tt,tt,ff,ff,ff,ff,ff,ff] rfl rfl (take_ofW HT_.out HW_.out (by kernel_rfl)) (fun _ _ _ h => h) (Or.inl ⟨by rfl, ?_⟩) hHeld ?_ ?_
           rotate_left
           exact zq244
           rotate_left
           exact zq239
           refine one_ (i := 11) (N := some 50) #[tt,tt,tt,tt,tt,tt,tt,tt,tt,tt,tt,tt,ff,ff,ff,ff,ff] rfl rfl (one_of HT_.out (by kernel_rfl)) (by decide) (fun K hK => ?_)
           refine goes_ Try.func41 (by kernel_rfl) rfl #[.agg #[.int .i64 x192000_13, .slice (some ad210) x192001_13.length co49], .int .i64 ((rd_T59 x192001_13 t208).f0), .bool false] (by rfl) rfl rfl zq12 ?_
           with_reducible refine (spec_Take.calls kj33 x192000_13 _ _ x192001_13 ((rd_T59 x192001_13 t208).f0) false t211 t212 t215 t216 t217 t218 t219 _ ?side1 ?side2 A47.out).mono ?_
           (case side1 => exact zq126)
           (case side2 => exact zq127)
           rintro e w51 ⟨v213, rfl, ho0, hb⟩
           have HS2_ := (hb.cell (World.block_lt_of_cell? _ _ (hHeld.2.2.1))).trans (hHeld.2.2.1)
           have HS3_ := (hb.cell (World.block_lt_of_cell? _ _ (hHeld.2.2.2.1))).trans (hHeld.2.2.2.1)
           have HS4_ := (hb.cell (World.block_lt_of_cell? _ _ (hHeld.2.2.2.2.1))).trans (hHeld.2.2.2.2.1)
           have HS5_ := (hb.cell (World.block_lt_of_cell? _ _ (hHeld.2.2.2.2.2))).trans (hHeld.2.2.2.2.2)
           refine ⟨_, rfl, ?_⟩
           have n0_ := Aside0.mk (Kd.R_elder' zq120 (Kd.R_base ho0) hb)
           have n1_ := Aside0.mk (Kd.R_lower (Kd.R_new' ho0 (Kd.R_lt zq120)) (keep_size (w := w) (g := g) (row := none) zq118))
           have n2_ := Aside0.mk (blk_below (g := gb190) (o := .cells #[.int .i64 0, .slice none 0 0] 57 (0, 0)) zq113 hb)
           have n3_ := Aside0.mk (blk_below (g := gb191) (o := .cells #[.int .i64 x192000_13, .slice (some ad210) x192001_13.length co49] 57 (0, 0)) zq119 hb)
           have n4_ := Aside0.mk (IsS110.below zq115 hb)
           have n5_ := Aside0.mk (KeepBut.trans zq118 (KeepBut.of_below hb g none) (.inl rfl))
           have n6_ := Aside0.mk (below_step zq116 hb)
           clear HO_192001
           clear BK190
           clear BK191
           clear HI0
           clear HK
           clear HB
           have HO_192001 := n0_
           have HO214 := n1_
           have BK190 := n2_
           have BK191 := n3_
           have HI0 := n4_
           have HK := n5_
           have HB := n6_
           clear n0_ n1_ n2_ n3_ n4_ n5_ n6_
           (try clear hb)
           (try clear hb2)
           (try clear hk)
           (try clear hi)
           (try clear ho0)
           obtain ⟨Ao53, co53, eo53⟩ := Kd.R_slice HO214.out
           (first | subst eo53 | (injection eo53 with f1_ f2_ f3_; have f4_ := f1_.symm; have f5_ := f3_.symm; clear f1_ f2_ f3_; subst f4_; subst f5_))
           refine hK.out _ _ ⟨(blk_cell BK191.out 0).trans rfl, (blk_cell BK191.out 1).trans rfl, HS2_, HS3_, HS4_, HS5_⟩ (fun hHeld => ?_)
           clear hK K
           refine norm_ (a' := ?_) ?_ ?_
           rotate_left
           ·
            show Act.put _ (some 50) _ = _
            simp only [Act.put, List.setIfInBounds_toArray, List.set_cons_zero, List.set_cons_succ, i64_w, i32_w]
            rfl
           refine pure_ (i := 12) (N := some 38) (v := ?_) (a' := ?_) #[tt,tt,tt,tt,tt,tt,tt,tt,tt,tt,tt,tt,tt,ff,ff,ff,ff] rfl rfl (any_of HT_.out (by kernel_rfl)) (fun _ _ _ h => h) (Or.inl ⟨by rfl, ?_⟩) ?_ ?_
           rotate_left
           exact zq238
           rotate_left
           exact zq239
           refine pure_ (i := 13) (N := some 51) (v := ?_) (a' := ?_) #[tt,tt,tt,tt,tt,tt,tt,tt,tt,tt,tt,tt,tt,tt,ff,ff,ff] rfl rfl (any_of HT_.out (by kernel_rfl)) (fun _ _ _ h => h) (Or.inl ⟨by rfl, ?_⟩) ?_ ?_
           rotate_left
           exact zq238
           rotate_left
           exact zq239
           refine pure_ (i := 14) (N := some 52) (v := ?_) (a' := ?_) #[tt,tt,tt,tt,tt,tt,tt,tt,tt,tt,tt,tt,tt,tt,tt,ff,ff] rfl rfl (any_of HT_.out (by kernel_rfl)) (fun _ _ _ h => h) (Or.inl ⟨by rfl, ?_⟩) ?_ ?_
           rotate_left
           exact zq238
           rotate_left
           exact zq239
           refine pure_ (i := 15) (N := some 53) (v := ?_) (a' := ?_) #[tt,tt,tt,tt,tt,tt,tt,tt,tt,tt,tt,tt,tt,tt,tt,tt,ff] rfl rfl (any_of HT_.out (by kernel_rfl)) (fun _ _ _ h => h) (Or.inl ⟨by rfl, ?_⟩) ?_ ?_
           rotate_left
           exact zq238
           rotate_left
           exact zq239
           refine last_ (i := 16) (N := none) #[tt,tt,tt,tt,tt,tt,tt,tt,tt,tt,tt,tt,tt,tt,tt,tt,tt] rfl rfl (one_of HT_.out (by kernel_rfl)) (by decide) (fun K hK => ?_)
           have hs52 : w51.cell? ⟨gb191, 0, none⟩ = some (.int .i64 x192000_13) := (blk_cell BK191.out 0).trans rfl
           have hfs52 := blk_frozen BK191.out 0
           have hns52_0 := NB190_191.out
           have hms52_0 := NB191_190.out
           have hs54 : w51.cell? ⟨gb191, 1, none⟩ = some (.slice (some ad210) x192001_13.length co49) := (blk_cell BK191.out 1).trans rfl
           have hfs54 := blk_frozen BK191.out 1
           have hns54_0 := NB190_191.out
           have hms54_0 := NB191_190.out
           refine skip_ (w1 := ?_) (by rfl) rfl ?_ ?_
           rotate_left
           ·
            go_simp
            rfl
           refine hK.out _ _ ?_
           clear hK K
           refine done_ (done_of HT_.out (by kernel_rfl)) ?_
           try go_wp2
           go_roundg kj33
           case measure => have := HK1.out; have := HJ13.out; have := HJ33.out; omega
           case rel => exact ⟨(wrap64 (x4_1 - 1)), (t209), (t211), (t212), (.slice Ao53 t212.length co53), zq1, H', ⟨zq135⟩, ⟨by (with_reducible repeat (first | apply Kd.R_alloc | apply Kd.R_drewN | apply Kd.R_drew)); exact Kd.R_mono (Kd.R_far (p := ⟨gb191, 1, none⟩) (Kd.R_far (p := ⟨gb191, 0, none⟩) (Kd.R_types HO214.out BK191.out (by decide)) (fun _ hk => hk.2) (.int .i64 t211)) (fun _ hk => hk.2) (.slice Ao53 t212.length co53)) (fun _ hk => trivial)⟩, ⟨zq117⟩, ⟨by (with_reducible repeat (first | refine blk_drewN ?_ _ | refine blk_drew ?_ | refine blk_alloc ?_ _)); refine blk_put (cs := #[.int .i64 t211, .slice (some ad210) x192001_13.length co49]) ?_ 1 _ rfl; (with_reducible repeat (first | refine blk_drewN ?_ _ | refine blk_drew ?_ | refine blk_alloc ?_ _)); refine blk_put (cs := #[.int .i64 x192000_13, .slice (some ad210) x192001_13.length co49]) ?_ 0 _ rfl; (with_reducible repeat (first | refine blk_drewN ?_ _ | refine blk_drew ?_ | refine blk_alloc ?_ _)); exact BK191.out⟩, ⟨zq115⟩, ⟨zq118⟩, ⟨zq116⟩⟩
          ·
           rw [if_neg c46] at H
           exact absurd H (by simp)
         ·
          rw [if_neg c45] at H
          exact absurd H (by simp)
        ·
         replace c43 := Bool.eq_false_iff.mpr c43
         subst c43
         have H1 : (spec_l1Rd_net.l0 kj33 (wrap64 (x4_1 - 1)) s0_0 x1001_33 x192000_13 x192001_13) = some (r1, r2, r3) := by rw [if_neg (show ¬ (false = true) by decide)] at H; exact H
         clear H
         have H := H1
         clear H1
         have H' := Aside0.mk H
         clear H
         go_wp2
         go_roundg kj33
         case measure => have := HK1.out; have := HJ13.out; have := HJ33.out; omega
         case rel => exact ⟨(wrap64 (x4_1 - 1)), (x1001_33), (x192000_13), (x192001_13), (u192001), zq1, H', ⟨zq135⟩, ⟨zq120⟩, ⟨zq113⟩, ⟨zq119⟩, ⟨zq115⟩, ⟨zq118⟩, ⟨zq116⟩⟩
   ·
    rw [if_neg c9] at H
    have c9b0 : decide (0 < x4_1) = false := decide_eq_false c9
    clear c9
    replace H := Option.bind_eq_some_iff.mp H
    obtain ⟨⟨t220, t221⟩, A550, H⟩ := H
    replace H : (if t220 = 0 then ((spec_l1Rd_off.f k1 s0_0 t221 1 1000000000000).bind fun bt222 => (some (bt222.1, x192001_1, bt222.2))) else (if t220 = 1 then (if x192001_1.length < 3518437208883 then (some (x192000_1, (x192001_1 ++ [(⟨1, 1, 1, (⟨#[]⟩ : ByteArray)⟩ : S59)]), t221)) else (none)) else (if t220 = 2 then (spec_l1Rd_net.l1 k1 s0_0 t221 x192000_1 x192001_1) else (some (x192000_1, x192001_1, t221))))) = some (r1, r2, r3) := H
    have A55 := Aside0.mk A550
    clear A550
    by_cases c56 : t220 = 0
    ·
     rw [if_pos c56] at H
     have c56b0 : (t220 == 0) = true := beq_iff_eq.mpr c56
     have c56b1 : (t220 != 0) = false := bne_eq_false_iff_eq.mpr c56
     clear c56
     replace H := Option.bind_eq_some_iff.mp H
     obtain ⟨⟨t222, t223⟩, A570, H⟩ := H
     replace H : (some (t222, x192001_1, t223)) = some (r1, r2, r3) := H
     have A57 := Aside0.mk A570
     clear A570
     simp only [Option.some.injEq, Prod.mk.injEq] at H
     obtain ⟨rfl, rfl, rfl⟩ := H
     go_wp2_with (first | ((with_reducible refine gate_callee (f := 63) rfl ?_); refine goesL_ (some 55) rfl rfl Try.func63 (by kernel_rfl) rfl #[.pointer (some ⟨g, 0, none⟩), .int .i64 40] rfl zq12 ?_; (with_reducible refine (spec_l1Rd_below.calls g s0_0 x1001_1 40 t220 t221 w0 _ ?side1 ?side2 A55.out).mono ?_); (case side1 => exact zq115); (case side2 => exact zq116); rintro e w58 ⟨rfl, hi, hb, hk⟩; refine ⟨_, rfl, ?_⟩; have n0_ := Aside0.mk (Kd.R_mono (Kd.R_keep (IsS110.apart (show IsS110 w0 _ g s0_0 x1001_1 from by repeat (first | (with_reducible first | exact HI0.out | apply IsS110.alloc | apply IsS110.drewN | apply IsS110.drew | apply IsS110.set_1 | refine IsS110.far ?_ NB0_190.out _ | refine IsS110.far ?_ NB0_191.out _) | exact HI0.out)) zq120 (by decide)) hk (fun _ h => h.2)) (fun _ h => h.1)); have n1_ := Aside0.mk (KeepBut.blk hk (g' := gb190) (o := .cells #[.int .i64 0, .slice none 0 0] 57 (0, 0)) zq113 NB190_0.out (by simp)); have n2_ := Aside0.mk (KeepBut.blk hk (g' := gb191) (o := .cells #[.int .i64 x192000_1, u192001] 57 (0, 0)) zq119 NB191_0.out (by simp)); have n3_ := Aside0.mk (KeepBut.trans zq118 hk (.inl rfl)); have n4_ := Aside0.mk (hb); have n5_ := Aside0.mk (hi); clear HO_192001; clear BK190; clear BK191; clear HK; clear HB; clear HI0; have HO_192001 := n0_; have BK190 := n1_; have BK191 := n2_; have HK := n3_; have HB := n4_; have HI0 := n5_; clear n0_ n1_ n2_ n3_ n4_ n5_; (try clear hb); (try clear hb2); (try clear hk); (try clear hi)) | ((with_reducible refine gate_callee (f := 64) rfl ?_); refine goesL_ (some 59) rfl rfl Try.func64 (by kernel_rfl) rfl #[.pointer (some ⟨g, 0, none⟩), .int .i64 1, .int .i64 1000000000000] rfl zq12 ?_; (with_reducible refine (spec_l1Rd_off.calls k1 g s0_0 t221 1 1000000000000 t222 t223 w0 _ ?side1 ?side2 A57.out).mono ?_); (case side1 => exact zq115); (case side2 => exact zq116); rintro e w59 ⟨rfl, hi, hb, hk⟩; refine ⟨_, rfl, ?_⟩; have n0_ := Aside0.mk (Kd.R_mono (Kd.R_keep (IsS110.apart (show IsS110 w0 _ g s0_0 t221 from by repeat (first | (with_reducible first | exact HI0.out | apply IsS110.alloc | apply IsS110.drewN | apply IsS110.drew | apply IsS110.set_1 | refine IsS110.far ?_ NB0_190.out _ | refine IsS110.far ?_ NB0_191.out _) | exact HI0.out)) zq120 (by decide)) hk (fun _ h => h.2)) (fun _ h => h.1)); have n1_ := Aside0.mk (KeepBut.blk hk (g' := gb190) (o := .cells #[.int .i64 0, .slice none 0 0] 57 (0, 0)) zq113 NB190_0.out (by simp)); have n2_ := Aside0.mk (KeepBut.blk hk (g' := gb191) (o := .cells #[.int .i64 x192000_1, u192001] 57 (0, 0)) zq119 NB191_0.out (by simp)); have n3_ := Aside0.mk (KeepBut.trans zq118 hk (.inl rfl)); have n4_ := Aside0.mk (hb); have n5_ := Aside0.mk (hi); clear HO_192001; clear BK190; clear BK191; clear HK; clear HB; clear HI0; have HO_192001 := n0_; have BK190 := n1_; have BK191 := n2_; have HK := n3_; have HB := n4_; have HI0 := n5_; clear n0_ n1_ n2_ n3_ n4_ n5_; (try clear hb); (try clear hb2); (try clear hk); (try clear hi); have hnb60 := NB191_190.out; have hnc60 := NB190_191.out; have hnb61 := NB191_0.out; have hnc61 := NB0_191.out; have hcz62_0 : w59.cell? ⟨gb191, 0, none⟩ = some (.int .i64 x192000_1) := (blk_cell BK191.out 0).trans rfl; have hcz62_1 : w59.cell? ⟨gb191, 1, none⟩ = some (u192001) := (blk_cell BK191.out 1).trans rfl; have hfz62_0 := blk_frozen BK191.out 0; have hfz62_1 := blk_frozen BK191.out 1; have hnb63 := NB190_0.out; have hnc63 := NB0_190.out; have hcz64_0 : w59.cell? ⟨gb190, 0, none⟩ = some (.int .i64 0) := (blk_cell BK190.out 0).trans rfl; have hcz64_1 : w59.cell? ⟨gb190, 1, none⟩ = some (.slice none 0 0) := (blk_cell BK190.out 1).trans rfl; have hfz64_0 := blk_frozen BK190.out 0; have hfz64_1 := blk_frozen BK190.out 1; obtain ⟨Ao65, co65, eo65⟩ := Kd.R_slice HO_192001.out; subst eo65))
     refine bodyPost_ret (results_cell_row rfl _ _ gb190 57 #[.int .i64 t222, .slice Ao65 x192001_1.length co65] (0, 0) _ rfl (by (with_reducible repeat (first | refine blk_drewN ?_ _ | refine blk_drew ?_ | refine blk_alloc ?_ _)); refine blk_put (cs := #[.int .i64 t222, .slice none 0 0]) ?_ 1 _ rfl; (with_reducible repeat (first | refine blk_drewN ?_ _ | refine blk_drew ?_ | refine blk_alloc ?_ _)); refine blk_put (cs := #[.int .i64 0, .slice none 0 0]) ?_ 0 _ rfl; (with_reducible repeat (first | refine blk_drewN ?_ _ | refine blk_drew ?_ | refine blk_alloc ?_ _)); refine blk_far ?_ NB190_191.out _; (with_reducible repeat (first | refine blk_drewN ?_ _ | refine blk_drew ?_ | refine blk_alloc ?_ _)); exact BK190.out) Try.underlying57 rfl (by kernel_rfl)) rfl ?_
     exact ⟨_, zq8, by (with_reducible repeat (first | apply Kd.R_alloc | apply Kd.R_drewN | apply Kd.R_drew)); exact Kd.R_mono (Kd.R_far (p := ⟨gb190, 1, none⟩) (Kd.R_far (p := ⟨gb190, 0, none⟩) (Kd.R_far (p := ⟨gb191, 0, none⟩) (Kd.R_types (Kd.R_types HO_192001.out BK191.out (by decide)) BK190.out (by decide)) (fun _ hk => hk.1.2) (.int .i64 t222)) (fun _ hk => hk.2) (.int .i64 t222)) (fun _ hk => hk.2) (.slice Ao65 x192001_1.length co65)) (fun _ hk => trivial), zq115, zq116, zq118⟩
    ·
     rw [if_neg c56] at H
     have c56b0 : (t220 == 0) = false := beq_eq_false_iff_ne.mpr c56
     have c56b1 : (t220 != 0) = true := bne_iff_ne.mpr c56
     by_cases c66 : t220 = 1
     ·
      rw [if_pos c66] at H
      have c66b0 : (t220 == 1) = true := beq_iff_eq.mpr c66
      have c66b1 : (t220 != 1) = false := bne_eq_false_iff_eq.mpr c66
      clear c66
      by_cases c67 : x192001_1.length < 3518437208883
      ·
       rw [if_pos c67] at H
       have LMc67 := Aside0.mk c67
       clear c67
       obtain ⟨y224, hy224⟩ : ∃ y_ : List (S59), y_ = (x192001_1 ++ [(⟨1, 1, 1, (⟨#[]⟩ : ByteArray)⟩ : S59)]) := ⟨_, rfl⟩
       replace H : (some (x192000_1, y224, t221)) = some (r1, r2, r3) := by first | (rw [hy224]; with_reducible exact H) | (have H2_ := (Option.bind_some _ _).symm.trans H; rw [hy224]; with_reducible exact H2_) | (have H2_ := (Option.bind_some _ _).symm.trans H; with_reducible exact H2_) | with_reducible exact H | (rw [hy224]; exact H) | exact H
       have Ny224 := Aside0.mk hy224
       clear hy224
       simp only [Option.some.injEq, Prod.mk.injEq] at H
       obtain ⟨rfl, rfl, rfl⟩ := H
       go_wp2_with (first | ((with_reducible refine gate_callee (f := 63) rfl ?_); refine goesL_ (some 55) rfl rfl Try.func63 (by kernel_rfl) rfl #[.pointer (some ⟨g, 0, none⟩), .int .i64 40] rfl zq12 ?_; (with_reducible refine (spec_l1Rd_below.calls g s0_0 x1001_1 40 t220 t221 w0 _ ?side1 ?side2 A55.out).mono ?_); (case side1 => exact zq115); (case side2 => exact zq116); rintro e w68 ⟨rfl, hi, hb, hk⟩; refine ⟨_, rfl, ?_⟩; have n0_ := Aside0.mk (Kd.R_mono (Kd.R_keep (IsS110.apart (show IsS110 w0 _ g s0_0 x1001_1 from by repeat (first | (with_reducible first | exact HI0.out | apply IsS110.alloc | apply IsS110.drewN | apply IsS110.drew | apply IsS110.set_1 | refine IsS110.far ?_ NB0_190.out _ | refine IsS110.far ?_ NB0_191.out _) | exact HI0.out)) zq120 (by decide)) hk (fun _ h => h.2)) (fun _ h => h.1)); have n1_ := Aside0.mk (KeepBut.blk hk (g' := gb190) (o := .cells #[.int .i64 0, .slice none 0 0] 57 (0, 0)) zq113 NB190_0.out (by simp)); have n2_ := Aside0.mk (KeepBut.blk hk (g' := gb191) (o := .cells #[.int .i64 x192000_1, u192001] 57 (0, 0)) zq119 NB191_0.out (by simp)); have n3_ := Aside0.mk (KeepBut.trans zq118 hk (.inl rfl)); have n4_ := Aside0.mk (hb); have n5_ := Aside0.mk (hi); clear HO_192001; clear BK190; clear BK191; clear HK; clear HB; clear HI0; have HO_192001 := n0_; have BK190 := n1_; have BK191 := n2_; have HK := n3_; have HB := n4_; have HI0 := n5_; clear n0_ n1_ n2_ n3_ n4_ n5_; (try clear hb); (try clear hb2); (try clear hk); (try clear hi); have hnb69 := NB191_190.out; have hnc69 := NB190_191.out; have hnb70 := NB191_0.out; have hnc70 := NB0_191.out; have hcz71_0 : w68.cell? ⟨gb191, 0, none⟩ = some (.int .i64 x192000_1) := (blk_cell BK191.out 0).trans rfl; have hcz71_1 : w68.cell? ⟨gb191, 1, none⟩ = some (u192001) := (blk_cell BK191.out 1).trans rfl; have hfz71_0 := blk_frozen BK191.out 0; have hfz71_1 := blk_frozen BK191.out 1) | ((with_reducible refine gate_builtin (b := .append) (xs := #[.tmp 64, .tmp 66]) rfl ?_); (try (refine gate_guard (by rfl) ?_; dsimp only)); at_builtin; refine Kd.R_append k59 w.heap.size rfl (.tmp 64) (.tmp 66) 55 59 (.agg #[(.int .i64 0), (.int .i64 0), (.int .i64 0), (.string ⟨#[]⟩)]) 40 rfl Try.underlying55 info59 rfl (by decide) (by omega) u192001 x192001_1 (⟨1, 1, 1, (⟨#[]⟩ : ByteArray)⟩ : S59) [.int .i64 1, .int .i64 1, .int .i64 1, .string (⟨#[]⟩ : ByteArray)] (fun _ => True) (fun _ => False) rfl rfl ?aP (fun _ hk => hk.elim) ?aF ?aO (Below.refl _ _) ?aS ?aL ?_; (case aP => exact k59_mkM _ _ _ (⟨1, 1, 1, (⟨#[]⟩ : ByteArray)⟩ : S59)); (case aF => exact zq86); (case aO => exact zq120); (case aS => exact (keep_size (w := w) (g := g) (row := none) zq118)); (case aL => have := LMc67.out; omega); intro v225 w72 ho hb hg hat; rw [← Ny224.out] at ho; have n0_ := Aside0.mk (blk_grown (g := gb190) (o := .cells #[.int .i64 0, .slice none 0 0] 57 (0, 0)) zq113 hg (Kd.R_ne HO_192001.out BK190.out (by decide))); have n1_ := Aside0.mk (blk_grown (g := gb191) (o := .cells #[.int .i64 x192000_1, u192001] 57 (0, 0)) zq119 hg (Kd.R_ne HO_192001.out BK191.out (by decide))); have n2_ := Aside0.mk (IsS110.grown zq115 hg (IsS110.own_ne HI0.out HO_192001.out (by decide))); have n3_ := Aside0.mk (below_weaken zq116 HL.out hb); have n4_ := Aside0.mk (KeepBut.trans zq118 (KeepBut.of_grown hg g) (Kd.R_base2 HO_192001.out)); have n5_ := Aside0.mk (ho); clear BK190; clear BK191; clear HI0; clear HB; clear HK; clear HO_192001; have BK190 := n0_; have BK191 := n1_; have HI0 := n2_; have HB := n3_; have HK := n4_; have HO226 := n5_; clear n0_ n1_ n2_ n3_ n4_ n5_; clear ho hb hg hat; obtain ⟨Ao73, co73, eo73⟩ := Kd.R_slice HO226.out; subst eo73; have hcz74_0 : w72.cell? ⟨gb191, 0, none⟩ = some (.int .i64 x192000_1) := (blk_cell BK191.out 0).trans rfl; have hcz74_1 : w72.cell? ⟨gb191, 1, none⟩ = some (u192001) := (blk_cell BK191.out 1).trans rfl; have hfz74_0 := blk_frozen BK191.out 0; have hfz74_1 := blk_frozen BK191.out 1; have hnb75 := NB190_0.out; have hnc75 := NB0_190.out; have hcz76_0 : w72.cell? ⟨gb190, 0, none⟩ = some (.int .i64 0) := (blk_cell BK190.out 0).trans rfl; have hcz76_1 : w72.cell? ⟨gb190, 1, none⟩ = some (.slice none 0 0) := (blk_cell BK190.out 1).trans rfl; have hfz76_0 := blk_frozen BK190.out 0; have hfz76_1 := blk_frozen BK190.out 1))
       refine bodyPost_ret (results_cell_row rfl _ _ gb190 57 #[.int .i64 x192000_1, .slice Ao73 y224.length co73] (0, 0) _ rfl (by (with_reducible repeat (first | refine blk_drewN ?_ _ | refine blk_drew ?_ | refine blk_alloc ?_ _)); refine blk_put (cs := #[.int .i64 x192000_1, .slice none 0 0]) ?_ 1 _ rfl; (with_reducible repeat (first | refine blk_drewN ?_ _ | refine blk_drew ?_ | refine blk_alloc ?_ _)); refine blk_put (cs := #[.int .i64 0, .slice none 0 0]) ?_ 0 _ rfl; (with_reducible repeat (first | refine blk_drewN ?_ _ | refine blk_drew ?_ | refine blk_alloc ?_ _)); refine blk_far ?_ NB190_191.out _; (with_reducible repeat (first | refine blk_drewN ?_ _ | refine blk_drew ?_ | refine blk_alloc ?_ _)); exact BK190.out) Try.underlying57 rfl (by kernel_rfl)) rfl ?_
       exact ⟨_, zq8, by (with_reducible repeat (first | apply Kd.R_alloc | apply Kd.R_drewN | apply Kd.R_drew)); exact Kd.R_mono (Kd.R_far (p := ⟨gb190, 1, none⟩) (Kd.R_far (p := ⟨gb190, 0, none⟩) (Kd.R_far (p := ⟨gb191, 1, none⟩) (Kd.R_types (Kd.R_types HO226.out BK191.out (by decide)) BK190.out (by decide)) (fun _ hk => hk.1.2) (.slice Ao73 y224.length co73)) (fun _ hk => hk.2) (.int .i64 x192000_1)) (fun _ hk => hk.2) (.slice Ao73 y224.length co73)) (fun _ hk => trivial), zq115, zq116, zq118⟩
      ·
       rw [if_neg c67] at H
       exact absurd H (by simp)
     ·
      rw [if_neg c66] at H
      have c66b0 : (t220 == 1) = false := beq_eq_false_iff_ne.mpr c66
      have c66b1 : (t220 != 1) = true := bne_iff_ne.mpr c66
      by_cases c77 : t220 = 2
      ·
       rw [if_pos c77] at H
       have c77b0 : (t220 == 2) = true := beq_iff_eq.mpr c77
       have c77b1 : (t220 != 2) = false := bne_eq_false_iff_eq.mpr c77
       clear c77
       have H' := Aside0.mk H
       clear H
       go_wp2_with (first | ((with_reducible refine gate_callee (f := 63) rfl ?_); refine goesL_ (some 55) rfl rfl Try.func63 (by kernel_rfl) rfl #[.pointer (some ⟨g, 0, none⟩), .int .i64 40] rfl zq12 ?_; (with_reducible refine (spec_l1Rd_below.calls g s0_0 x1001_1 40 t220 t221 w0 _ ?side1 ?side2 A55.out).mono ?_); (case side1 => exact zq115); (case side2 => exact zq116); rintro e w78 ⟨rfl, hi, hb, hk⟩; refine ⟨_, rfl, ?_⟩; have n0_ := Aside0.mk (Kd.R_mono (Kd.R_keep (IsS110.apart (show IsS110 w0 _ g s0_0 x1001_1 from by repeat (first | (with_reducible first | exact HI0.out | apply IsS110.alloc | apply IsS110.drewN | apply IsS110.drew | apply IsS110.set_1 | refine IsS110.far ?_ NB0_190.out _ | refine IsS110.far ?_ NB0_191.out _) | exact HI0.out)) zq120 (by decide)) hk (fun _ h => h.2)) (fun _ h => h.1)); have n1_ := Aside0.mk (KeepBut.blk hk (g' := gb190) (o := .cells #[.int .i64 0, .slice none 0 0] 57 (0, 0)) zq113 NB190_0.out (by simp)); have n2_ := Aside0.mk (KeepBut.blk hk (g' := gb191) (o := .cells #[.int .i64 x192000_1, u192001] 57 (0, 0)) zq119 NB191_0.out (by simp)); have n3_ := Aside0.mk (KeepBut.trans zq118 hk (.inl rfl)); have n4_ := Aside0.mk (hb); have n5_ := Aside0.mk (hi); clear HO_192001; clear BK190; clear BK191; clear HK; clear HB; clear HI0; have HO_192001 := n0_; have BK190 := n1_; have BK191 := n2_; have HK := n3_; have HB := n4_; have HI0 := n5_; clear n0_ n1_ n2_ n3_ n4_ n5_; (try clear hb); (try clear hb2); (try clear hk); (try clear hi)))
       go_loopg [] k1 (fun kq w' => ∃ (x192000_2 : Int) (x192001_2 : List (S59)) (u192001 : Value), Aside0 (spec_l1Rd_net.l1 kq s0_0 t221 x192000_2 x192001_2 = some (r1, r2, r3)) ∧ Aside0 (kq ≤ k1) ∧ Aside0 (Kd.R k59 59 w' w.heap.size (fun _ => True) u192001 x192001_2) ∧ Aside0 (w'.heap[gb190]? = some (.cells #[.int .i64 0, (.slice none 0 0)] 57 (0, 0))) ∧ Aside0 (w'.heap[gb191]? = some (.cells #[.int .i64 x192000_2, u192001] 57 (0, 0))) ∧ Aside0 (IsS110 w0 w' g s0_0 t221) ∧ Aside0 (KeepBut w w' g none) ∧ Aside0 (Below w0.heap.size w0 w'))
       case atStart => exact ⟨(x192000_1), (x192001_1), (u192001), H', ⟨Nat.le_refl _⟩, ⟨zq120⟩, ⟨zq113⟩, ⟨zq119⟩, ⟨zq115⟩, ⟨zq118⟩, ⟨zq116⟩⟩
       case round =>
        clear H'
        try clear c2
        try clear p2
        try clear q2
        try clear hx2
        try clear c3
        try clear c4
        try clear c5
        try clear c6
        try clear p6
        try clear c7
        try clear c9
        try clear c9b0
        try clear p21
        try clear q21
        try clear hx21
        try clear c26
        try clear c26b0
        try clear c26b1
        try clear c27
        try clear c28
        try clear c29
        try clear c31
        try clear c32
        try clear c36
        try clear c38
        try clear c39
        try clear c41
        try clear c43
        try clear c45
        try clear c45b0
        try clear c46
        try clear c46b0
        try clear c56
        try clear c56b0
        try clear c56b1
        try clear c60
        try clear c61
        try clear c63
        try clear c64
        try clear p64
        try clear c66
        try clear c66b0
        try clear c66b1
        try clear c67
        try clear c69
        try clear c70
        try clear c71
        try clear c75
        try clear c77
        try clear c77b0
        try clear c77b1
        try clear hcz30_0
        try clear hcz30_1
        try clear hcz33_0
        try clear hcz33_1
        try clear hcz40_0
        try clear hcz40_1
        try clear hcz62_0
        try clear hcz62_1
        try clear hcz64_0
        try clear hcz64_1
        try clear hcz71_0
        try clear hcz71_1
        try clear hcz74_0
        try clear hcz74_1
        try clear hcz76_0
        try clear hcz76_1
        try clear hfz30_0
        try clear hfz30_1
        try clear hfz33_0
        try clear hfz33_1
        try clear hfz40_0
        try clear hfz40_1
        try clear hfz62_0
        try clear hfz62_1
        try clear hfz64_0
        try clear hfz64_1
        try clear hfz71_0
        try clear hfz71_1
        try clear hfz74_0
        try clear hfz74_1
        try clear hfz76_0
        try clear hfz76_1
        try clear hx210_0
        try clear hx210_1
        try clear hx210_2
        try clear hx210_3
        try clear p2
        try clear p210
        try clear p6
        try clear q210
        obtain ⟨x192000_2, x192001_2, u192001, HA, HK2, HO_192001, BK190, BK191, HI0, HK, HB⟩ := hrel
        cases gk with
        | zero => exact absurd HA.out (by simp [spec_l1Rd_net.l1])
        | succ k2 =>
         have H := HA.out
         clear HA
         simp only [spec_l1Rd_net.l1] at H
         by_cases c79 : (x192001_2.length : Int) < 300
         ·
          rw [if_pos c79] at H
          have c79b0 : decide ((x192001_2.length : Int) < 300) = true := decide_eq_true c79
          have c79b1 : decide (x192001_2.length < 300) = true := decide_eq_true (by omega)
          clear c79
          by_cases c80 : x192001_2.length < 3518437208883
          ·
           rw [if_pos c80] at H
           have LMc80 := Aside0.mk c80
           clear c80
           obtain ⟨y227, hy227⟩ : ∃ y_ : List (S59), y_ = (x192001_2 ++ [(⟨x192000_2, 1, 2, (⟨#[]⟩ : ByteArray)⟩ : S59)]) := ⟨_, rfl⟩
           replace H : (spec_l1Rd_net.l1 k2 s0_0 t221 (wrap64 (x192000_2 + 1)) y227) = some (r1, r2, r3) := by first | (rw [hy227]; with_reducible exact H) | (have H2_ := (Option.bind_some _ _).symm.trans H; rw [hy227]; with_reducible exact H2_) | (have H2_ := (Option.bind_some _ _).symm.trans H; with_reducible exact H2_) | with_reducible exact H | (rw [hy227]; exact H) | exact H
           have Ny227 := Aside0.mk hy227
           clear hy227
           have H' := Aside0.mk H
           clear H
           have hnb81 := NB191_190.out
           have hnc81 := NB190_191.out
           have hnb82 := NB191_0.out
           have hnc82 := NB0_191.out
           have hcz83_0 : wr.cell? ⟨gb191, 0, none⟩ = some (.int .i64 x192000_2) := (blk_cell BK191.out 0).trans rfl
           have hcz83_1 : wr.cell? ⟨gb191, 1, none⟩ = some (u192001) := (blk_cell BK191.out 1).trans rfl
           have hfz83_0 := blk_frozen BK191.out 0
           have hfz83_1 := blk_frozen BK191.out 1
           obtain ⟨Ao84, co84, eo84⟩ := Kd.R_slice HO_192001.out
           subst eo84
           go_wp2_with (first | ((with_reducible refine gate_builtin (b := .append) (xs := #[.tmp 76, .tmp 80]) rfl ?_); (try (refine gate_guard (by rfl) ?_; dsimp only)); at_builtin; refine Kd.R_append k59 w.heap.size rfl (.tmp 76) (.tmp 80) 55 59 (.agg #[(.int .i64 0), (.int .i64 0), (.int .i64 0), (.string ⟨#[]⟩)]) 40 rfl Try.underlying55 info59 rfl (by decide) (by omega) (.slice Ao84 x192001_2.length co84) x192001_2 (⟨x192000_2, 1, 2, (⟨#[]⟩ : ByteArray)⟩ : S59) [.int .i64 x192000_2, .int .i64 1, .int .i64 2, .string (⟨#[]⟩ : ByteArray)] (fun _ => True) (fun _ => False) rfl rfl ?aP (fun _ hk => hk.elim) ?aF ?aO (Below.refl _ _) ?aS ?aL ?_; (case aP => exact k59_mkM _ _ _ (⟨x192000_2, 1, 2, (⟨#[]⟩ : ByteArray)⟩ : S59)); (case aF => exact zq86); (case aO => exact zq120); (case aS => exact (keep_size (w := w) (g := g) (row := none) zq118)); (case aL => have := LMc80.out; omega); intro v228 w85 ho hb hg hat; rw [← Ny227.out] at ho; have n0_ := Aside0.mk (blk_grown (g := gb190) (o := .cells #[.int .i64 0, .slice none 0 0] 57 (0, 0)) zq113 hg (Kd.R_ne HO_192001.out BK190.out (by decide))); have n1_ := Aside0.mk (blk_grown (g := gb191) (o := .cells #[.int .i64 x192000_2, .slice Ao84 x192001_2.length co84] 57 (0, 0)) zq119 hg (Kd.R_ne HO_192001.out BK191.out (by decide))); have n2_ := Aside0.mk (IsS110.grown zq115 hg (IsS110.own_ne HI0.out HO_192001.out (by decide))); have n3_ := Aside0.mk (below_weaken zq116 HL.out hb); have n4_ := Aside0.mk (KeepBut.trans zq118 (KeepBut.of_grown hg g) (Kd.R_base2 HO_192001.out)); have n5_ := Aside0.mk (ho); clear BK190; clear BK191; clear HI0; clear HB; clear HK; clear HO_192001; have BK190 := n0_; have BK191 := n1_; have HI0 := n2_; have HB := n3_; have HK := n4_; have HO229 := n5_; clear n0_ n1_ n2_ n3_ n4_ n5_; clear ho hb hg hat; obtain ⟨Ao86, co86, eo86⟩ := Kd.R_slice HO229.out; subst eo86; have hcz87_0 : w85.cell? ⟨gb191, 0, none⟩ = some (.int .i64 x192000_2) := (blk_cell BK191.out 0).trans rfl; have hcz87_1 : w85.cell? ⟨gb191, 1, none⟩ = some (.slice Ao84 x192001_2.length co84) := (blk_cell BK191.out 1).trans rfl; have hfz87_0 := blk_frozen BK191.out 0; have hfz87_1 := blk_frozen BK191.out 1))
           go_roundg k2
           case measure => have := HK1.out; have := HK2.out; omega
           case rel => exact ⟨(wrap64 (x192000_2 + 1)), (y227), (.slice Ao86 y227.length co86), H', ⟨by have := HK1.out; have := HK2.out; omega⟩, ⟨by (with_reducible repeat (first | apply Kd.R_alloc | apply Kd.R_drewN | apply Kd.R_drew)); exact Kd.R_mono (Kd.R_far (p := ⟨gb191, 0, none⟩) (Kd.R_far (p := ⟨gb191, 1, none⟩) (Kd.R_types HO229.out BK191.out (by decide)) (fun _ hk => hk.2) (.slice Ao86 y227.length co86)) (fun _ hk => hk.2) (.int .i64 (wrap64 (x192000_2 + 1)))) (fun _ hk => trivial)⟩, ⟨zq117⟩, ⟨by (with_reducible repeat (first | refine blk_drewN ?_ _ | refine blk_drew ?_ | refine blk_alloc ?_ _)); refine blk_put (cs := #[.int .i64 x192000_2, .slice Ao86 y227.length co86]) ?_ 0 _ rfl; (with_reducible repeat (first | refine blk_drewN ?_ _ | refine blk_drew ?_ | refine blk_alloc ?_ _)); refine blk_put (cs := #[.int .i64 x192000_2, .slice Ao84 x192001_2.length co84]) ?_ 1 _ rfl; (with_reducible repeat (first | refine blk_drewN ?_ _ | refine blk_drew ?_ | refine blk_alloc ?_ _)); exact BK191.out⟩, ⟨zq115⟩, ⟨zq118⟩, ⟨zq116⟩⟩
          ·
           rw [if_neg c80] at H
           exact absurd H (by simp)
         ·
          rw [if_neg c79] at H
          have c79b0 : decide ((x192001_2.length : Int) < 300) = false := decide_eq_false c79
          have c79b1 : decide (x192001_2.length < 300) = false := decide_eq_false (by omega)
          clear c79
          simp only [Option.some.injEq, Prod.mk.injEq] at H
          obtain ⟨rfl, rfl, rfl⟩ := H
          have hnb88 := NB191_190.out
          have hnc88 := NB190_191.out
          have hnb89 := NB191_0.out
          have hnc89 := NB0_191.out
          have hcz90_0 : wr.cell? ⟨gb191, 0, none⟩ = some (.int .i64 x192000_2) := (blk_cell BK191.out 0).trans rfl
          have hcz90_1 : wr.cell? ⟨gb191, 1, none⟩ = some (u192001) := (blk_cell BK191.out 1).trans rfl
          have hfz90_0 := blk_frozen BK191.out 0
          have hfz90_1 := blk_frozen BK191.out 1
          obtain ⟨Ao91, co91, eo91⟩ := Kd.R_slice HO_192001.out
          subst eo91
          have hnb92 := NB190_0.out
          have hnc92 := NB0_190.out
          have hcz93_0 : wr.cell? ⟨gb190, 0, none⟩ = some (.int .i64 0) := (blk_cell BK190.out 0).trans rfl
          have hcz93_1 : wr.cell? ⟨gb190, 1, none⟩ = some (.slice none 0 0) := (blk_cell BK190.out 1).trans rfl
          have hfz93_0 := blk_frozen BK190.out 0
          have hfz93_1 := blk_frozen BK190.out 1
          go_wp2
          refine bodyPost_ret (results_cell_row rfl _ _ gb190 57 #[.int .i64 x192000_2, .slice Ao91 x192001_2.length co91] (0, 0) _ rfl (by (with_reducible repeat (first | refine blk_drewN ?_ _ | refine blk_drew ?_ | refine blk_alloc ?_ _)); refine blk_put (cs := #[.int .i64 x192000_2, .slice none 0 0]) ?_ 1 _ rfl; (with_reducible repeat (first | refine blk_drewN ?_ _ | refine blk_drew ?_ | refine blk_alloc ?_ _)); refine blk_put (cs := #[.int .i64 0, .slice none 0 0]) ?_ 0 _ rfl; (with_reducible repeat (first | refine blk_drewN ?_ _ | refine blk_drew ?_ | refine blk_alloc ?_ _)); exact BK190.out) Try.underlying57 rfl (by kernel_rfl)) rfl ?_
          exact ⟨_, zq8, by (with_reducible repeat (first | apply Kd.R_alloc | apply Kd.R_drewN | apply Kd.R_drew)); exact Kd.R_mono (Kd.R_far (p := ⟨gb190, 1, none⟩) (Kd.R_far (p := ⟨gb190, 0, none⟩) (Kd.R_types HO_192001.out BK190.out (by decide)) (fun _ hk => hk.2) (.int .i64 x192000_2)) (fun _ hk => hk.2) (.slice Ao91 x192001_2.length co91)) (fun _ hk => trivial), zq115, zq116, zq118⟩
      ·
       rw [if_neg c77] at H
       have c77b0 : (t220 == 2) = false := beq_eq_false_iff_ne.mpr c77
       have c77b1 : (t220 != 2) = true := bne_iff_ne.mpr c77
       simp only [Option.some.injEq, Prod.mk.injEq] at H
       obtain ⟨rfl, rfl, rfl⟩ := H
       go_wp2_with (first | ((with_reducible refine gate_callee (f := 63) rfl ?_); refine goesL_ (some 55) rfl rfl Try.func63 (by kernel_rfl) rfl #[.pointer (some ⟨g, 0, none⟩), .int .i64 40] rfl zq12 ?_; (with_reducible refine (spec_l1Rd_below.calls g s0_0 x1001_1 40 t220 t221 w0 _ ?side1 ?side2 A55.out).mono ?_); (case side1 => exact zq115); (case side2 => exact zq116); rintro e w94 ⟨rfl, hi, hb, hk⟩; refine ⟨_, rfl, ?_⟩; have n0_ := Aside0.mk (Kd.R_mono (Kd.R_keep (IsS110.apart (show IsS110 w0 _ g s0_0 x1001_1 from by repeat (first | (with_reducible first | exact HI0.out | apply IsS110.alloc | apply IsS110.drewN | apply IsS110.drew | apply IsS110.set_1 | refine IsS110.far ?_ NB0_190.out _ | refine IsS110.far ?_ NB0_191.out _) | exact HI0.out)) zq120 (by decide)) hk (fun _ h => h.2)) (fun _ h => h.1)); have n1_ := Aside0.mk (KeepBut.blk hk (g' := gb190) (o := .cells #[.int .i64 0, .slice none 0 0] 57 (0, 0)) zq113 NB190_0.out (by simp)); have n2_ := Aside0.mk (KeepBut.blk hk (g' := gb191) (o := .cells #[.int .i64 x192000_1, u192001] 57 (0, 0)) zq119 NB191_0.out (by simp)); have n3_ := Aside0.mk (KeepBut.trans zq118 hk (.inl rfl)); have n4_ := Aside0.mk (hb); have n5_ := Aside0.mk (hi); clear HO_192001; clear BK190; clear BK191; clear HK; clear HB; clear HI0; have HO_192001 := n0_; have BK190 := n1_; have BK191 := n2_; have HK := n3_; have HB := n4_; have HI0 := n5_; clear n0_ n1_ n2_ n3_ n4_ n5_; (try clear hb); (try clear hb2); (try clear hk); (try clear hi); have hnb95 := NB191_190.out; have hnc95 := NB190_191.out; have hnb96 := NB191_0.out; have hnc96 := NB0_191.out; have hcz97_0 : w94.cell? ⟨gb191, 0, none⟩ = some (.int .i64 x192000_1) := (blk_cell BK191.out 0).trans rfl; have hcz97_1 : w94.cell? ⟨gb191, 1, none⟩ = some (u192001) := (blk_cell BK191.out 1).trans rfl; have hfz97_0 := blk_frozen BK191.out 0; have hfz97_1 := blk_frozen BK191.out 1; have hnb98 := NB190_0.out; have hnc98 := NB0_190.out; have hcz99_0 : w94.cell? ⟨gb190, 0, none⟩ = some (.int .i64 0) := (blk_cell BK190.out 0).trans rfl; have hcz99_1 : w94.cell? ⟨gb190, 1, none⟩ = some (.slice none 0 0) := (blk_cell BK190.out 1).trans rfl; have hfz99_0 := blk_frozen BK190.out 0; have hfz99_1 := blk_frozen BK190.out 1; obtain ⟨Ao100, co100, eo100⟩ := Kd.R_slice HO_192001.out; subst eo100))
       refine bodyPost_ret (results_cell_row rfl _ _ gb190 57 #[.int .i64 x192000_1, .slice Ao100 x192001_1.length co100] (0, 0) _ rfl (by (with_reducible repeat (first | refine blk_drewN ?_ _ | refine blk_drew ?_ | refine blk_alloc ?_ _)); refine blk_put (cs := #[.int .i64 x192000_1, .slice none 0 0]) ?_ 1 _ rfl; (with_reducible repeat (first | refine blk_drewN ?_ _ | refine blk_drew ?_ | refine blk_alloc ?_ _)); refine blk_put (cs := #[.int .i64 0, .slice none 0 0]) ?_ 0 _ rfl; (with_reducible repeat (first | refine blk_drewN ?_ _ | refine blk_drew ?_ | refine blk_alloc ?_ _)); exact BK190.out) Try.underlying57 rfl (by kernel_rfl)) rfl ?_
       exact ⟨_, zq8, by (with_reducible repeat (first | apply Kd.R_alloc | apply Kd.R_drewN | apply Kd.R_drew)); exact Kd.R_mono (Kd.R_far (p := ⟨gb190, 1, none⟩) (Kd.R_far (p := ⟨gb190, 0, none⟩) (Kd.R_types HO_192001.out BK190.out (by decide)) (fun _ hk => hk.2) (.int .i64 x192000_1)) (fun _ hk => hk.2) (.slice Ao100 x192001_1.length co100)) (fun _ hk => trivial), zq115, zq116, zq118⟩

end Go.Proofs.Ytjcejdajbapliaa.QFnCut
