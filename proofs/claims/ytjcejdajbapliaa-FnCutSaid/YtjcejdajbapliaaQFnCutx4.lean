/- Written by wip/myprint.py of this repo (the kit's print, with additions of this session). -/
import Derived.Test.YtjcejdajbapliaaQFnCutx0
import Derived.Test.YtjcejdajbapliaaQFnCutx2
import Derived.Test.YtjcejdajbapliaaQFnCutx3
set_option maxRecDepth 100000
namespace Go.Proofs.Ytjcejdajbapliaa.QFnCut
open Go.RowKit Go.Proofs.YtjcejdajbapliaaW.PrintWords Go.Proofs.YtjcejdajbapliaaW.PrintLast Go.Proofs.YtjcejdajbapliaaW.PrintMore
attribute [local go_sem] max2_int min2_int max_two min_two max_three min_three max_four min_four   -- for this text's walks alone
set_option linter.unusedVariables false
set_option linter.unusedSimpArgs false

/-! ### spec_Take: function 41 -/
def spec_Take.l0 : Nat → Int → Bool → Int → Int → List (S59) → Int → List (S59) → Option (Int × (List (S59)) × Int × Int × Int × ByteArray × Bool)
 | 0, _, _, _, _, _, _, _ => none
 | k + 1, x1, x2, x10, x128000, x128001, x136000, x136001 => if x10 < (x128001.length : Int) then (if 0 ≤ x10 then (if ((rd_T59 x128001 x10).f0) = x1 then (if x2 = true then (some (x136000, x136001, (rd_T59 x128001 x10).f0, (rd_T59 x128001 x10).f1, (rd_T59 x128001 x10).f2, (rd_T59 x128001 x10).f3, true)) else (if x10 ≤ (x136001.length : Int) then (if 0 ≤ (wrap64 (x10 + 1)) then (if (wrap64 (x10 + 1)) ≤ (x136001.length : Int) then (some (x136000, (x136001.eraseIdx (x10 : Int).toNat), (rd_T59 x128001 x10).f0, (rd_T59 x128001 x10).f1, (rd_T59 x128001 x10).f2, (rd_T59 x128001 x10).f3, true)) else (none)) else (none)) else (none))) else (spec_Take.l0 k x1 x2 (wrap64 (x10 + 1)) x128000 x128001 x136000 x136001)) else (none)) else (some (x136000, x136001, 0, 0, 0, (⟨#[]⟩ : ByteArray), false))
def spec_Take.f (k : Nat) (a0_0 : Int) (l0_1 : List (S59)) (a1 : Int) (a2 : Bool) : Option (Int × (List (S59)) × Int × Int × Int × ByteArray × Bool) := (spec_NetOk.f k a0_0 l0_1).bind fun t130 => (if t130 = true then ((spec_l8Copy.f a0_0 l0_1).bind fun bt131 => (spec_Take.l0 k a1 a2 0 a0_0 l0_1 bt131.1 bt131.2)) else (some (0, ([] : List (S59)), 0, 0, 0, (⟨#[]⟩ : ByteArray), false)))
theorem spec_Take.mono_l : ∀ k, (∀ y0 y1 y2 y3 y4 y5 y6, LeO (spec_Take.l0 k y0 y1 y2 y3 y4 y5 y6) (spec_Take.l0 (k + 1) y0 y1 y2 y3 y4 y5 y6))
 | 0 => fun _ _ _ _ _ _ _ r h => by simp [spec_Take.l0] at h
 | k + 1 => by
  have ih0 := spec_Take.mono_l k
  ·
   intro y0 y1 y2 y3 y4 y5 y6
   unfold spec_Take.l0
   repeat' first
   | (with_reducible exact ih0 _ _ _ _ _ _ _)
   | (with_reducible exact spec_NetOk.mono _ _ _)
   | (with_reducible exact LeO.refl _)
   | (with_reducible exact LeO.none _)
   | (with_reducible refine LeO.ite ?_ ?_)
   | (with_reducible refine LeO.bind ?_ (fun _ => ?_))
   | exact ih0 _ _ _ _ _ _ _
   | exact spec_NetOk.mono _ _ _
   | exact LeO.none _
   | refine LeO.ite ?_ ?_
   | refine LeO.bind ?_ (fun _ => ?_)
theorem spec_Take.mono : ∀ a0 a1 a2 a3 k, LeO (spec_Take.f k a0 a1 a2 a3) (spec_Take.f (k + 1) a0 a1 a2 a3) := by
 intro a0 a1 a2 a3 k
 have ih0 := spec_Take.mono_l k
 unfold spec_Take.f
 repeat' first
   | (with_reducible exact ih0 _ _ _ _ _ _ _)
   | (with_reducible exact spec_NetOk.mono _ _ _)
   | (with_reducible exact LeO.refl _)
   | (with_reducible exact LeO.none _)
   | (with_reducible refine LeO.ite ?_ ?_)
   | (with_reducible refine LeO.bind ?_ (fun _ => ?_))
   | exact ih0 _ _ _ _ _ _ _
   | exact spec_NetOk.mono _ _ _
   | exact LeO.none _
   | refine LeO.ite ?_ ?_
   | refine LeO.bind ?_ (fun _ => ?_)
def spec_Take.T9 : Bool × List (List Nat × List Nat) := (true, [([], []), ([0], [0]), ([], []), ([1, 2], [1, 2]), ([], []), ([4], [4]), ([], []), ([6], [6]), ([5, 7], [5, 7]), ([3, 8], [3, 8]), ([0, 1, 2, 3, 4, 5, 6, 7, 8, 9], []), ([10, 9, 9, 0, 1, 2, 3, 4, 5, 6, 7, 8, 9], [9, 10])])
def spec_Take.B9 : List Nat := [0, 1, 0, 7, 0, 16, 0, 64, 240, 511, 1023, 2047]
theorem spec_Take.tab9 : rtab .any (opsOf Try.f41 9) = spec_Take.T9 := by kernel_rfl
theorem spec_Take.bits9 : waitsOk spec_Take.T9.2 spec_Take.B9 = true := by kernel_rfl
def spec_Take.T10 : Bool × List (List Nat × List Nat) := (true, [([], []), ([], []), ([1], [1]), ([], []), ([2, 3], [2, 3]), ([4], [4]), ([0, 0], [0]), ([5, 6, 0, 1, 2, 3, 4, 5, 6], [5]), ([7, 0, 1, 2, 3, 4, 5, 6, 7], [])])
def spec_Take.B10 : List Nat := [0, 0, 2, 0, 14, 30, 1, 127, 255]
theorem spec_Take.tab10 : rtab .any (opsOf Try.f41 10) = spec_Take.T10 := by kernel_rfl
theorem spec_Take.bits10 : waitsOk spec_Take.T10.2 spec_Take.B10 = true := by kernel_rfl
set_option maxHeartbeats 8000000 in
set_option maxRecDepth 100000 in
theorem spec_Take.calls (k : Nat) (a0_0 : Int) (A0_1 : Option Addr) (c0_1 : Nat) (l0_1 : List (S59)) (a1 : Int) (a2 : Bool) (r1 : Int) (r2 : List (S59)) (r3 : Int) (r4 : Int) (r5 : Int) (r6 : ByteArray) (r7 : Bool) (w : World) (hr0_1 : Kd.C k59 w A0_1 l0_1.length l0_1) (hc0_1 : l0_1.length ≤ c0_1) (h : spec_Take.f k a0_0 l0_1 a1 a2 = some (r1, r2, r3, r4, r5, r6, r7)) :
  Calls Try.prog 41 #[.agg #[.int .i64 a0_0, .slice A0_1 l0_1.length c0_1], .int .i64 a1, .bool a2] w fun e w' => ∃ v1_ : Value, e = .returned (.tuple #[.agg #[.int .i64 r1, v1_], .agg #[.int .i64 r3, .int .i64 r4, .int .i64 r5, .string r6], .bool r7]) ∧ Kd.R k59 59 w' w.heap.size (fun _ => True) v1_ r2 ∧ Below w.heap.size w w' := by
 have hu57 := Try.underlying57
 have hu59 := Try.underlying59
 have HR0_1 := Aside0.mk hr0_1
 have HC0_1 := Aside0.mk hc0_1
 clear hr0_1 hc0_1
 have HB := Aside0.mk (Below.refl w.heap.size w)
 have H : ((spec_NetOk.f k a0_0 l0_1).bind fun t130 => (if t130 = true then ((spec_l8Copy.f a0_0 l0_1).bind fun bt131 => (spec_Take.l0 k a1 a2 0 a0_0 l0_1 bt131.1 bt131.2)) else (some (0, ([] : List (S59)), 0, 0, 0, (⟨#[]⟩ : ByteArray), false)))) = some (r1, r2, r3, r4, r5, r6, r7) := h
 clear h
 replace H := Option.bind_eq_some_iff.mp H
 obtain ⟨t130, A40, H⟩ := H
 replace H : (if t130 = true then ((spec_l8Copy.f a0_0 l0_1).bind fun bt131 => (spec_Take.l0 k a1 a2 0 a0_0 l0_1 bt131.1 bt131.2)) else (some (0, ([] : List (S59)), 0, 0, 0, (⟨#[]⟩ : ByteArray), false))) = some (r1, r2, r3, r4, r5, r6, r7) := H
 have A4 := Aside0.mk A40
 clear A40
 by_cases c5 : t130 = true
 ·
  subst c5
  have H1 : ((spec_l8Copy.f a0_0 l0_1).bind fun bt131 => (spec_Take.l0 k a1 a2 0 a0_0 l0_1 bt131.1 bt131.2)) = some (r1, r2, r3, r4, r5, r6, r7) := by rw [if_pos rfl] at H; exact H
  clear H
  have H := H1
  clear H1
  replace H := Option.bind_eq_some_iff.mp H
  obtain ⟨⟨t131, t132⟩, A60, H⟩ := H
  replace H : (spec_Take.l0 k a1 a2 0 a0_0 l0_1 t131 t132) = some (r1, r2, r3, r4, r5, r6, r7) := H
  have A6 := Aside0.mk A60
  clear A60
  have H' := Aside0.mk H
  clear H
  go_enter Try.func41, Try.ntmps41
  go_wp2_with (first | ((with_reducible refine gate_dst (N := 3) rfl ?_); refine box_event ?hg (N := 3) ?hd (cs := #[.int .i64 a0_0, .slice A0_1 l0_1.length c0_1]) (t := 57) ?hr ?_; (case hd => rfl); (case hg => rfl); (case hr => exact zq5); intro gb127 hg w7 hbox hb; have n0_ := Aside0.mk (below_step zq6 hb); have n1_ := Aside0.mk (hbox); have n2_ := Aside0.mk ((zq166 : w.heap.size ≤ gb127)); have n3_ := Aside0.mk ((zq166 : w.heap.size ≤ gb127)); clear HB; have HB := n0_; have BK127 := n1_; have GW127 := n2_; have GE127 := n3_; clear n0_ n1_ n2_ n3_; clear hb hbox hg) | ((with_reducible refine gate_dst (N := 6) rfl ?_); refine box_event ?hg (N := 6) ?hd (cs := #[.int .i64 0, .slice none 0 0]) (t := 57) ?hr ?_; (case hd => rfl); (case hg => rfl); (case hr => exact zq5); intro gb128 hg w8 hbox hb; have n0_ := Aside0.mk (blk_below (g := gb127) (o := .cells #[.int .i64 a0_0, .slice A0_1 l0_1.length c0_1] 57 (0, 0)) zq87 hb); have n1_ := Aside0.mk (below_step zq88 hb); have n2_ := Aside0.mk (hbox); have n3_ := Aside0.mk ((zq191 : w.heap.size ≤ gb128)); have n4_ := Aside0.mk ((zq191 : w.heap.size ≤ gb128)); have n5_ := Aside0.mk ((zq192 : gb127 ≠ gb128)); have n6_ := Aside0.mk ((zq193 : gb128 ≠ gb127)); clear BK127; clear HB; have BK127 := n0_; have HB := n1_; have BK128 := n2_; have GW128 := n3_; have GE128 := n4_; have NB127_128 := n5_; have NB128_127 := n6_; clear n0_ n1_ n2_ n3_ n4_ n5_ n6_; clear hb hbox hg) | ((with_reducible refine gate_dst (N := 7) rfl ?_); refine box_event ?hg (N := 7) ?hd (cs := #[.int .i64 0, .int .i64 0, .int .i64 0, .string (⟨#[]⟩ : ByteArray)]) (t := 59) ?hr ?_; (case hd => rfl); (case hg => rfl); (case hr => exact zq5); intro gb129 hg w9 hbox hb; have n0_ := Aside0.mk (blk_below (g := gb127) (o := .cells #[.int .i64 a0_0, .slice A0_1 l0_1.length c0_1] 57 (0, 0)) zq87 hb); have n1_ := Aside0.mk (blk_below (g := gb128) (o := .cells #[.int .i64 0, .slice none 0 0] 57 (0, 0)) zq89 hb); have n2_ := Aside0.mk (below_step zq90 hb); have n3_ := Aside0.mk (hbox); have n4_ := Aside0.mk ((zq194 : w.heap.size ≤ gb129)); have n5_ := Aside0.mk ((zq194 : w.heap.size ≤ gb129)); have n6_ := Aside0.mk ((zq192 : gb127 ≠ gb129)); have n7_ := Aside0.mk ((zq193 : gb129 ≠ gb127)); have n8_ := Aside0.mk ((zq195 : gb128 ≠ gb129)); have n9_ := Aside0.mk ((zq196 : gb129 ≠ gb128)); clear BK127; clear BK128; clear HB; have BK127 := n0_; have BK128 := n1_; have HB := n2_; have BK129 := n3_; have GW129 := n4_; have GE129 := n5_; have NB127_129 := n6_; have NB129_127 := n7_; have NB128_129 := n8_; have NB129_128 := n9_; clear n0_ n1_ n2_ n3_ n4_ n5_ n6_ n7_ n8_ n9_; clear hb hbox hg; have hnb10 := NB127_128.out; have hnc10 := NB128_127.out; have hnb11 := NB127_129.out; have hnc11 := NB129_127.out; have hcz12_0 : w9.cell? ⟨gb127, 0, none⟩ = some (.int .i64 a0_0) := (blk_cell BK127.out 0).trans rfl; have hcz12_1 : w9.cell? ⟨gb127, 1, none⟩ = some (.slice A0_1 l0_1.length c0_1) := (blk_cell BK127.out 1).trans rfl; have hfz12_0 := blk_frozen BK127.out 0; have hfz12_1 := blk_frozen BK127.out 1) | ((with_reducible refine gate_callee (f := 83) rfl ?_); refine goesL_ (some 12) rfl rfl Try.func83 (by kernel_rfl) rfl #[.agg #[.int .i64 a0_0, .slice A0_1 l0_1.length c0_1]] rfl zq12 ?_; (with_reducible refine (spec_NetOk.calls k a0_0 _ _ l0_1 true _ ?side1 ?side2 A4.out).mono ?_); (case side1 => exact zq17); (case side2 => exact zq18); rintro e w13 ⟨rfl, hb⟩; refine ⟨_, rfl, ?_⟩; have n0_ := Aside0.mk (blk_below (g := gb127) (o := .cells #[.int .i64 a0_0, .slice A0_1 l0_1.length c0_1] 57 (0, 0)) zq87 hb); have n1_ := Aside0.mk (blk_below (g := gb128) (o := .cells #[.int .i64 0, .slice none 0 0] 57 (0, 0)) zq89 hb); have n2_ := Aside0.mk (blk_below (g := gb129) (o := .cells #[.int .i64 0, .int .i64 0, .int .i64 0, .string (⟨#[]⟩ : ByteArray)] 59 (0, 0)) zq91 hb); have n3_ := Aside0.mk (below_step zq92 hb); clear BK127; clear BK128; clear BK129; clear HB; have BK127 := n0_; have BK128 := n1_; have BK129 := n2_; have HB := n3_; clear n0_ n1_ n2_ n3_; (try clear hb); (try clear hb2); (try clear hk); (try clear hi); have hcz14_0 : w13.cell? ⟨gb127, 0, none⟩ = some (.int .i64 a0_0) := (blk_cell BK127.out 0).trans rfl; have hcz14_1 : w13.cell? ⟨gb127, 1, none⟩ = some (.slice A0_1 l0_1.length c0_1) := (blk_cell BK127.out 1).trans rfl; have hfz14_0 := blk_frozen BK127.out 0; have hfz14_1 := blk_frozen BK127.out 1) | ((with_reducible refine gate_callee (f := 84) rfl ?_); refine goesL_ (some 17) rfl rfl Try.func84 (by kernel_rfl) rfl #[.agg #[.int .i64 a0_0, .slice A0_1 l0_1.length c0_1]] rfl zq12 ?_; (with_reducible refine (spec_l8Copy.calls a0_0 _ _ l0_1 t131 t132 _ ?side1 ?side2 A6.out).mono ?_); (case side1 => exact zq17); (case side2 => exact zq18); rintro e w15 ⟨v133, rfl, ho0, hb⟩; refine ⟨_, rfl, ?_⟩; have n0_ := Aside0.mk (Kd.R_lower (Kd.R_newB ho0 (g := gb129) (o := .cells #[.int .i64 0, .int .i64 0, .int .i64 0, .string (⟨#[]⟩ : ByteArray)] 59 (0, 0)) zq91) (below_size zq92)); have n1_ := Aside0.mk (blk_below (g := gb127) (o := .cells #[.int .i64 a0_0, .slice A0_1 l0_1.length c0_1] 57 (0, 0)) zq87 hb); have n2_ := Aside0.mk (blk_below (g := gb128) (o := .cells #[.int .i64 0, .slice none 0 0] 57 (0, 0)) zq89 hb); have n3_ := Aside0.mk (blk_below (g := gb129) (o := .cells #[.int .i64 0, .int .i64 0, .int .i64 0, .string (⟨#[]⟩ : ByteArray)] 59 (0, 0)) zq91 hb); have n4_ := Aside0.mk (below_step zq92 hb); clear BK127; clear BK128; clear BK129; clear HB; have HO134 := n0_; have BK127 := n1_; have BK128 := n2_; have BK129 := n3_; have HB := n4_; clear n0_ n1_ n2_ n3_ n4_; (try clear hb); (try clear hb2); (try clear hk); (try clear hi); (try clear ho0)) | ((with_reducible refine gate_dst (N := 9) rfl ?_); refine box_event ?hg (N := 9) ?hd (cs := #[.int .i64 0, .slice none 0 0]) (t := 57) ?hr ?_; (case hd => rfl); (case hg => rfl); (case hr => exact zq5); intro gb135 hg w16 hbox hb; have n0_ := Aside0.mk (Kd.R_below (by (with_reducible repeat (first | apply Kd.R_alloc | apply Kd.R_drewN | apply Kd.R_drew)); exact HO134.out) hb); have n1_ := Aside0.mk (blk_below (g := gb127) (o := .cells #[.int .i64 a0_0, .slice A0_1 l0_1.length c0_1] 57 (0, 0)) zq87 hb); have n2_ := Aside0.mk (blk_below (g := gb128) (o := .cells #[.int .i64 0, .slice none 0 0] 57 (0, 0)) zq89 hb); have n3_ := Aside0.mk (blk_below (g := gb129) (o := .cells #[.int .i64 0, .int .i64 0, .int .i64 0, .string (⟨#[]⟩ : ByteArray)] 59 (0, 0)) zq91 hb); have n4_ := Aside0.mk (below_step zq92 hb); have n5_ := Aside0.mk (hbox); have n6_ := Aside0.mk ((by rw [hg]; exact (below_size zq92) : w.heap.size ≤ gb135)); have n7_ := Aside0.mk ((by rw [hg]; exact (below_size zq92) : w.heap.size ≤ gb135)); have n8_ := Aside0.mk ((zq192 : gb127 ≠ gb135)); have n9_ := Aside0.mk ((zq193 : gb135 ≠ gb127)); have n10_ := Aside0.mk ((zq195 : gb128 ≠ gb135)); have n11_ := Aside0.mk ((zq196 : gb135 ≠ gb128)); have n12_ := Aside0.mk ((by rw [hg]; exact Nat.ne_of_lt (blk_lt (g := gb129) (o := .cells #[.int .i64 0, .int .i64 0, .int .i64 0, .string (⟨#[]⟩ : ByteArray)] 59 (0, 0)) zq91) : gb129 ≠ gb135)); have n13_ := Aside0.mk ((by rw [hg]; exact Nat.ne_of_gt (blk_lt (g := gb129) (o := .cells #[.int .i64 0, .int .i64 0, .int .i64 0, .string (⟨#[]⟩ : ByteArray)] 59 (0, 0)) zq91) : gb135 ≠ gb129)); clear HO134; clear BK127; clear BK128; clear BK129; clear HB; have HO134 := n0_; have BK127 := n1_; have BK128 := n2_; have BK129 := n3_; have HB := n4_; have BK135 := n5_; have GW135 := n6_; have GE135 := n7_; have NB127_135 := n8_; have NB135_127 := n9_; have NB128_135 := n10_; have NB135_128 := n11_; have NB129_135 := n12_; have NB135_129 := n13_; clear n0_ n1_ n2_ n3_ n4_ n5_ n6_ n7_ n8_ n9_ n10_ n11_ n12_ n13_; clear hb hbox hg; have hnb17 := NB135_127.out; have hnc17 := NB127_135.out; have hnb18 := NB135_128.out; have hnc18 := NB128_135.out; have hnb19 := NB135_129.out; have hnc19 := NB129_135.out; have hcz20_0 : w16.cell? ⟨gb135, 0, none⟩ = some (.int .i64 0) := (blk_cell BK135.out 0).trans rfl; have hcz20_1 : w16.cell? ⟨gb135, 1, none⟩ = some (.slice none 0 0) := (blk_cell BK135.out 1).trans rfl; have hfz20_0 := blk_frozen BK135.out 0; have hfz20_1 := blk_frozen BK135.out 1; obtain ⟨Ao21, co21, eo21⟩ := Kd.R_slice HO134.out; subst eo21))
  go_loopg [10] k (fun kq v10 w' => ∃ (x10_1 : Int) (x129000_1 : Int) (x130000_1 : Int) (x130001_1 : Int) (x130002_1 : Int) (x130003_1 : ByteArray) (x136001_1 : List (S59)) (u136001 : Value), v10 = .int .i64 x10_1 ∧ Aside0 (spec_Take.l0 kq a1 a2 x10_1 a0_0 l0_1 t131 x136001_1 = some (r1, r2, r3, r4, r5, r6, r7)) ∧ Aside0 (kq ≤ k) ∧ Aside0 (Kd.R k59 59 w' w.heap.size (fun k_ => k_ ≠ gb129) u136001 x136001_1) ∧ Aside0 (w'.heap[gb127]? = some (.cells #[.int .i64 a0_0, (.slice A0_1 l0_1.length c0_1)] 57 (0, 0))) ∧ Aside0 (w'.heap[gb128]? = some (.cells #[.int .i64 x129000_1, (.slice none 0 0)] 57 (0, 0))) ∧ Aside0 (w'.heap[gb129]? = some (.cells #[.int .i64 x130000_1, .int .i64 x130001_1, .int .i64 x130002_1, .string x130003_1] 59 (0, 0))) ∧ Aside0 (w'.heap[gb135]? = some (.cells #[.int .i64 t131, u136001] 57 (0, 0))) ∧ Aside0 (Below w.heap.size w w'))
  case atStart => exact ⟨(0), (0), (0), (0), (0), ((⟨#[]⟩ : ByteArray)), (t132), (.slice Ao21 t132.length co21), zq1, H', ⟨Nat.le_refl _⟩, ⟨by (with_reducible repeat (first | apply Kd.R_alloc | apply Kd.R_drewN | apply Kd.R_drew)); exact Kd.R_mono (Kd.R_far (p := ⟨gb135, 1, none⟩) (Kd.R_far (p := ⟨gb135, 0, none⟩) (Kd.R_types HO134.out BK135.out (by decide)) (fun _ hk => hk.2) (.int .i64 t131)) (fun _ hk => hk.2) (.slice Ao21 t132.length co21)) (fun _ hk => hk.1.2)⟩, ⟨by (with_reducible repeat (first | refine blk_drewN ?_ _ | refine blk_drew ?_ | refine blk_alloc ?_ _)); refine blk_far ?_ NB127_135.out _; (with_reducible repeat (first | refine blk_drewN ?_ _ | refine blk_drew ?_ | refine blk_alloc ?_ _)); refine blk_far ?_ NB127_135.out _; (with_reducible repeat (first | refine blk_drewN ?_ _ | refine blk_drew ?_ | refine blk_alloc ?_ _)); exact BK127.out⟩, ⟨by (with_reducible repeat (first | refine blk_drewN ?_ _ | refine blk_drew ?_ | refine blk_alloc ?_ _)); refine blk_far ?_ NB128_135.out _; (with_reducible repeat (first | refine blk_drewN ?_ _ | refine blk_drew ?_ | refine blk_alloc ?_ _)); refine blk_far ?_ NB128_135.out _; (with_reducible repeat (first | refine blk_drewN ?_ _ | refine blk_drew ?_ | refine blk_alloc ?_ _)); exact BK128.out⟩, ⟨by (with_reducible repeat (first | refine blk_drewN ?_ _ | refine blk_drew ?_ | refine blk_alloc ?_ _)); refine blk_far ?_ NB129_135.out _; (with_reducible repeat (first | refine blk_drewN ?_ _ | refine blk_drew ?_ | refine blk_alloc ?_ _)); refine blk_far ?_ NB129_135.out _; (with_reducible repeat (first | refine blk_drewN ?_ _ | refine blk_drew ?_ | refine blk_alloc ?_ _)); exact BK129.out⟩, ⟨by (with_reducible repeat (first | refine blk_drewN ?_ _ | refine blk_drew ?_ | refine blk_alloc ?_ _)); refine blk_put (cs := #[.int .i64 t131, .slice none 0 0]) ?_ 1 _ rfl; (with_reducible repeat (first | refine blk_drewN ?_ _ | refine blk_drew ?_ | refine blk_alloc ?_ _)); refine blk_put (cs := #[.int .i64 0, .slice none 0 0]) ?_ 0 _ rfl; (with_reducible repeat (first | refine blk_drewN ?_ _ | refine blk_drew ?_ | refine blk_alloc ?_ _)); exact BK135.out⟩, ⟨zq93⟩⟩
  case round =>
   clear H'
   try clear c1
   try clear p2
   try clear c4
   try clear c5
   try clear c8
   try clear c10
   try clear c11
   try clear c17
   try clear c18
   try clear c19
   try clear hcz12_0
   try clear hcz12_1
   try clear hcz14_0
   try clear hcz14_1
   try clear hcz20_0
   try clear hcz20_1
   try clear hfz12_0
   try clear hfz12_1
   try clear hfz14_0
   try clear hfz14_1
   try clear hfz20_0
   try clear hfz20_1
   obtain ⟨x10_1, x129000_1, x130000_1, x130001_1, x130002_1, x130003_1, x136001_1, u136001, rfl, HA, HK1, HO_136001, BK127, BK128, BK129, BK135, HB⟩ := hrel
   cases gk with
   | zero => exact absurd HA.out (by simp [spec_Take.l0])
   | succ k1 =>
    have H := HA.out
    clear HA
    simp only [spec_Take.l0] at H
    by_cases c22 : x10_1 < (l0_1.length : Int)
    ·
     rw [if_pos c22] at H
     have c22b0 : decide (x10_1 < (l0_1.length : Int)) = true := decide_eq_true c22
     clear c22
     by_cases c23 : 0 ≤ x10_1
     ·
      rw [if_pos c23] at H
      have c23b0 : decide (0 ≤ x10_1) = true := decide_eq_true c23
      clear c23
      by_cases c24 : ((rd_T59 l0_1 x10_1).f0) = a1
      ·
       rw [if_pos c24] at H
       have c24b0 : (((rd_T59 l0_1 x10_1).f0) == a1) = true := beq_iff_eq.mpr c24
       have c24b1 : (((rd_T59 l0_1 x10_1).f0) != a1) = false := bne_eq_false_iff_eq.mpr c24
       clear c24
       by_cases c25 : a2 = true
       ·
        subst c25
        have H1 : (some (t131, x136001_1, (rd_T59 l0_1 x10_1).f0, (rd_T59 l0_1 x10_1).f1, (rd_T59 l0_1 x10_1).f2, (rd_T59 l0_1 x10_1).f3, true)) = some (r1, r2, r3, r4, r5, r6, r7) := by rw [if_pos rfl] at H; exact H
        clear H
        have H := H1
        clear H1
        simp only [Option.some.injEq, Prod.mk.injEq] at H
        obtain ⟨rfl, rfl, rfl, rfl, rfl, rfl, rfl⟩ := H
        have hnb26 := NB127_128.out
        have hnc26 := NB128_127.out
        have hnb27 := NB127_129.out
        have hnc27 := NB129_127.out
        have hnb28 := NB127_135.out
        have hnc28 := NB135_127.out
        have hcz29_0 : wr.cell? ⟨gb127, 0, none⟩ = some (.int .i64 a0_0) := (blk_cell BK127.out 0).trans rfl
        have hcz29_1 : wr.cell? ⟨gb127, 1, none⟩ = some (.slice A0_1 l0_1.length c0_1) := (blk_cell BK127.out 1).trans rfl
        have hfz29_0 := blk_frozen BK127.out 0
        have hfz29_1 := blk_frozen BK127.out 1
        have p136 : 0 ≤ (x10_1 : Int) := of_decide_eq_true zq3
        have q136 : x10_1 < (l0_1.length : Int) := of_decide_eq_true zq3
        obtain ⟨ad136, e136, hx136_0, hx136_1, hx136_2, hx136_3⟩ := at_T59 HR0_1.out x10_1 p136 q136
        cases e136
        replace hx136_0 := (HB.out.cell (World.block_lt_of_cell? w _ hx136_0)).trans hx136_0
        replace hx136_1 := (HB.out.cell (World.block_lt_of_cell? w _ hx136_1)).trans hx136_1
        replace hx136_2 := (HB.out.cell (World.block_lt_of_cell? w _ hx136_2)).trans hx136_2
        replace hx136_3 := (HB.out.cell (World.block_lt_of_cell? w _ hx136_3)).trans hx136_3
        replace p136 := eq_true p136
        replace q136 := eq_true q136
        try go_wp2
        have n0_ := Aside0.mk (Kd.R_drew HO_136001.out)
        have n1_ := Aside0.mk (blk_drew BK127.out)
        have n2_ := Aside0.mk (blk_drew BK128.out)
        have n3_ := Aside0.mk (blk_drew BK129.out)
        have n4_ := Aside0.mk (blk_drew BK135.out)
        have n5_ := Aside0.mk (below_drew1 HB.out)
        clear HO_136001
        clear BK127
        clear BK128
        clear BK129
        clear BK135
        clear HB
        have HO_136001 := n0_
        have BK127 := n1_
        have BK128 := n2_
        have BK129 := n3_
        have BK135 := n4_
        have HB := n5_
        clear n0_ n1_ n2_ n3_ n4_ n5_
        have p137 : 0 ≤ (x10_1 : Int) := of_decide_eq_true zq3
        have q137 : x10_1 < (l0_1.length : Int) := of_decide_eq_true zq3
        obtain ⟨ad137, e137, hx137_0, hx137_1, hx137_2, hx137_3⟩ := at_T59 HR0_1.out x10_1 p137 q137
        have hw137_3 := hx137_3
        have hw137_2 := hx137_2
        have hw137_1 := hx137_1
        have hw137_0 := hx137_0
        obtain rfl : ad136 = ad137 := (by injection e137)
        replace hx137_0 := (HB.out.cell (World.block_lt_of_cell? w _ hx137_0)).trans hx137_0
        replace hx137_1 := (HB.out.cell (World.block_lt_of_cell? w _ hx137_1)).trans hx137_1
        replace hx137_2 := (HB.out.cell (World.block_lt_of_cell? w _ hx137_2)).trans hx137_2
        replace hx137_3 := (HB.out.cell (World.block_lt_of_cell? w _ hx137_3)).trans hx137_3
        replace p137 := eq_true p137
        replace q137 := eq_true q137
        obtain ⟨Ao32, co32, eo32⟩ := Kd.R_slice HO_136001.out
        (first | subst eo32 | (injection eo32 with f1_ f2_ f3_; have f4_ := f1_.symm; have f5_ := f3_.symm; clear f1_ f2_ f3_; subst f4_; subst f5_))
        refine start_ (n := 9) (S := fun w' => w'.cell? ⟨gb135, 0, none⟩ = some (.int .i64 t131) ∧ w'.cell? ⟨gb135, 1, none⟩ = some (.slice Ao32 x136001_1.length co32) ∧ w'.cell? ⟨gb127, 0, none⟩ = some (.int .i64 a0_0) ∧ w'.cell? ⟨gb127, 1, none⟩ = some (.slice (some ad136) l0_1.length c0_1) ∧ w'.cell? (ad136.add ((x10_1).toNat * 4)) = some (.int .i64 ((rd_T59 l0_1 x10_1).f0)) ∧ w'.cell? ⟨(ad136.add ((x10_1).toNat * 4)).block, (ad136.add ((x10_1).toNat * 4)).off + 1, none⟩ = some (.int .i64 ((rd_T59 l0_1 x10_1).f1)) ∧ w'.cell? ⟨(ad136.add ((x10_1).toNat * 4)).block, (ad136.add ((x10_1).toNat * 4)).off + 2, none⟩ = some (.int .i64 ((rd_T59 l0_1 x10_1).f2)) ∧ w'.cell? ⟨(ad136.add ((x10_1).toNat * 4)).block, (ad136.add ((x10_1).toNat * 4)).off + 3, none⟩ = some (.string ((rd_T59 l0_1 x10_1).f3))) (ds := []) #[ff,ff,ff,ff,ff,ff,ff,ff,ff] (by kernel_rfl) rfl rfl ⟨(blk_cell BK135.out 0).trans rfl, (blk_cell BK135.out 1).trans rfl, (blk_cell BK127.out 0).trans rfl, (blk_cell BK127.out 1).trans rfl, ((HB.out.cell (World.block_lt_of_cell? w _ hw137_0)).trans hw137_0), ((HB.out.cell (World.block_lt_of_cell? w _ hw137_1)).trans hw137_1), ((HB.out.cell (World.block_lt_of_cell? w _ hw137_2)).trans hw137_2), ((HB.out.cell (World.block_lt_of_cell? w _ hw137_3)).trans hw137_3)⟩ (fun hHeld => ?_); refine with_tabW spec_Take.tab10 spec_Take.bits10 (fun HT_ HW_ => ?_)
        generalize wr.drew = w30 at HO_136001 BK127 BK128 BK129 BK135 HB hx137_0 hx137_1 hx137_2 hx137_3 hHeld ⊢
        refine pure_ (i := 1) (N := some 47) (v := ?_) (a' := ?_) #[ff,tt,ff,ff,ff,ff,ff,ff,ff] rfl rfl (any_of HT_.out (by kernel_rfl)) (fun _ _ _ h => h) (Or.inl ⟨by rfl, ?_⟩) ?_ ?_
        rotate_left
        exact zq238
        rotate_left
        exact zq239
        refine pure_ (i := 3) (N := some 49) (v := ?_) (a' := ?_) #[ff,tt,ff,tt,ff,ff,ff,ff,ff] rfl rfl (any_of HT_.out (by kernel_rfl)) (fun _ _ _ h => h) (Or.inl ⟨by rfl, ?_⟩) ?_ ?_
        rotate_left
        exact zq238
        rotate_left
        exact zq239
        refine take_ (i := 0) (N := some 46) (v := ?_) (a' := ?_) #[tt,tt,ff,tt,ff,ff,ff,ff,ff] rfl rfl (take_ofW HT_.out HW_.out (by kernel_rfl)) (fun _ _ _ h => h) (Or.inl ⟨by rfl, ?_⟩) hHeld ?_ ?_
        rotate_left
        exact zq245
        rotate_left
        exact zq239
        refine take_ (i := 2) (N := some 48) (v := ?_) (a' := ?_) #[tt,tt,tt,tt,ff,ff,ff,ff,ff] rfl rfl (take_ofW HT_.out HW_.out (by kernel_rfl)) (fun _ _ _ h => h) (Or.inl ⟨by rfl, ?_⟩) hHeld ?_ ?_
        rotate_left
        exact zq245
        rotate_left
        exact zq239
        refine pure_ (i := 4) (N := some 50) (v := ?_) (a' := ?_) #[tt,tt,tt,tt,tt,ff,ff,ff,ff] rfl rfl (any_of HT_.out (by kernel_rfl)) (fun _ _ _ h => h) (Or.inl ⟨by rfl, ?_⟩) ?_ ?_
        rotate_left
        exact zq238
        rotate_left
        exact zq239
        refine take_ (i := 5) (N := some 51) (v := ?_) (a' := ?_) #[tt,tt,tt,tt,tt,tt,ff,ff,ff] rfl rfl (take_ofW HT_.out HW_.out (by kernel_rfl)) (fun _ _ _ h => h) (Or.inl ⟨by rfl, ?_⟩) hHeld ?_ ?_
        rotate_left
        exact zq245
        rotate_left
        exact zq239
        refine one_ (i := 6) (N := none) #[tt,tt,tt,tt,tt,tt,tt,ff,ff] rfl rfl (one_of HT_.out (by kernel_rfl)) (by decide) (fun K hK => ?_)
        have hs31 : w30.cell? ⟨gb128, 0, none⟩ = some (.int .i64 x129000_1) := (blk_cell BK128.out 0).trans rfl
        have hfs31 := blk_frozen BK128.out 0
        have hns31_0 := NB127_128.out
        have hns31_2 := NB129_128.out
        have hns31_3 := NB135_128.out
        have hms31_0 := NB128_127.out
        have hms31_2 := NB128_129.out
        have hms31_3 := NB128_135.out
        have hs33 : w30.cell? ⟨gb128, 1, none⟩ = some (.slice none 0 0) := (blk_cell BK128.out 1).trans rfl
        have hfs33 := blk_frozen BK128.out 1
        have hns33_0 := NB127_128.out
        have hns33_2 := NB129_128.out
        have hns33_3 := NB135_128.out
        have hms33_0 := NB128_127.out
        have hms33_2 := NB128_129.out
        have hms33_3 := NB128_135.out
        refine skip_ (w1 := ?_) (by rfl) rfl ?_ ?_
        rotate_left
        ·
         go_simp
         rfl
        refine hK.out _ _ ⟨((cell_far (p := ⟨gb128, _, none⟩) NB135_128.out _).trans (((cell_far (p := ⟨gb128, _, none⟩) NB135_128.out _).trans (hHeld.1)))), ((cell_far (p := ⟨gb128, _, none⟩) NB135_128.out _).trans (((cell_far (p := ⟨gb128, _, none⟩) NB135_128.out _).trans (hHeld.2.1)))), ((cell_far (p := ⟨gb128, _, none⟩) NB127_128.out _).trans (((cell_far (p := ⟨gb128, _, none⟩) NB127_128.out _).trans (hHeld.2.2.1)))), ((cell_far (p := ⟨gb128, _, none⟩) NB127_128.out _).trans (((cell_far (p := ⟨gb128, _, none⟩) NB127_128.out _).trans (hHeld.2.2.2.1)))), ((cell_far (p := ⟨gb128, _, none⟩) zq197 _).trans (((cell_far (p := ⟨gb128, _, none⟩) zq197 _).trans (hHeld.2.2.2.2.1)))), ((cell_far (p := ⟨gb128, _, none⟩) zq198 _).trans (((cell_far (p := ⟨gb128, _, none⟩) zq198 _).trans (hHeld.2.2.2.2.2.1)))), ((cell_far (p := ⟨gb128, _, none⟩) zq199 _).trans (((cell_far (p := ⟨gb128, _, none⟩) zq199 _).trans (hHeld.2.2.2.2.2.2.1)))), ((cell_far (p := ⟨gb128, _, none⟩) zq200 _).trans (((cell_far (p := ⟨gb128, _, none⟩) zq200 _).trans (hHeld.2.2.2.2.2.2.2))))⟩ (fun hHeld => ?_)
        clear hK K
        refine one_ (i := 7) (N := none) #[tt,tt,tt,tt,tt,tt,tt,tt,ff] rfl rfl (one_of HT_.out (by kernel_rfl)) (by decide) (fun K hK => ?_)
        have hs34 : w30.cell? ⟨gb129, 0, none⟩ = some (.int .i64 x130000_1) := (blk_cell BK129.out 0).trans rfl
        have hfs34 := blk_frozen BK129.out 0
        have hns34_0 := NB127_129.out
        have hns34_1 := NB128_129.out
        have hns34_3 := NB135_129.out
        have hms34_0 := NB129_127.out
        have hms34_1 := NB129_128.out
        have hms34_3 := NB129_135.out
        have hs35 : w30.cell? ⟨gb129, 1, none⟩ = some (.int .i64 x130001_1) := (blk_cell BK129.out 1).trans rfl
        have hfs35 := blk_frozen BK129.out 1
        have hns35_0 := NB127_129.out
        have hns35_1 := NB128_129.out
        have hns35_3 := NB135_129.out
        have hms35_0 := NB129_127.out
        have hms35_1 := NB129_128.out
        have hms35_3 := NB129_135.out
        have hs36 : w30.cell? ⟨gb129, 2, none⟩ = some (.int .i64 x130002_1) := (blk_cell BK129.out 2).trans rfl
        have hfs36 := blk_frozen BK129.out 2
        have hns36_0 := NB127_129.out
        have hns36_1 := NB128_129.out
        have hns36_3 := NB135_129.out
        have hms36_0 := NB129_127.out
        have hms36_1 := NB129_128.out
        have hms36_3 := NB129_135.out
        have hs37 : w30.cell? ⟨gb129, 3, none⟩ = some (.string x130003_1) := (blk_cell BK129.out 3).trans rfl
        have hfs37 := blk_frozen BK129.out 3
        have hns37_0 := NB127_129.out
        have hns37_1 := NB128_129.out
        have hns37_3 := NB135_129.out
        have hms37_0 := NB129_127.out
        have hms37_1 := NB129_128.out
        have hms37_3 := NB129_135.out
        refine skip_ (w1 := ?_) (by rfl) rfl ?_ ?_
        rotate_left
        ·
         go_simp
         rfl
        refine hK.out _ _ ⟨((cell_far (p := ⟨gb129, _, none⟩) NB135_129.out _).trans (((cell_far (p := ⟨gb129, _, none⟩) NB135_129.out _).trans (((cell_far (p := ⟨gb129, _, none⟩) NB135_129.out _).trans (((cell_far (p := ⟨gb129, _, none⟩) NB135_129.out _).trans (hHeld.1)))))))), ((cell_far (p := ⟨gb129, _, none⟩) NB135_129.out _).trans (((cell_far (p := ⟨gb129, _, none⟩) NB135_129.out _).trans (((cell_far (p := ⟨gb129, _, none⟩) NB135_129.out _).trans (((cell_far (p := ⟨gb129, _, none⟩) NB135_129.out _).trans (hHeld.2.1)))))))), ((cell_far (p := ⟨gb129, _, none⟩) NB127_129.out _).trans (((cell_far (p := ⟨gb129, _, none⟩) NB127_129.out _).trans (((cell_far (p := ⟨gb129, _, none⟩) NB127_129.out _).trans (((cell_far (p := ⟨gb129, _, none⟩) NB127_129.out _).trans (hHeld.2.2.1)))))))), ((cell_far (p := ⟨gb129, _, none⟩) NB127_129.out _).trans (((cell_far (p := ⟨gb129, _, none⟩) NB127_129.out _).trans (((cell_far (p := ⟨gb129, _, none⟩) NB127_129.out _).trans (((cell_far (p := ⟨gb129, _, none⟩) NB127_129.out _).trans (hHeld.2.2.2.1)))))))), ((cell_far (p := ⟨gb129, _, none⟩) zq201 _).trans (((cell_far (p := ⟨gb129, _, none⟩) zq201 _).trans (((cell_far (p := ⟨gb129, _, none⟩) zq201 _).trans (((cell_far (p := ⟨gb129, _, none⟩) zq201 _).trans (hHeld.2.2.2.2.1)))))))), ((cell_far (p := ⟨gb129, _, none⟩) zq202 _).trans (((cell_far (p := ⟨gb129, _, none⟩) zq202 _).trans (((cell_far (p := ⟨gb129, _, none⟩) zq202 _).trans (((cell_far (p := ⟨gb129, _, none⟩) zq202 _).trans (hHeld.2.2.2.2.2.1)))))))), ((cell_far (p := ⟨gb129, _, none⟩) zq203 _).trans (((cell_far (p := ⟨gb129, _, none⟩) zq203 _).trans (((cell_far (p := ⟨gb129, _, none⟩) zq203 _).trans (((cell_far (p := ⟨gb129, _, none⟩) zq203 _).trans (hHeld.2.2.2.2.2.2.1)))))))), ((cell_far (p := ⟨gb129, _, none⟩) zq204 _).trans (((cell_far (p := ⟨gb129, _, none⟩) zq204 _).trans (((cell_far (p := ⟨gb129, _, none⟩) zq204 _).trans (((cell_far (p := ⟨gb129, _, none⟩) zq204 _).trans (hHeld.2.2.2.2.2.2.2))))))))⟩ (fun hHeld => ?_)
        clear hK K
        refine pure_ (i := 8) (N := some 8) (v := ?_) (a' := ?_) #[tt,tt,tt,tt,tt,tt,tt,tt,tt] rfl rfl (any_of HT_.out (by kernel_rfl)) (fun _ _ _ h => h) (Or.inl ⟨by rfl, ?_⟩) ?_ ?_
        rotate_left
        exact zq238
        rotate_left
        exact zq239
        refine done_ (done_of HT_.out (by kernel_rfl)) ?_
        try go_wp2
        refine bodyPost_ret (results_list (rs := [.cell 6 57, .cell 7 59, .tmp 8]) rfl (by simp) (.cell gb128 57 #[.int .i64 t131, .slice Ao32 x136001_1.length co32] (0, 0) _ rfl zq98 Try.underlying57 rfl (by kernel_rfl) (.cell gb129 59 #[.int .i64 ((rd_T59 l0_1 x10_1).f0), .int .i64 ((rd_T59 l0_1 x10_1).f1), .int .i64 ((rd_T59 l0_1 x10_1).f2), .string ((rd_T59 l0_1 x10_1).f3)] (0, 0) _ rfl zq99 Try.underlying59 rfl (by kernel_rfl) (.tmp .nil)))) rfl ?_
        exact ⟨_, zq8, by (with_reducible repeat (first | apply Kd.R_alloc | apply Kd.R_drewN | apply Kd.R_drew)); exact Kd.R_mono (Kd.R_far (p := ⟨gb129, 3, none⟩) (Kd.R_far (p := ⟨gb129, 2, none⟩) (Kd.R_far (p := ⟨gb129, 1, none⟩) (Kd.R_far (p := ⟨gb129, 0, none⟩) (Kd.R_far (p := ⟨gb128, 1, none⟩) (Kd.R_far (p := ⟨gb128, 0, none⟩) (Kd.R_mono (Kd.R_types HO_136001.out BK128.out (by decide)) (fun k_ hk => (⟨hk, hk.1⟩ : _ ∧ k_ ≠ gb129))) (fun _ hk => hk.1.2) (.int .i64 t131)) (fun _ hk => hk.1.2) (.slice Ao32 x136001_1.length co32)) (fun _ hk => hk.2) (.int .i64 ((rd_T59 l0_1 x10_1).f0))) (fun _ hk => hk.2) (.int .i64 ((rd_T59 l0_1 x10_1).f1))) (fun _ hk => hk.2) (.int .i64 ((rd_T59 l0_1 x10_1).f2))) (fun _ hk => hk.2) (.string ((rd_T59 l0_1 x10_1).f3))) (fun _ hk => trivial), zq93⟩
       ·
        replace c25 := Bool.eq_false_iff.mpr c25
        subst c25
        have H1 : (if x10_1 ≤ (x136001_1.length : Int) then (if 0 ≤ (wrap64 (x10_1 + 1)) then (if (wrap64 (x10_1 + 1)) ≤ (x136001_1.length : Int) then (some (t131, (x136001_1.eraseIdx (x10_1 : Int).toNat), (rd_T59 l0_1 x10_1).f0, (rd_T59 l0_1 x10_1).f1, (rd_T59 l0_1 x10_1).f2, (rd_T59 l0_1 x10_1).f3, true)) else (none)) else (none)) else (none)) = some (r1, r2, r3, r4, r5, r6, r7) := by rw [if_neg (show ¬ (false = true) by decide)] at H; exact H
        clear H
        have H := H1
        clear H1
        have c38b0 := eq_true (of_decide_eq_true zq3 : 0 ≤ x10_1)
        by_cases c39 : x10_1 ≤ (x136001_1.length : Int)
        ·
         rw [if_pos c39] at H
         have c39b0 := eq_true c39
         have c39b1 : decide (x10_1 ≤ (x136001_1.length : Int)) = true := decide_eq_true c39
         clear c39
         obtain ⟨y138, hy138⟩ : ∃ y_ : List (S59), y_ = (x136001_1.take (x10_1 : Int).toNat) := ⟨_, rfl⟩
         replace H : (if 0 ≤ (wrap64 (x10_1 + 1)) then (if (wrap64 (x10_1 + 1)) ≤ (x136001_1.length : Int) then (some (t131, (x136001_1.eraseIdx (x10_1 : Int).toNat), (rd_T59 l0_1 x10_1).f0, (rd_T59 l0_1 x10_1).f1, (rd_T59 l0_1 x10_1).f2, (rd_T59 l0_1 x10_1).f3, true)) else (none)) else (none)) = some (r1, r2, r3, r4, r5, r6, r7) := by first | (rw [hy138]; with_reducible exact H) | (have H2_ := (Option.bind_some _ _).symm.trans H; rw [hy138]; with_reducible exact H2_) | (have H2_ := (Option.bind_some _ _).symm.trans H; with_reducible exact H2_) | with_reducible exact H | (rw [hy138]; exact H) | exact H
         have Ny138 := Aside0.mk hy138
         clear hy138
         obtain ⟨ji40, hji40⟩ : ∃ j_ : Int, (wrap64 (x10_1 + 1)) = j_ := ⟨_, rfl⟩
         replace H : (if 0 ≤ (ji40) then (if (ji40) ≤ (x136001_1.length : Int) then (some (t131, (x136001_1.eraseIdx (x10_1 : Int).toNat), (rd_T59 l0_1 x10_1).f0, (rd_T59 l0_1 x10_1).f1, (rd_T59 l0_1 x10_1).f2, (rd_T59 l0_1 x10_1).f3, true)) else (none)) else (none)) = some (r1, r2, r3, r4, r5, r6, r7) := by first | (rw [hji40] at H; exact H) | (simp only [hji40] at H ⊢; exact H)
         have hji40w : (IntKind.i64.wrap (x10_1 + 1)) = ji40 := (i64_w _).trans hji40
         by_cases c41 : 0 ≤ (ji40)
         ·
          rw [if_pos c41] at H
          have c41b0 := eq_true c41
          have c41b1 : decide (0 ≤ (ji40)) = true := decide_eq_true c41
          clear c41
          by_cases c42 : (ji40) ≤ (x136001_1.length : Int)
          ·
           rw [if_pos c42] at H
           have c42b0 := eq_true c42
           have c42b1 : decide ((ji40) ≤ (x136001_1.length : Int)) = true := decide_eq_true c42
           clear c42
           obtain ⟨y142, hy142⟩ : ∃ y_ : List (S59), y_ = (x136001_1.drop ((ji40) : Int).toNat) := ⟨_, rfl⟩
           replace H : (some (t131, (x136001_1.eraseIdx (x10_1 : Int).toNat), (rd_T59 l0_1 x10_1).f0, (rd_T59 l0_1 x10_1).f1, (rd_T59 l0_1 x10_1).f2, (rd_T59 l0_1 x10_1).f3, true)) = some (r1, r2, r3, r4, r5, r6, r7) := by first | (rw [hy142]; with_reducible exact H) | (have H2_ := (Option.bind_some _ _).symm.trans H; rw [hy142]; with_reducible exact H2_) | (have H2_ := (Option.bind_some _ _).symm.trans H; with_reducible exact H2_) | with_reducible exact H | (rw [hy142]; exact H) | exact H
           have Ny142 := Aside0.mk hy142
           clear hy142
           obtain ⟨y146, hy146⟩ : ∃ y_ : List (S59), y_ = (x136001_1.eraseIdx (x10_1 : Int).toNat) := ⟨_, rfl⟩
           replace H : (some (t131, y146, (rd_T59 l0_1 x10_1).f0, (rd_T59 l0_1 x10_1).f1, (rd_T59 l0_1 x10_1).f2, (rd_T59 l0_1 x10_1).f3, true)) = some (r1, r2, r3, r4, r5, r6, r7) := by first | (rw [hy146]; with_reducible exact H) | (have H2_ := (Option.bind_some _ _).symm.trans H; rw [hy146]; with_reducible exact H2_) | (have H2_ := (Option.bind_some _ _).symm.trans H; with_reducible exact H2_) | with_reducible exact H | (rw [hy146]; exact H) | exact H
           have Ny146 := Aside0.mk hy146
           clear hy146
           simp only [Option.some.injEq, Prod.mk.injEq] at H
           obtain ⟨rfl, rfl, rfl, rfl, rfl, rfl, rfl⟩ := H
           have hnb43 := NB127_128.out
           have hnc43 := NB128_127.out
           have hnb44 := NB127_129.out
           have hnc44 := NB129_127.out
           have hnb45 := NB127_135.out
           have hnc45 := NB135_127.out
           have hcz46_0 : wr.cell? ⟨gb127, 0, none⟩ = some (.int .i64 a0_0) := (blk_cell BK127.out 0).trans rfl
           have hcz46_1 : wr.cell? ⟨gb127, 1, none⟩ = some (.slice A0_1 l0_1.length c0_1) := (blk_cell BK127.out 1).trans rfl
           have hfz46_0 := blk_frozen BK127.out 0
           have hfz46_1 := blk_frozen BK127.out 1
           have p136 : 0 ≤ (x10_1 : Int) := of_decide_eq_true zq3
           have q136 : x10_1 < (l0_1.length : Int) := of_decide_eq_true zq3
           obtain ⟨ad136, e136, hx136_0, hx136_1, hx136_2, hx136_3⟩ := at_T59 HR0_1.out x10_1 p136 q136
           cases e136
           replace hx136_0 := (HB.out.cell (World.block_lt_of_cell? w _ hx136_0)).trans hx136_0
           replace hx136_1 := (HB.out.cell (World.block_lt_of_cell? w _ hx136_1)).trans hx136_1
           replace hx136_2 := (HB.out.cell (World.block_lt_of_cell? w _ hx136_2)).trans hx136_2
           replace hx136_3 := (HB.out.cell (World.block_lt_of_cell? w _ hx136_3)).trans hx136_3
           replace p136 := eq_true p136
           replace q136 := eq_true q136
           try go_wp2
           have n0_ := Aside0.mk (Kd.R_drew HO_136001.out)
           have n1_ := Aside0.mk (blk_drew BK127.out)
           have n2_ := Aside0.mk (blk_drew BK128.out)
           have n3_ := Aside0.mk (blk_drew BK129.out)
           have n4_ := Aside0.mk (blk_drew BK135.out)
           have n5_ := Aside0.mk (below_drew1 HB.out)
           clear HO_136001
           clear BK127
           clear BK128
           clear BK129
           clear BK135
           clear HB
           have HO_136001 := n0_
           have BK127 := n1_
           have BK128 := n2_
           have BK129 := n3_
           have BK135 := n4_
           have HB := n5_
           clear n0_ n1_ n2_ n3_ n4_ n5_
           obtain ⟨Ao49, co49, eo49⟩ := Kd.R_slice HO_136001.out
           (first | subst eo49 | (injection eo49 with f1_ f2_ f3_; have f4_ := f1_.symm; have f5_ := f3_.symm; clear f1_ f2_ f3_; subst f4_; subst f5_))
           have q48 : (x10_1 : Int) ≤ ((x136001_1.length : Int) : Int) := of_decide_eq_true zq3
           obtain ⟨i048, hi048, _, hsz48, _⟩ := info_parts info59
           have hroom48 : x136001_1.length ≤ co49 := (Kd.R_reads' HO_136001.out).2.1
           have hC48 : Kd.C k59 _ Ao49 x136001_1.length x136001_1 := (Kd.R_reads' HO_136001.out).2.2
           have hcut48 := cut_to (P := Try.prog) 55 59 .i64 Try.underlying55 hi048 Ao49 x136001_1.length co49 x10_1 (of_decide_eq_true zq3) q48 hroom48
           have hr48 := Kd.C_take (m := (x10_1 : Int).toNat) hC48 (by omega)
           have hy48 : y138.length = (x10_1 : Int).toNat := (by rw [Ny138.out, List.length_take]; omega)
           rw [← Ny138.out] at hr48
           rw [← hy48] at hcut48
           have HR141 := Aside0.mk hr48
           have HC141 := Aside0.mk (show y138.length ≤ co49 from by omega)
           clear hr48 hC48 hroom48 hi048 hsz48
           have KY48 := Aside0.mk hy48
           clear hy48
           have KL48 := Aside0.mk (show (x10_1 : Int).toNat ≤ x136001_1.length from by omega)
           replace q48 := eq_true q48
           have q50 : ((ji40) : Int) ≤ ((x136001_1.length : Int) : Int) := of_decide_eq_true zq3
           obtain ⟨i050, hi050, _, hsz50, _⟩ := info_parts info59
           have hroom50 : x136001_1.length ≤ co49 := (Kd.R_reads' HO_136001.out).2.1
           have hC50 : Kd.C k59 _ Ao49 x136001_1.length x136001_1 := (Kd.R_reads' HO_136001.out).2.2
           have q050 : (0 : Int) ≤ ((ji40) : Int) := of_decide_eq_true zq3
           have hcut50 := cut_from (P := Try.prog) 55 59 .i64 Try.underlying55 hi050 4 hsz50 Ao49 x136001_1.length co49 (ji40) q050 q50
           have hr50 := Kd.C_drop (m := ((ji40) : Int).toNat) (c := co49) hC50 (by omega) hroom50
           obtain ⟨A50, hA50⟩ : ∃ A1, A1 = (if co49 = ((ji40) : Int).toNat then Ao49 else (Ao49 : Option Addr).map (·.add (((ji40) : Int).toNat * 4))) := ⟨_, rfl⟩
           obtain ⟨c50, hc50⟩ : ∃ c1, c1 = co49 - ((ji40) : Int).toNat := ⟨_, rfl⟩
           have hy50 : y142.length = x136001_1.length - ((ji40) : Int).toNat := (by rw [Ny142.out, List.length_drop] <;> omega)
           rw [show (x136001_1).drop ((ji40) : Int).toNat = y142 from Ny142.out.symm] at hr50
           replace hr50 : Kd.C k59 _ A50 y142.length y142 := (by rw [hA50]; exact hr50)
           rw [← hy50, ← hA50, ← hc50] at hcut50
           have HR145 := Aside0.mk hr50
           have HC145 := Aside0.mk (show y142.length ≤ c50 from by rw [hy50, hc50]; exact Nat.sub_le_sub_right hroom50 _)
           clear hr50 hC50 hroom50 hi050 hsz50 hc50
           have KY50 := Aside0.mk hy50
           have KA50 := Aside0.mk hA50
           clear hy50 hA50
           have KL50 := Aside0.mk (show ((ji40) : Int).toNat ≤ x136001_1.length from by omega)
           replace q50 := eq_true q50
           obtain ⟨go52, co52, eo52, gb52, gl52, cl52, HG52⟩ := Kd.R_form HO_136001.out (by have hj_ : 0 ≤ (x10_1 : Int) := of_decide_eq_true zq3; have hl_ : (ji40 : Int) ≤ (x136001_1.length : Int) := of_decide_eq_true zq3; have hh_ : (x10_1 : Int) ≤ (x136001_1.length : Int) := of_decide_eq_true zq3; rw [← hji40] at hl_; unfold wrap64 at hl_; omega)
           (first | cases eo52 | (injection eo52 with ea_ en_ ec_; (first | subst ea_ | (injection ea_ with ea_; subst ea_)); subst ec_; clear en_))
           have GB52 := Aside0.mk gb52
           have GG52 := Aside0.mk HG52
           clear gb52 gl52 HG52
           refine start_ (n := 12) (S := fun w' => w'.cell? ⟨gb135, 0, none⟩ = some (.int .i64 t131) ∧ w'.cell? ⟨gb135, 1, none⟩ = some (.slice (some ⟨go52, 0, none⟩) x136001_1.length co49)) (ds := [11]) #[ff,ff,ff,ff,ff,ff,ff,ff,ff,ff,ff,ff] (by kernel_rfl) rfl rfl ⟨(blk_cell BK135.out 0).trans rfl, (blk_cell BK135.out 1).trans rfl⟩ (fun hHeld => ?_); refine with_tabW spec_Take.tab9 spec_Take.bits9 (fun HT_ HW_ => ?_)
           generalize wr.drew = w47 at HO_136001 BK127 BK128 BK129 BK135 HB GG52 HR141 HR145 hHeld ⊢
           refine pure_ (i := 0) (N := some 35) (v := ?_) (a' := ?_) #[tt,ff,ff,ff,ff,ff,ff,ff,ff,ff,ff,ff] rfl rfl (any_of HT_.out (by kernel_rfl)) (fun _ _ _ h => h) (Or.inl ⟨by rfl, ?_⟩) ?_ ?_
           rotate_left
           exact zq238
           rotate_left
           exact zq239
           refine pure_ (i := 2) (N := some 37) (v := ?_) (a' := ?_) #[tt,ff,tt,ff,ff,ff,ff,ff,ff,ff,ff,ff] rfl rfl (any_of HT_.out (by kernel_rfl)) (fun _ _ _ h => h) (Or.inl ⟨by rfl, ?_⟩) ?_ ?_
           rotate_left
           exact zq238
           rotate_left
           exact zq239
           refine pure_ (i := 4) (N := some 39) (v := ?_) (a' := ?_) #[tt,ff,tt,ff,tt,ff,ff,ff,ff,ff,ff,ff] rfl rfl (any_of HT_.out (by kernel_rfl)) (fun _ _ _ h => h) (Or.inl ⟨by rfl, ?_⟩) ?_ ?_
           rotate_left
           exact zq238
           rotate_left
           exact zq239
           refine pure_ (i := 6) (N := some 41) (v := ?_) (a' := ?_) #[tt,ff,tt,ff,tt,ff,tt,ff,ff,ff,ff,ff] rfl rfl (any_of HT_.out (by kernel_rfl)) (fun _ _ _ h => h) (Or.inl ⟨by rfl, ?_⟩) ?_ ?_
           rotate_left
           exact zq238
           rotate_left
           exact zq239
           refine pure_ (i := 7) (N := some 42) (v := ?_) (a' := ?_) #[tt,ff,tt,ff,tt,ff,tt,tt,ff,ff,ff,ff] rfl rfl (any_of HT_.out (by kernel_rfl)) (fun _ _ _ h => h) (Or.inl ⟨by rfl, ?_⟩) ?_ ?_
           rotate_left
           exact zq238
           rotate_left
           exact zq239
           refine take_ (i := 1) (N := some 36) (v := ?_) (a' := ?_) #[tt,tt,tt,ff,tt,ff,tt,tt,ff,ff,ff,ff] rfl rfl (take_ofW HT_.out HW_.out (by kernel_rfl)) (fun _ _ _ h => h) (Or.inl ⟨by rfl, ?_⟩) hHeld ?_ ?_
           rotate_left
           exact zq246
           rotate_left
           exact zq239
           refine pure_ (i := 3) (N := some 38) (v := ?_) (a' := ?_) #[tt,tt,tt,tt,tt,ff,tt,tt,ff,ff,ff,ff] rfl rfl (any_of HT_.out (by kernel_rfl)) (fun _ _ _ h => h) (Or.inl ⟨by rfl, ?_⟩) ?_ ?_
           rotate_left
           exact zq238
           rotate_left
           exact zq239
           refine take_ (i := 5) (N := some 40) (v := ?_) (a' := ?_) #[tt,tt,tt,tt,tt,tt,tt,tt,ff,ff,ff,ff] rfl rfl (take_ofW HT_.out HW_.out (by kernel_rfl)) (fun _ _ _ h => h) (Or.inl ⟨by rfl, ?_⟩) hHeld ?_ ?_
           rotate_left
           exact zq246
           rotate_left
           exact zq239
           refine pure_ (i := 8) (N := some 43) (v := ?_) (a' := ?_) #[tt,tt,tt,tt,tt,tt,tt,tt,tt,ff,ff,ff] rfl rfl (any_of HT_.out (by kernel_rfl)) (fun _ _ _ h => h) (Or.inl ⟨by rfl, ?_⟩) ?_ ?_
           rotate_left
           exact zq238
           rotate_left
           exact zq239
           refine one_ (i := 9) (N := some 44) #[tt,tt,tt,tt,tt,tt,tt,tt,tt,tt,ff,ff] rfl rfl (one_of HT_.out (by kernel_rfl)) (by decide) (fun K hK => ?_)
           have hj_ : 0 ≤ (x10_1 : Int) := of_decide_eq_true zq3
           have hl_ : (ji40 : Int) ≤ (x136001_1.length : Int) := of_decide_eq_true zq3
           have hh_ : (x10_1 : Int) ≤ (x136001_1.length : Int) := of_decide_eq_true zq3
           have hb_ := (Kd.R_reads' HO_136001.out).2.2.2.1
           have h0_ : (0 : Int) ≤ (ji40 : Int) := of_decide_eq_true zq3
           have hy1_ := KY48.out
           have hk_ : (ji40 : Int).toNat = y138.length + 1 := (by have hw_ : (ji40 : Int) = x10_1 + 1 := (by have h00_ := h0_; rw [← hji40] at h00_ ⊢; unfold wrap64 at h00_ ⊢; omega); rw [hw_]; omega)
           refine Kd.R_delete_step k59 (w0 := w) w.heap.size (by rfl) (.tmp 38) (.tmp 43) 55 59 rfl Try.underlying55 (by kernel_rfl) (g := go52) (n := x136001_1.length) (c := co49) (k := y138.length) rfl rfl ?hA ?hm zq100 ?hk zq93 (below_size zq93) ?_
           (case hA => have ha_ := KA50.out; rw [hk_] at ha_; exact ha_)
           (case hm => have ha_ := KY50.out; omega)
           (case hk => omega)
           intro w51 ho hb hg
           clear hj_ hl_ hh_ hb_ hk_ h0_
           rw [hy1_, ← Ny146.out] at ho
           clear hy1_
           have hn_ : x136001_1.length - 1 = y146.length := (by have := (Kd.R_reads' ho).1; omega)
           rw [hn_] at ho ⊢
           clear hn_
           have n0_ := Aside0.mk (ho)
           have n1_ := Aside0.mk (blk_grown (g := gb127) (o := .cells #[.int .i64 a0_0, .slice (some ad136) l0_1.length c0_1] 57 (0, 0)) zq87 hg (Kd.R_ne HO_136001.out BK127.out (by decide)))
           have n2_ := Aside0.mk (blk_grown (g := gb128) (o := .cells #[.int .i64 x129000_1, .slice none 0 0] 57 (0, 0)) zq89 hg (Kd.R_ne HO_136001.out BK128.out (by decide)))
           have n3_ := Aside0.mk (blk_grown (g := gb129) (o := .cells #[.int .i64 x130000_1, .int .i64 x130001_1, .int .i64 x130002_1, .string x130003_1] 59 (0, 0)) zq91 hg (Kd.R_away HO_136001.out (fun _ hk => hk)))
           have n4_ := Aside0.mk (blk_grown (g := gb135) (o := .cells #[.int .i64 t131, .slice (some ⟨go52, 0, none⟩) x136001_1.length co49] 57 (0, 0)) zq101 hg (Kd.R_ne HO_136001.out BK135.out (by decide)))
           have n5_ := Aside0.mk (hb)
           clear HO_136001
           clear BK127
           clear BK128
           clear BK129
           clear BK135
           clear HB
           have HO_136001 := n0_
           have BK127 := n1_
           have BK128 := n2_
           have BK129 := n3_
           have BK135 := n4_
           have HB := n5_
           clear n0_ n1_ n2_ n3_ n4_ n5_
           clear ho hb hg
           refine hK.out _ _ ⟨(blk_cell BK135.out 0).trans rfl, (blk_cell BK135.out 1).trans rfl⟩ (fun hHeld => ?_)
           clear hK K
           refine norm_ (a' := ?_) ?_ ?_
           rotate_left
           ·
            show Act.put _ (some 44) _ = _
            simp only [Act.put, List.setIfInBounds_toArray, List.set_cons_zero, List.set_cons_succ, i64_w, i32_w]
            rfl
           refine pure_ (i := 10) (N := some 45) (v := ?_) (a' := ?_) #[tt,tt,tt,tt,tt,tt,tt,tt,tt,tt,tt,ff] rfl rfl (any_of HT_.out (by kernel_rfl)) (fun _ _ _ h => h) (Or.inl ⟨by rfl, ?_⟩) ?_ ?_
           rotate_left
           exact zq238
           rotate_left
           exact zq239
           refine last_ (i := 11) (N := none) #[tt,tt,tt,tt,tt,tt,tt,tt,tt,tt,tt,tt] rfl rfl (one_of HT_.out (by kernel_rfl)) (by decide) (fun K hK => ?_)
           have hs53 : w51.cell? ⟨gb135, 1, none⟩ = some (.slice (some ⟨go52, 0, none⟩) x136001_1.length co49) := (blk_cell BK135.out 1).trans rfl
           have hfs53 := blk_frozen BK135.out 1
           have hns53_0 := NB127_135.out
           have hns53_1 := NB128_135.out
           have hns53_2 := NB129_135.out
           have hms53_0 := NB135_127.out
           have hms53_1 := NB135_128.out
           have hms53_2 := NB135_129.out
           refine skip_ (w1 := ?_) (by rfl) rfl ?_ ?_
           rotate_left
           ·
            go_simp
            rfl
           refine hK.out _ _ ?_
           clear hK K
           refine done_ (done_of HT_.out (by kernel_rfl)) ?_
           try go_wp2
           have n0_ : Aside0 (Kd.R k59 59 (w51.setCell ⟨gb135, 1, none⟩ (.slice (some ⟨go52, 0, none⟩) y146.length co49)) w.heap.size (fun k_ => k_ ≠ gb129) (.slice (some ⟨go52, 0, none⟩) y146.length co49) y146) := ⟨by (with_reducible repeat (first | apply Kd.R_alloc | apply Kd.R_drewN | apply Kd.R_drew)); exact Kd.R_mono (Kd.R_far (p := ⟨gb135, 1, none⟩) (Kd.R_types HO_136001.out BK135.out (by decide)) (fun _ hk => hk.2) (.slice (some ⟨go52, 0, none⟩) y146.length co49)) (fun _ hk => hk.1)⟩
           have n1_ : Aside0 ((w51.setCell ⟨gb135, 1, none⟩ (.slice (some ⟨go52, 0, none⟩) y146.length co49)).heap[gb127]? = some (.cells #[.int .i64 a0_0, .slice (some ad136) l0_1.length c0_1] 57 (0, 0))) := ⟨by (with_reducible repeat (first | refine blk_drewN ?_ _ | refine blk_drew ?_ | refine blk_alloc ?_ _)); refine blk_far ?_ NB127_135.out _; (with_reducible repeat (first | refine blk_drewN ?_ _ | refine blk_drew ?_ | refine blk_alloc ?_ _)); exact BK127.out⟩
           have n2_ : Aside0 ((w51.setCell ⟨gb135, 1, none⟩ (.slice (some ⟨go52, 0, none⟩) y146.length co49)).heap[gb128]? = some (.cells #[.int .i64 x129000_1, .slice none 0 0] 57 (0, 0))) := ⟨by (with_reducible repeat (first | refine blk_drewN ?_ _ | refine blk_drew ?_ | refine blk_alloc ?_ _)); refine blk_far ?_ NB128_135.out _; (with_reducible repeat (first | refine blk_drewN ?_ _ | refine blk_drew ?_ | refine blk_alloc ?_ _)); exact BK128.out⟩
           have n3_ : Aside0 ((w51.setCell ⟨gb135, 1, none⟩ (.slice (some ⟨go52, 0, none⟩) y146.length co49)).heap[gb129]? = some (.cells #[.int .i64 x130000_1, .int .i64 x130001_1, .int .i64 x130002_1, .string x130003_1] 59 (0, 0))) := ⟨by (with_reducible repeat (first | refine blk_drewN ?_ _ | refine blk_drew ?_ | refine blk_alloc ?_ _)); refine blk_far ?_ NB129_135.out _; (with_reducible repeat (first | refine blk_drewN ?_ _ | refine blk_drew ?_ | refine blk_alloc ?_ _)); exact BK129.out⟩
           have n4_ : Aside0 ((w51.setCell ⟨gb135, 1, none⟩ (.slice (some ⟨go52, 0, none⟩) y146.length co49)).heap[gb135]? = some (.cells #[.int .i64 t131, .slice (some ⟨go52, 0, none⟩) y146.length co49] 57 (0, 0))) := ⟨by (with_reducible repeat (first | refine blk_drewN ?_ _ | refine blk_drew ?_ | refine blk_alloc ?_ _)); refine blk_put (cs := #[.int .i64 t131, .slice (some ⟨go52, 0, none⟩) x136001_1.length co49]) ?_ 1 _ rfl; (with_reducible repeat (first | refine blk_drewN ?_ _ | refine blk_drew ?_ | refine blk_alloc ?_ _)); exact BK135.out⟩
           have n5_ : Aside0 (Below w.heap.size w (w51.setCell ⟨gb135, 1, none⟩ (.slice (some ⟨go52, 0, none⟩) y146.length co49))) := ⟨zq93⟩
           (try clear HO_136001)
           (try clear BK127)
           (try clear BK128)
           (try clear BK129)
           (try clear BK135)
           (try clear HB)
           generalize (w51.setCell ⟨gb135, 1, none⟩ (.slice (some ⟨go52, 0, none⟩) y146.length co49)) = w54 at n0_ n1_ n2_ n3_ n4_ n5_ ⊢
           have HO_136001 := n0_
           have BK127 := n1_
           have BK128 := n2_
           have BK129 := n3_
           have BK135 := n4_
           have HB := n5_
           clear n0_ n1_ n2_ n3_ n4_ n5_
           have n0_ := Aside0.mk (Kd.R_drew HO_136001.out)
           have n1_ := Aside0.mk (blk_drew BK127.out)
           have n2_ := Aside0.mk (blk_drew BK128.out)
           have n3_ := Aside0.mk (blk_drew BK129.out)
           have n4_ := Aside0.mk (blk_drew BK135.out)
           have n5_ := Aside0.mk (below_drew1 HB.out)
           clear HO_136001
           clear BK127
           clear BK128
           clear BK129
           clear BK135
           clear HB
           have HO_136001 := n0_
           have BK127 := n1_
           have BK128 := n2_
           have BK129 := n3_
           have BK135 := n4_
           have HB := n5_
           clear n0_ n1_ n2_ n3_ n4_ n5_
           have p149 : 0 ≤ (x10_1 : Int) := of_decide_eq_true zq3
           have q149 : x10_1 < (l0_1.length : Int) := of_decide_eq_true zq3
           obtain ⟨ad149, e149, hx149_0, hx149_1, hx149_2, hx149_3⟩ := at_T59 HR0_1.out x10_1 p149 q149
           have hw149_3 := hx149_3
           have hw149_2 := hx149_2
           have hw149_1 := hx149_1
           have hw149_0 := hx149_0
           obtain rfl : ad136 = ad149 := (by injection e149)
           replace hx149_0 := (HB.out.cell (World.block_lt_of_cell? w _ hx149_0)).trans hx149_0
           replace hx149_1 := (HB.out.cell (World.block_lt_of_cell? w _ hx149_1)).trans hx149_1
           replace hx149_2 := (HB.out.cell (World.block_lt_of_cell? w _ hx149_2)).trans hx149_2
           replace hx149_3 := (HB.out.cell (World.block_lt_of_cell? w _ hx149_3)).trans hx149_3
           replace p149 := eq_true p149
           replace q149 := eq_true q149
           refine start_ (n := 9) (S := fun w' => w'.cell? ⟨gb135, 0, none⟩ = some (.int .i64 t131) ∧ w'.cell? ⟨gb135, 1, none⟩ = some (.slice (some ⟨go52, 0, none⟩) y146.length co49) ∧ w'.cell? ⟨gb127, 0, none⟩ = some (.int .i64 a0_0) ∧ w'.cell? ⟨gb127, 1, none⟩ = some (.slice (some ad136) l0_1.length c0_1) ∧ w'.cell? (ad136.add ((x10_1).toNat * 4)) = some (.int .i64 ((rd_T59 l0_1 x10_1).f0)) ∧ w'.cell? ⟨(ad136.add ((x10_1).toNat * 4)).block, (ad136.add ((x10_1).toNat * 4)).off + 1, none⟩ = some (.int .i64 ((rd_T59 l0_1 x10_1).f1)) ∧ w'.cell? ⟨(ad136.add ((x10_1).toNat * 4)).block, (ad136.add ((x10_1).toNat * 4)).off + 2, none⟩ = some (.int .i64 ((rd_T59 l0_1 x10_1).f2)) ∧ w'.cell? ⟨(ad136.add ((x10_1).toNat * 4)).block, (ad136.add ((x10_1).toNat * 4)).off + 3, none⟩ = some (.string ((rd_T59 l0_1 x10_1).f3))) (ds := []) #[ff,ff,ff,ff,ff,ff,ff,ff,ff] (by kernel_rfl) rfl rfl ⟨(blk_cell BK135.out 0).trans rfl, (blk_cell BK135.out 1).trans rfl, (blk_cell BK127.out 0).trans rfl, (blk_cell BK127.out 1).trans rfl, ((HB.out.cell (World.block_lt_of_cell? w _ hw149_0)).trans hw149_0), ((HB.out.cell (World.block_lt_of_cell? w _ hw149_1)).trans hw149_1), ((HB.out.cell (World.block_lt_of_cell? w _ hw149_2)).trans hw149_2), ((HB.out.cell (World.block_lt_of_cell? w _ hw149_3)).trans hw149_3)⟩ (fun hHeld => ?_); refine with_tabW spec_Take.tab10 spec_Take.bits10 (fun HT_ HW_ => ?_)
           generalize w54.drew = w55 at HO_136001 BK127 BK128 BK129 BK135 HB hx149_0 hx149_1 hx149_2 hx149_3 hHeld ⊢
           refine pure_ (i := 1) (N := some 47) (v := ?_) (a' := ?_) #[ff,tt,ff,ff,ff,ff,ff,ff,ff] rfl rfl (any_of HT_.out (by kernel_rfl)) (fun _ _ _ h => h) (Or.inl ⟨by rfl, ?_⟩) ?_ ?_
           rotate_left
           exact zq238
           rotate_left
           exact zq239
           refine pure_ (i := 3) (N := some 49) (v := ?_) (a' := ?_) #[ff,tt,ff,tt,ff,ff,ff,ff,ff] rfl rfl (any_of HT_.out (by kernel_rfl)) (fun _ _ _ h => h) (Or.inl ⟨by rfl, ?_⟩) ?_ ?_
           rotate_left
           exact zq238
           rotate_left
           exact zq239
           refine take_ (i := 0) (N := some 46) (v := ?_) (a' := ?_) #[tt,tt,ff,tt,ff,ff,ff,ff,ff] rfl rfl (take_ofW HT_.out HW_.out (by kernel_rfl)) (fun _ _ _ h => h) (Or.inl ⟨by rfl, ?_⟩) hHeld ?_ ?_
           rotate_left
           exact zq245
           rotate_left
           exact zq239
           refine take_ (i := 2) (N := some 48) (v := ?_) (a' := ?_) #[tt,tt,tt,tt,ff,ff,ff,ff,ff] rfl rfl (take_ofW HT_.out HW_.out (by kernel_rfl)) (fun _ _ _ h => h) (Or.inl ⟨by rfl, ?_⟩) hHeld ?_ ?_
           rotate_left
           exact zq245
           rotate_left
           exact zq239
           refine pure_ (i := 4) (N := some 50) (v := ?_) (a' := ?_) #[tt,tt,tt,tt,tt,ff,ff,ff,ff] rfl rfl (any_of HT_.out (by kernel_rfl)) (fun _ _ _ h => h) (Or.inl ⟨by rfl, ?_⟩) ?_ ?_
           rotate_left
           exact zq238
           rotate_left
           exact zq239
           refine take_ (i := 5) (N := some 51) (v := ?_) (a' := ?_) #[tt,tt,tt,tt,tt,tt,ff,ff,ff] rfl rfl (take_ofW HT_.out HW_.out (by kernel_rfl)) (fun _ _ _ h => h) (Or.inl ⟨by rfl, ?_⟩) hHeld ?_ ?_
           rotate_left
           exact zq245
           rotate_left
           exact zq239
           refine one_ (i := 6) (N := none) #[tt,tt,tt,tt,tt,tt,tt,ff,ff] rfl rfl (one_of HT_.out (by kernel_rfl)) (by decide) (fun K hK => ?_)
           have hs56 : w55.cell? ⟨gb128, 0, none⟩ = some (.int .i64 x129000_1) := (blk_cell BK128.out 0).trans rfl
           have hfs56 := blk_frozen BK128.out 0
           have hns56_0 := NB127_128.out
           have hns56_2 := NB129_128.out
           have hns56_3 := NB135_128.out
           have hms56_0 := NB128_127.out
           have hms56_2 := NB128_129.out
           have hms56_3 := NB128_135.out
           have hs57 : w55.cell? ⟨gb128, 1, none⟩ = some (.slice none 0 0) := (blk_cell BK128.out 1).trans rfl
           have hfs57 := blk_frozen BK128.out 1
           have hns57_0 := NB127_128.out
           have hns57_2 := NB129_128.out
           have hns57_3 := NB135_128.out
           have hms57_0 := NB128_127.out
           have hms57_2 := NB128_129.out
           have hms57_3 := NB128_135.out
           refine skip_ (w1 := ?_) (by rfl) rfl ?_ ?_
           rotate_left
           ·
            go_simp
            rfl
           refine hK.out _ _ ⟨((cell_far (p := ⟨gb128, _, none⟩) NB135_128.out _).trans (((cell_far (p := ⟨gb128, _, none⟩) NB135_128.out _).trans (hHeld.1)))), ((cell_far (p := ⟨gb128, _, none⟩) NB135_128.out _).trans (((cell_far (p := ⟨gb128, _, none⟩) NB135_128.out _).trans (hHeld.2.1)))), ((cell_far (p := ⟨gb128, _, none⟩) NB127_128.out _).trans (((cell_far (p := ⟨gb128, _, none⟩) NB127_128.out _).trans (hHeld.2.2.1)))), ((cell_far (p := ⟨gb128, _, none⟩) NB127_128.out _).trans (((cell_far (p := ⟨gb128, _, none⟩) NB127_128.out _).trans (hHeld.2.2.2.1)))), ((cell_far (p := ⟨gb128, _, none⟩) zq205 _).trans (((cell_far (p := ⟨gb128, _, none⟩) zq205 _).trans (hHeld.2.2.2.2.1)))), ((cell_far (p := ⟨gb128, _, none⟩) zq206 _).trans (((cell_far (p := ⟨gb128, _, none⟩) zq206 _).trans (hHeld.2.2.2.2.2.1)))), ((cell_far (p := ⟨gb128, _, none⟩) zq207 _).trans (((cell_far (p := ⟨gb128, _, none⟩) zq207 _).trans (hHeld.2.2.2.2.2.2.1)))), ((cell_far (p := ⟨gb128, _, none⟩) zq208 _).trans (((cell_far (p := ⟨gb128, _, none⟩) zq208 _).trans (hHeld.2.2.2.2.2.2.2))))⟩ (fun hHeld => ?_)
           clear hK K
           refine one_ (i := 7) (N := none) #[tt,tt,tt,tt,tt,tt,tt,tt,ff] rfl rfl (one_of HT_.out (by kernel_rfl)) (by decide) (fun K hK => ?_)
           have hs58 : w55.cell? ⟨gb129, 0, none⟩ = some (.int .i64 x130000_1) := (blk_cell BK129.out 0).trans rfl
           have hfs58 := blk_frozen BK129.out 0
           have hns58_0 := NB127_129.out
           have hns58_1 := NB128_129.out
           have hns58_3 := NB135_129.out
           have hms58_0 := NB129_127.out
           have hms58_1 := NB129_128.out
           have hms58_3 := NB129_135.out
           have hs59 : w55.cell? ⟨gb129, 1, none⟩ = some (.int .i64 x130001_1) := (blk_cell BK129.out 1).trans rfl
           have hfs59 := blk_frozen BK129.out 1
           have hns59_0 := NB127_129.out
           have hns59_1 := NB128_129.out
           have hns59_3 := NB135_129.out
           have hms59_0 := NB129_127.out
           have hms59_1 := NB129_128.out
           have hms59_3 := NB129_135.out
           have hs60 : w55.cell? ⟨gb129, 2, none⟩ = some (.int .i64 x130002_1) := (blk_cell BK129.out 2).trans rfl
           have hfs60 := blk_frozen BK129.out 2
           have hns60_0 := NB127_129.out
           have hns60_1 := NB128_129.out
           have hns60_3 := NB135_129.out
           have hms60_0 := NB129_127.out
           have hms60_1 := NB129_128.out
           have hms60_3 := NB129_135.out
           have hs61 : w55.cell? ⟨gb129, 3, none⟩ = some (.string x130003_1) := (blk_cell BK129.out 3).trans rfl
           have hfs61 := blk_frozen BK129.out 3
           have hns61_0 := NB127_129.out
           have hns61_1 := NB128_129.out
           have hns61_3 := NB135_129.out
           have hms61_0 := NB129_127.out
           have hms61_1 := NB129_128.out
           have hms61_3 := NB129_135.out
           refine skip_ (w1 := ?_) (by rfl) rfl ?_ ?_
           rotate_left
           ·
            go_simp
            rfl
           refine hK.out _ _ ⟨((cell_far (p := ⟨gb129, _, none⟩) NB135_129.out _).trans (((cell_far (p := ⟨gb129, _, none⟩) NB135_129.out _).trans (((cell_far (p := ⟨gb129, _, none⟩) NB135_129.out _).trans (((cell_far (p := ⟨gb129, _, none⟩) NB135_129.out _).trans (hHeld.1)))))))), ((cell_far (p := ⟨gb129, _, none⟩) NB135_129.out _).trans (((cell_far (p := ⟨gb129, _, none⟩) NB135_129.out _).trans (((cell_far (p := ⟨gb129, _, none⟩) NB135_129.out _).trans (((cell_far (p := ⟨gb129, _, none⟩) NB135_129.out _).trans (hHeld.2.1)))))))), ((cell_far (p := ⟨gb129, _, none⟩) NB127_129.out _).trans (((cell_far (p := ⟨gb129, _, none⟩) NB127_129.out _).trans (((cell_far (p := ⟨gb129, _, none⟩) NB127_129.out _).trans (((cell_far (p := ⟨gb129, _, none⟩) NB127_129.out _).trans (hHeld.2.2.1)))))))), ((cell_far (p := ⟨gb129, _, none⟩) NB127_129.out _).trans (((cell_far (p := ⟨gb129, _, none⟩) NB127_129.out _).trans (((cell_far (p := ⟨gb129, _, none⟩) NB127_129.out _).trans (((cell_far (p := ⟨gb129, _, none⟩) NB127_129.out _).trans (hHeld.2.2.2.1)))))))), ((cell_far (p := ⟨gb129, _, none⟩) zq209 _).trans (((cell_far (p := ⟨gb129, _, none⟩) zq209 _).trans (((cell_far (p := ⟨gb129, _, none⟩) zq209 _).trans (((cell_far (p := ⟨gb129, _, none⟩) zq209 _).trans (hHeld.2.2.2.2.1)))))))), ((cell_far (p := ⟨gb129, _, none⟩) zq210 _).trans (((cell_far (p := ⟨gb129, _, none⟩) zq210 _).trans (((cell_far (p := ⟨gb129, _, none⟩) zq210 _).trans (((cell_far (p := ⟨gb129, _, none⟩) zq210 _).trans (hHeld.2.2.2.2.2.1)))))))), ((cell_far (p := ⟨gb129, _, none⟩) zq211 _).trans (((cell_far (p := ⟨gb129, _, none⟩) zq211 _).trans (((cell_far (p := ⟨gb129, _, none⟩) zq211 _).trans (((cell_far (p := ⟨gb129, _, none⟩) zq211 _).trans (hHeld.2.2.2.2.2.2.1)))))))), ((cell_far (p := ⟨gb129, _, none⟩) zq212 _).trans (((cell_far (p := ⟨gb129, _, none⟩) zq212 _).trans (((cell_far (p := ⟨gb129, _, none⟩) zq212 _).trans (((cell_far (p := ⟨gb129, _, none⟩) zq212 _).trans (hHeld.2.2.2.2.2.2.2))))))))⟩ (fun hHeld => ?_)
           clear hK K
           refine pure_ (i := 8) (N := some 8) (v := ?_) (a' := ?_) #[tt,tt,tt,tt,tt,tt,tt,tt,tt] rfl rfl (any_of HT_.out (by kernel_rfl)) (fun _ _ _ h => h) (Or.inl ⟨by rfl, ?_⟩) ?_ ?_
           rotate_left
           exact zq238
           rotate_left
           exact zq239
           refine done_ (done_of HT_.out (by kernel_rfl)) ?_
           try go_wp2
           refine bodyPost_ret (results_list (rs := [.cell 6 57, .cell 7 59, .tmp 8]) rfl (by simp) (.cell gb128 57 #[.int .i64 t131, .slice (some ⟨go52, 0, none⟩) y146.length co49] (0, 0) _ rfl zq98 Try.underlying57 rfl (by kernel_rfl) (.cell gb129 59 #[.int .i64 ((rd_T59 l0_1 x10_1).f0), .int .i64 ((rd_T59 l0_1 x10_1).f1), .int .i64 ((rd_T59 l0_1 x10_1).f2), .string ((rd_T59 l0_1 x10_1).f3)] (0, 0) _ rfl zq99 Try.underlying59 rfl (by kernel_rfl) (.tmp .nil)))) rfl ?_
           exact ⟨_, by first | rfl | (simp [errW_none, errW_some] <;> rfl) | (simp only [← hji40]; first | rfl | (simp [errW_none, errW_some] <;> rfl)) | (simp [*, errW_none, errW_some] <;> rfl), by (with_reducible repeat (first | apply Kd.R_alloc | apply Kd.R_drewN | apply Kd.R_drew)); exact Kd.R_mono (Kd.R_far (p := ⟨gb129, 3, none⟩) (Kd.R_far (p := ⟨gb129, 2, none⟩) (Kd.R_far (p := ⟨gb129, 1, none⟩) (Kd.R_far (p := ⟨gb129, 0, none⟩) (Kd.R_far (p := ⟨gb128, 1, none⟩) (Kd.R_far (p := ⟨gb128, 0, none⟩) (Kd.R_mono (Kd.R_types HO_136001.out BK128.out (by decide)) (fun k_ hk => (⟨hk, hk.1⟩ : _ ∧ k_ ≠ gb129))) (fun _ hk => hk.1.2) (.int .i64 t131)) (fun _ hk => hk.1.2) (.slice (some ⟨go52, 0, none⟩) y146.length co49)) (fun _ hk => hk.2) (.int .i64 ((rd_T59 l0_1 x10_1).f0))) (fun _ hk => hk.2) (.int .i64 ((rd_T59 l0_1 x10_1).f1))) (fun _ hk => hk.2) (.int .i64 ((rd_T59 l0_1 x10_1).f2))) (fun _ hk => hk.2) (.string ((rd_T59 l0_1 x10_1).f3))) (fun _ hk => trivial), zq93⟩
          ·
           rw [if_neg c42] at H
           exact absurd H (by simp)
         ·
          rw [if_neg c41] at H
          exact absurd H (by simp)
        ·
         rw [if_neg c39] at H
         exact absurd H (by simp)
      ·
       rw [if_neg c24] at H
       have c24b0 : (((rd_T59 l0_1 x10_1).f0) == a1) = false := beq_eq_false_iff_ne.mpr c24
       have c24b1 : (((rd_T59 l0_1 x10_1).f0) != a1) = true := bne_iff_ne.mpr c24
       have H' := Aside0.mk H
       clear H
       have hnb62 := NB127_128.out
       have hnc62 := NB128_127.out
       have hnb63 := NB127_129.out
       have hnc63 := NB129_127.out
       have hnb64 := NB127_135.out
       have hnc64 := NB135_127.out
       have hcz65_0 : wr.cell? ⟨gb127, 0, none⟩ = some (.int .i64 a0_0) := (blk_cell BK127.out 0).trans rfl
       have hcz65_1 : wr.cell? ⟨gb127, 1, none⟩ = some (.slice A0_1 l0_1.length c0_1) := (blk_cell BK127.out 1).trans rfl
       have hfz65_0 := blk_frozen BK127.out 0
       have hfz65_1 := blk_frozen BK127.out 1
       have p136 : 0 ≤ (x10_1 : Int) := of_decide_eq_true zq3
       have q136 : x10_1 < (l0_1.length : Int) := of_decide_eq_true zq3
       obtain ⟨ad136, e136, hx136_0, hx136_1, hx136_2, hx136_3⟩ := at_T59 HR0_1.out x10_1 p136 q136
       cases e136
       replace hx136_0 := (HB.out.cell (World.block_lt_of_cell? w _ hx136_0)).trans hx136_0
       replace hx136_1 := (HB.out.cell (World.block_lt_of_cell? w _ hx136_1)).trans hx136_1
       replace hx136_2 := (HB.out.cell (World.block_lt_of_cell? w _ hx136_2)).trans hx136_2
       replace hx136_3 := (HB.out.cell (World.block_lt_of_cell? w _ hx136_3)).trans hx136_3
       replace p136 := eq_true p136
       replace q136 := eq_true q136
       go_wp2
       go_roundg k1
       case measure => have := HK1.out; omega
       case rel => exact ⟨(wrap64 (x10_1 + 1)), (x129000_1), (x130000_1), (x130001_1), (x130002_1), (x130003_1), (x136001_1), (u136001), zq1, H', ⟨zq4⟩, ⟨zq100⟩, ⟨zq87⟩, ⟨zq89⟩, ⟨zq91⟩, ⟨zq101⟩, ⟨zq93⟩⟩
     ·
      rw [if_neg c23] at H
      exact absurd H (by simp)
    ·
     rw [if_neg c22] at H
     have c22b0 : decide (x10_1 < (l0_1.length : Int)) = false := decide_eq_false c22
     clear c22
     simp only [Option.some.injEq, Prod.mk.injEq] at H
     obtain ⟨rfl, rfl, rfl, rfl, rfl, rfl, rfl⟩ := H
     have hnb66 := NB127_128.out
     have hnc66 := NB128_127.out
     have hnb67 := NB127_129.out
     have hnc67 := NB129_127.out
     have hnb68 := NB127_135.out
     have hnc68 := NB135_127.out
     have hcz69_0 : wr.cell? ⟨gb127, 0, none⟩ = some (.int .i64 a0_0) := (blk_cell BK127.out 0).trans rfl
     have hcz69_1 : wr.cell? ⟨gb127, 1, none⟩ = some (.slice A0_1 l0_1.length c0_1) := (blk_cell BK127.out 1).trans rfl
     have hfz69_0 := blk_frozen BK127.out 0
     have hfz69_1 := blk_frozen BK127.out 1
     have hnb70 := NB135_128.out
     have hnc70 := NB128_135.out
     have hnb71 := NB135_129.out
     have hnc71 := NB129_135.out
     have hcz72_0 : wr.cell? ⟨gb135, 0, none⟩ = some (.int .i64 t131) := (blk_cell BK135.out 0).trans rfl
     have hcz72_1 : wr.cell? ⟨gb135, 1, none⟩ = some (u136001) := (blk_cell BK135.out 1).trans rfl
     have hfz72_0 := blk_frozen BK135.out 0
     have hfz72_1 := blk_frozen BK135.out 1
     have hnb73 := NB128_129.out
     have hnc73 := NB129_128.out
     have hcz74_0 : wr.cell? ⟨gb128, 0, none⟩ = some (.int .i64 x129000_1) := (blk_cell BK128.out 0).trans rfl
     have hcz74_1 : wr.cell? ⟨gb128, 1, none⟩ = some (.slice none 0 0) := (blk_cell BK128.out 1).trans rfl
     have hfz74_0 := blk_frozen BK128.out 0
     have hfz74_1 := blk_frozen BK128.out 1
     obtain ⟨Ao75, co75, eo75⟩ := Kd.R_slice HO_136001.out
     subst eo75
     have hcz76_0 : wr.cell? ⟨gb129, 0, none⟩ = some (.int .i64 x130000_1) := (blk_cell BK129.out 0).trans rfl
     have hcz76_1 : wr.cell? ⟨gb129, 1, none⟩ = some (.int .i64 x130001_1) := (blk_cell BK129.out 1).trans rfl
     have hcz76_2 : wr.cell? ⟨gb129, 2, none⟩ = some (.int .i64 x130002_1) := (blk_cell BK129.out 2).trans rfl
     have hcz76_3 : wr.cell? ⟨gb129, 3, none⟩ = some (.string x130003_1) := (blk_cell BK129.out 3).trans rfl
     have hfz76_0 := blk_frozen BK129.out 0
     have hfz76_1 := blk_frozen BK129.out 1
     have hfz76_2 := blk_frozen BK129.out 2
     have hfz76_3 := blk_frozen BK129.out 3
     go_wp2
     refine bodyPost_ret (results_list (rs := [.cell 6 57, .cell 7 59, .tmp 8]) rfl (by simp) (.cell gb128 57 #[.int .i64 t131, .slice Ao75 x136001_1.length co75] (0, 0) _ rfl zq98 Try.underlying57 rfl (by kernel_rfl) (.cell gb129 59 #[.int .i64 0, .int .i64 0, .int .i64 0, .string (⟨#[]⟩ : ByteArray)] (0, 0) _ rfl (by (with_reducible repeat (first | refine blk_drewN ?_ _ | refine blk_drew ?_ | refine blk_alloc ?_ _)); refine blk_put (cs := #[.int .i64 0, .int .i64 0, .int .i64 0, .string x130003_1]) ?_ 3 _ rfl; (with_reducible repeat (first | refine blk_drewN ?_ _ | refine blk_drew ?_ | refine blk_alloc ?_ _)); refine blk_put (cs := #[.int .i64 0, .int .i64 0, .int .i64 x130002_1, .string x130003_1]) ?_ 2 _ rfl; (with_reducible repeat (first | refine blk_drewN ?_ _ | refine blk_drew ?_ | refine blk_alloc ?_ _)); refine blk_put (cs := #[.int .i64 0, .int .i64 x130001_1, .int .i64 x130002_1, .string x130003_1]) ?_ 1 _ rfl; (with_reducible repeat (first | refine blk_drewN ?_ _ | refine blk_drew ?_ | refine blk_alloc ?_ _)); refine blk_put (cs := #[.int .i64 x130000_1, .int .i64 x130001_1, .int .i64 x130002_1, .string x130003_1]) ?_ 0 _ rfl; (with_reducible repeat (first | refine blk_drewN ?_ _ | refine blk_drew ?_ | refine blk_alloc ?_ _)); refine blk_far ?_ NB129_128.out _; (with_reducible repeat (first | refine blk_drewN ?_ _ | refine blk_drew ?_ | refine blk_alloc ?_ _)); refine blk_far ?_ NB129_128.out _; (with_reducible repeat (first | refine blk_drewN ?_ _ | refine blk_drew ?_ | refine blk_alloc ?_ _)); exact BK129.out) Try.underlying59 rfl (by kernel_rfl) (.tmp .nil)))) rfl ?_
     exact ⟨_, zq8, by (with_reducible repeat (first | apply Kd.R_alloc | apply Kd.R_drewN | apply Kd.R_drew)); exact Kd.R_mono (Kd.R_far (p := ⟨gb129, 3, none⟩) (Kd.R_far (p := ⟨gb129, 2, none⟩) (Kd.R_far (p := ⟨gb129, 1, none⟩) (Kd.R_far (p := ⟨gb129, 0, none⟩) (Kd.R_far (p := ⟨gb128, 1, none⟩) (Kd.R_far (p := ⟨gb128, 0, none⟩) (Kd.R_mono (Kd.R_types HO_136001.out BK128.out (by decide)) (fun k_ hk => (⟨hk, hk.1⟩ : _ ∧ k_ ≠ gb129))) (fun _ hk => hk.1.2) (.int .i64 t131)) (fun _ hk => hk.1.2) (.slice Ao75 x136001_1.length co75)) (fun _ hk => hk.2) (.int .i64 0)) (fun _ hk => hk.2) (.int .i64 0)) (fun _ hk => hk.2) (.int .i64 0)) (fun _ hk => hk.2) (.string (⟨#[]⟩ : ByteArray))) (fun _ hk => trivial), zq93⟩
 ·
  replace c5 := Bool.eq_false_iff.mpr c5
  subst c5
  have H1 : (some (0, ([] : List (S59)), 0, 0, 0, (⟨#[]⟩ : ByteArray), false)) = some (r1, r2, r3, r4, r5, r6, r7) := by rw [if_neg (show ¬ (false = true) by decide)] at H; exact H
  clear H
  have H := H1
  clear H1
  simp only [Option.some.injEq, Prod.mk.injEq] at H
  obtain ⟨rfl, rfl, rfl, rfl, rfl, rfl, rfl⟩ := H
  go_enter Try.func41, Try.ntmps41
  go_wp2_with (first | ((with_reducible refine gate_dst (N := 3) rfl ?_); refine box_event ?hg (N := 3) ?hd (cs := #[.int .i64 a0_0, .slice A0_1 l0_1.length c0_1]) (t := 57) ?hr ?_; (case hd => rfl); (case hg => rfl); (case hr => exact zq5); intro gb127 hg w77 hbox hb; have n0_ := Aside0.mk (below_step zq6 hb); have n1_ := Aside0.mk (hbox); have n2_ := Aside0.mk ((zq166 : w.heap.size ≤ gb127)); have n3_ := Aside0.mk ((zq166 : w.heap.size ≤ gb127)); clear HB; have HB := n0_; have BK127 := n1_; have GW127 := n2_; have GE127 := n3_; clear n0_ n1_ n2_ n3_; clear hb hbox hg) | ((with_reducible refine gate_dst (N := 6) rfl ?_); refine box_event ?hg (N := 6) ?hd (cs := #[.int .i64 0, .slice none 0 0]) (t := 57) ?hr ?_; (case hd => rfl); (case hg => rfl); (case hr => exact zq5); intro gb128 hg w78 hbox hb; have n0_ := Aside0.mk (blk_below (g := gb127) (o := .cells #[.int .i64 a0_0, .slice A0_1 l0_1.length c0_1] 57 (0, 0)) zq87 hb); have n1_ := Aside0.mk (below_step zq88 hb); have n2_ := Aside0.mk (hbox); have n3_ := Aside0.mk ((zq191 : w.heap.size ≤ gb128)); have n4_ := Aside0.mk ((zq191 : w.heap.size ≤ gb128)); have n5_ := Aside0.mk ((zq192 : gb127 ≠ gb128)); have n6_ := Aside0.mk ((zq193 : gb128 ≠ gb127)); clear BK127; clear HB; have BK127 := n0_; have HB := n1_; have BK128 := n2_; have GW128 := n3_; have GE128 := n4_; have NB127_128 := n5_; have NB128_127 := n6_; clear n0_ n1_ n2_ n3_ n4_ n5_ n6_; clear hb hbox hg) | ((with_reducible refine gate_dst (N := 7) rfl ?_); refine box_event ?hg (N := 7) ?hd (cs := #[.int .i64 0, .int .i64 0, .int .i64 0, .string (⟨#[]⟩ : ByteArray)]) (t := 59) ?hr ?_; (case hd => rfl); (case hg => rfl); (case hr => exact zq5); intro gb129 hg w79 hbox hb; have n0_ := Aside0.mk (blk_below (g := gb127) (o := .cells #[.int .i64 a0_0, .slice A0_1 l0_1.length c0_1] 57 (0, 0)) zq87 hb); have n1_ := Aside0.mk (blk_below (g := gb128) (o := .cells #[.int .i64 0, .slice none 0 0] 57 (0, 0)) zq89 hb); have n2_ := Aside0.mk (below_step zq90 hb); have n3_ := Aside0.mk (hbox); have n4_ := Aside0.mk ((zq194 : w.heap.size ≤ gb129)); have n5_ := Aside0.mk ((zq194 : w.heap.size ≤ gb129)); have n6_ := Aside0.mk ((zq192 : gb127 ≠ gb129)); have n7_ := Aside0.mk ((zq193 : gb129 ≠ gb127)); have n8_ := Aside0.mk ((zq195 : gb128 ≠ gb129)); have n9_ := Aside0.mk ((zq196 : gb129 ≠ gb128)); clear BK127; clear BK128; clear HB; have BK127 := n0_; have BK128 := n1_; have HB := n2_; have BK129 := n3_; have GW129 := n4_; have GE129 := n5_; have NB127_129 := n6_; have NB129_127 := n7_; have NB128_129 := n8_; have NB129_128 := n9_; clear n0_ n1_ n2_ n3_ n4_ n5_ n6_ n7_ n8_ n9_; clear hb hbox hg; have hnb80 := NB127_128.out; have hnc80 := NB128_127.out; have hnb81 := NB127_129.out; have hnc81 := NB129_127.out; have hcz82_0 : w79.cell? ⟨gb127, 0, none⟩ = some (.int .i64 a0_0) := (blk_cell BK127.out 0).trans rfl; have hcz82_1 : w79.cell? ⟨gb127, 1, none⟩ = some (.slice A0_1 l0_1.length c0_1) := (blk_cell BK127.out 1).trans rfl; have hfz82_0 := blk_frozen BK127.out 0; have hfz82_1 := blk_frozen BK127.out 1) | ((with_reducible refine gate_callee (f := 83) rfl ?_); refine goesL_ (some 12) rfl rfl Try.func83 (by kernel_rfl) rfl #[.agg #[.int .i64 a0_0, .slice A0_1 l0_1.length c0_1]] rfl zq12 ?_; (with_reducible refine (spec_NetOk.calls k a0_0 _ _ l0_1 false _ ?side1 ?side2 A4.out).mono ?_); (case side1 => exact zq17); (case side2 => exact zq18); rintro e w83 ⟨rfl, hb⟩; refine ⟨_, rfl, ?_⟩; have n0_ := Aside0.mk (blk_below (g := gb127) (o := .cells #[.int .i64 a0_0, .slice A0_1 l0_1.length c0_1] 57 (0, 0)) zq87 hb); have n1_ := Aside0.mk (blk_below (g := gb128) (o := .cells #[.int .i64 0, .slice none 0 0] 57 (0, 0)) zq89 hb); have n2_ := Aside0.mk (blk_below (g := gb129) (o := .cells #[.int .i64 0, .int .i64 0, .int .i64 0, .string (⟨#[]⟩ : ByteArray)] 59 (0, 0)) zq91 hb); have n3_ := Aside0.mk (below_step zq92 hb); clear BK127; clear BK128; clear BK129; clear HB; have BK127 := n0_; have BK128 := n1_; have BK129 := n2_; have HB := n3_; clear n0_ n1_ n2_ n3_; (try clear hb); (try clear hb2); (try clear hk); (try clear hi); have hnb84 := NB128_129.out; have hnc84 := NB129_128.out; have hcz85_0 : w83.cell? ⟨gb128, 0, none⟩ = some (.int .i64 0) := (blk_cell BK128.out 0).trans rfl; have hcz85_1 : w83.cell? ⟨gb128, 1, none⟩ = some (.slice none 0 0) := (blk_cell BK128.out 1).trans rfl; have hfz85_0 := blk_frozen BK128.out 0; have hfz85_1 := blk_frozen BK128.out 1; have hcz86_0 : w83.cell? ⟨gb129, 0, none⟩ = some (.int .i64 0) := (blk_cell BK129.out 0).trans rfl; have hcz86_1 : w83.cell? ⟨gb129, 1, none⟩ = some (.int .i64 0) := (blk_cell BK129.out 1).trans rfl; have hcz86_2 : w83.cell? ⟨gb129, 2, none⟩ = some (.int .i64 0) := (blk_cell BK129.out 2).trans rfl; have hcz86_3 : w83.cell? ⟨gb129, 3, none⟩ = some (.string (⟨#[]⟩ : ByteArray)) := (blk_cell BK129.out 3).trans rfl; have hfz86_0 := blk_frozen BK129.out 0; have hfz86_1 := blk_frozen BK129.out 1; have hfz86_2 := blk_frozen BK129.out 2; have hfz86_3 := blk_frozen BK129.out 3))
  refine bodyPost_ret (results_list (rs := [.cell 6 57, .cell 7 59, .tmp 8]) rfl (by simp) (.cell gb128 57 #[.int .i64 0, .slice none 0 0] (0, 0) _ rfl (by (with_reducible repeat (first | refine blk_drewN ?_ _ | refine blk_drew ?_ | refine blk_alloc ?_ _)); refine blk_far ?_ NB128_129.out _; (with_reducible repeat (first | refine blk_drewN ?_ _ | refine blk_drew ?_ | refine blk_alloc ?_ _)); refine blk_far ?_ NB128_129.out _; (with_reducible repeat (first | refine blk_drewN ?_ _ | refine blk_drew ?_ | refine blk_alloc ?_ _)); refine blk_far ?_ NB128_129.out _; (with_reducible repeat (first | refine blk_drewN ?_ _ | refine blk_drew ?_ | refine blk_alloc ?_ _)); refine blk_far ?_ NB128_129.out _; (with_reducible repeat (first | refine blk_drewN ?_ _ | refine blk_drew ?_ | refine blk_alloc ?_ _)); refine blk_put (cs := #[.int .i64 0, .slice none 0 0]) ?_ 1 _ rfl; (with_reducible repeat (first | refine blk_drewN ?_ _ | refine blk_drew ?_ | refine blk_alloc ?_ _)); refine blk_put (cs := #[.int .i64 0, .slice none 0 0]) ?_ 0 _ rfl; (with_reducible repeat (first | refine blk_drewN ?_ _ | refine blk_drew ?_ | refine blk_alloc ?_ _)); exact BK128.out) Try.underlying57 rfl (by kernel_rfl) (.cell gb129 59 #[.int .i64 0, .int .i64 0, .int .i64 0, .string (⟨#[]⟩ : ByteArray)] (0, 0) _ rfl (by (with_reducible repeat (first | refine blk_drewN ?_ _ | refine blk_drew ?_ | refine blk_alloc ?_ _)); refine blk_put (cs := #[.int .i64 0, .int .i64 0, .int .i64 0, .string (⟨#[]⟩ : ByteArray)]) ?_ 3 _ rfl; (with_reducible repeat (first | refine blk_drewN ?_ _ | refine blk_drew ?_ | refine blk_alloc ?_ _)); refine blk_put (cs := #[.int .i64 0, .int .i64 0, .int .i64 0, .string (⟨#[]⟩ : ByteArray)]) ?_ 2 _ rfl; (with_reducible repeat (first | refine blk_drewN ?_ _ | refine blk_drew ?_ | refine blk_alloc ?_ _)); refine blk_put (cs := #[.int .i64 0, .int .i64 0, .int .i64 0, .string (⟨#[]⟩ : ByteArray)]) ?_ 1 _ rfl; (with_reducible repeat (first | refine blk_drewN ?_ _ | refine blk_drew ?_ | refine blk_alloc ?_ _)); refine blk_put (cs := #[.int .i64 0, .int .i64 0, .int .i64 0, .string (⟨#[]⟩ : ByteArray)]) ?_ 0 _ rfl; (with_reducible repeat (first | refine blk_drewN ?_ _ | refine blk_drew ?_ | refine blk_alloc ?_ _)); refine blk_far ?_ NB129_128.out _; (with_reducible repeat (first | refine blk_drewN ?_ _ | refine blk_drew ?_ | refine blk_alloc ?_ _)); refine blk_far ?_ NB129_128.out _; (with_reducible repeat (first | refine blk_drewN ?_ _ | refine blk_drew ?_ | refine blk_alloc ?_ _)); exact BK129.out) Try.underlying59 rfl (by kernel_rfl) (.tmp .nil)))) rfl ?_
  exact ⟨_, zq8, zq21, zq92⟩

end Go.Proofs.Ytjcejdajbapliaa.QFnCut
