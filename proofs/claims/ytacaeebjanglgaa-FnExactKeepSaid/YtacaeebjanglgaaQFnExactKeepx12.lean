/- Written by wip/myprint.py of this repo (the kit's print, with additions of this session). -/
import Derived.Test.YtacaeebjanglgaaQFnExactKeepx8
import Derived.Test.YtacaeebjanglgaaQFnExactKeepx11
set_option maxRecDepth 100000
namespace Go.Proofs.Ytacaeebjanglgaa.QFnExactKeep
open Go.RowKit Go.Proofs.YtacaeebjanglgaaW.PrintWords Go.Proofs.YtacaeebjanglgaaW.PrintLast Go.Proofs.YtacaeebjanglgaaW.PrintMore
attribute [local go_sem] max2_int min2_int max_two min_two max_three min_three max_four min_four
set_option linter.unusedVariables false
set_option linter.unusedSimpArgs false
mutual
def spec_l6Keep.j0 : Nat → ByteArray → Int → Int → Int → List (S66) → List (S68) → Int → Int → List (S66) → List (S68) → Int → Option (Int × (List (S66)) × (List (S68)) × Int × Int)
 | 0, _, _, _, _, _, _, _, _, _, _, _ => none
 | k + 1, x1, x7, x8, x381000, x381001, x381002, x381003, x393000, x393001, x393002, x393003 => if x8 = 0 then ((spec_Digest.f k x1).bind fun t402 => ((spec_l6Finish.f k x393000 x393001 x393002 x393003 x7 t402).bind fun bt403 => (spec_l6Keep.j1 k bt403.2.2.2.2 x381000 x381001 x381002 x381003 bt403.1 bt403.2.1 bt403.2.2.1 bt403.2.2.2.1))) else (spec_l6Keep.j1 k x8 x381000 x381001 x381002 x381003 x393000 x393001 x393002 x393003)
def spec_l6Keep.j1 : Nat → Int → Int → List (S66) → List (S68) → Int → Int → List (S66) → List (S68) → Int → Option (Int × (List (S66)) × (List (S68)) × Int × Int)
 | 0, _, _, _, _, _, _, _, _, _ => none
 | k + 1, x8, x381000, x381001, x381002, x381003, x393000, x393001, x393002, x393003 => if x8 = 0 then (some (x393000, x393001, x393002, x393003, 0)) else ((spec_l6Copy.f x381000 x381001 x381002 x381003).bind fun bt412 => (some (bt412.1, bt412.2.1, bt412.2.2.1, bt412.2.2.2, x8)))
end
def spec_l6Keep.f (k : Nat) (a0_0 : Int) (l0_1 : List (S66)) (l0_2 : List (S68)) (a0_3 : Int) (a1 : ByteArray) : Option (Int × (List (S66)) × (List (S68)) × Int × Int) := (spec_l6Begin.f a0_0 l0_1 l0_2 a0_3).bind fun bt382 => (if bt382.2.2.2.2.2 = 0 then ((spec_l6Chunk.f k bt382.1 bt382.2.1 bt382.2.2.1 bt382.2.2.2.1 bt382.2.2.2.2.1 0 a1).bind fun bt393 => (spec_l6Keep.j0 k a1 bt382.2.2.2.2.1 bt393.2.2.2.2 a0_0 l0_1 l0_2 a0_3 bt393.1 bt393.2.1 bt393.2.2.1 bt393.2.2.2.1)) else (spec_l6Keep.j0 k a1 bt382.2.2.2.2.1 bt382.2.2.2.2.2 a0_0 l0_1 l0_2 a0_3 bt382.1 bt382.2.1 bt382.2.2.1 bt382.2.2.2.1))
theorem spec_l6Keep.mono_l : ∀ k, (∀ y0 y1 y2 y3 y4 y5 y6 y7 y8 y9 y10, LeO (spec_l6Keep.j0 k y0 y1 y2 y3 y4 y5 y6 y7 y8 y9 y10) (spec_l6Keep.j0 (k + 1) y0 y1 y2 y3 y4 y5 y6 y7 y8 y9 y10)) ∧ (∀ y0 y1 y2 y3 y4 y5 y6 y7 y8, LeO (spec_l6Keep.j1 k y0 y1 y2 y3 y4 y5 y6 y7 y8) (spec_l6Keep.j1 (k + 1) y0 y1 y2 y3 y4 y5 y6 y7 y8))
 | 0 => ⟨fun _ _ _ _ _ _ _ _ _ _ _ r h => by simp [spec_l6Keep.j0] at h, fun _ _ _ _ _ _ _ _ _ r h => by simp [spec_l6Keep.j1] at h⟩
 | k + 1 => by
  obtain ⟨ih0, ih1⟩ := spec_l6Keep.mono_l k; refine ⟨?_, ?_⟩
  ·
   intro y0 y1 y2 y3 y4 y5 y6 y7 y8 y9 y10; unfold spec_l6Keep.j0
   repeat' first
   | (with_reducible apply ih0)
   | (with_reducible apply ih1)
   | (with_reducible apply spec_Digest.mono)
   | (with_reducible apply spec_l6Chunk.mono)
   | (with_reducible apply spec_l6Finish.mono)
   | (with_reducible exact LeO.refl _)
   | (with_reducible exact LeO.none _)
   | (with_reducible refine LeO.ite ?_ ?_)
   | (with_reducible refine LeO.bind ?_ (fun _ => ?_))
   | exact LeO.none _
   | refine LeO.ite ?_ ?_
   | refine LeO.bind ?_ (fun _ => ?_)
  intro y0 y1 y2 y3 y4 y5 y6 y7 y8; unfold spec_l6Keep.j1
  repeat' first
  | (with_reducible apply ih0)
  | (with_reducible apply ih1)
  | (with_reducible apply spec_Digest.mono)
  | (with_reducible apply spec_l6Chunk.mono)
  | (with_reducible apply spec_l6Finish.mono)
  | (with_reducible exact LeO.refl _)
  | (with_reducible exact LeO.none _)
  | (with_reducible refine LeO.ite ?_ ?_)
  | (with_reducible refine LeO.bind ?_ (fun _ => ?_))
  | exact LeO.none _
  | refine LeO.ite ?_ ?_
  | refine LeO.bind ?_ (fun _ => ?_)
theorem spec_l6Keep.mono : ∀ a0 a1 a2 a3 a4 k, LeO (spec_l6Keep.f k a0 a1 a2 a3 a4) (spec_l6Keep.f (k + 1) a0 a1 a2 a3 a4) := by
 intro a0 a1 a2 a3 a4 k; obtain ⟨ih0, ih1⟩ := spec_l6Keep.mono_l k; unfold spec_l6Keep.f
 repeat' first
   | (with_reducible apply ih0)
   | (with_reducible apply ih1)
   | (with_reducible apply spec_Digest.mono)
   | (with_reducible apply spec_l6Chunk.mono)
   | (with_reducible apply spec_l6Finish.mono)
   | (with_reducible exact LeO.refl _)
   | (with_reducible exact LeO.none _)
   | (with_reducible refine LeO.ite ?_ ?_)
   | (with_reducible refine LeO.bind ?_ (fun _ => ?_))
   | exact LeO.none _
   | refine LeO.ite ?_ ?_
   | refine LeO.bind ?_ (fun _ => ?_)
def spec_l6Keep.T5 : Bool × List (List Nat × List Nat) := (true, [([], []), ([], []), ([], []), ([2], [2]), ([0, 1, 3, 3], [0, 1, 3]), ([4], [4]), ([5], [5]), ([5], [5]), ([6, 4, 0, 1, 2, 3, 4, 5, 6], [6]), ([7, 8, 0, 1, 2, 3, 4, 5, 6, 7, 8], [7])])
def spec_l6Keep.B5 : List Nat := [0, 0, 0, 4, 15, 31, 63, 63, 127, 511]
theorem spec_l6Keep.tab5 : rtab .any (opsOf Try.f77 5) = spec_l6Keep.T5 := by kernel_rfl
theorem spec_l6Keep.bits5 : waitsOk spec_l6Keep.T5.2 spec_l6Keep.B5 = true := by kernel_rfl
set_option maxHeartbeats 8000000 in
set_option maxRecDepth 100000 in
theorem spec_l6Keep.calls (k : Nat) (a0_0 : Int) (A0_1 : Option Addr) (c0_1 : Nat) (l0_1 : List (S66)) (A0_2 : Option Addr) (c0_2 : Nat) (l0_2 : List (S68)) (a0_3 : Int) (a1 : ByteArray) (r1 : Int) (r2 : List (S66)) (r3 : List (S68)) (r4 : Int) (r5 : Int) (w : World) (hr0_1 : Kd.C k66 w A0_1 l0_1.length l0_1) (hc0_1 : l0_1.length ≤ c0_1) (hr0_2 : Kd.C k68 w A0_2 l0_2.length l0_2) (hc0_2 : l0_2.length ≤ c0_2) (h : spec_l6Keep.f k a0_0 l0_1 l0_2 a0_3 a1 = some (r1, r2, r3, r4, r5)) :
  Calls Try.prog 77 #[.agg #[.int .i64 a0_0, .slice A0_1 l0_1.length c0_1, .slice A0_2 l0_2.length c0_2, .int .i64 a0_3], .string a1] w fun e w' => ∃ v1_ v2_ : Value, e = .returned (.tuple #[.agg #[.int .i64 r1, v1_, v2_, .int .i64 r4], .int .i64 r5]) ∧ Kd.R k66 66 w' w.heap.size (fun _ => True) v1_ r2 ∧ Kd.R k68 68 w' w.heap.size (fun _ => True) v2_ r3 ∧ Below w.heap.size w w' := by
 have hu31 := Try.underlying31; have HR0_1 := aM hr0_1; have HC0_1 := aM hc0_1; clear hr0_1 hc0_1; have HR0_2 := aM hr0_2; have HC0_2 := aM hc0_2; clear hr0_2 hc0_2; have HB := aM (Below.refl w.heap.size w); unfold spec_l6Keep.f at h; have H := h; clear h; replace H := Option.bind_eq_some_iff.mp H; obtain ⟨⟨t382, t383, t386, t389, t390, t391⟩, A30, H⟩ := H; (try dsimp only at H); have A3 := aM A30; clear A30; have HC4 := aM H; clear H; go_enter Try.func77, Try.ntmps77
 go_upto_if 16 with (first | ((with_reducible refine gD 2 rfl ?_); refine bE 2 #[.int .i64 a0_0, .slice A0_1 l0_1.length c0_1, .slice A0_2 l0_2.length c0_2, .int .i64 a0_3] 31 ?_; intro gb380 hg w5 hbox hb; have BK380 := aM hbox; have GW380 := aM (zq316 : w.heap.size ≤ gb380); have GE380 := GW380; replace HB := sB zq3 hb; clear hb hbox hg) | ((with_reducible refine gD 4 rfl ?_); refine bE 4 #[.int .i64 0, .slice none 0 0, .slice none 0 0, .int .i64 0] 31 ?_; intro gb381 hg w6 hbox hb; have BK381 := aM hbox; have GW381 := aM (by rw [hg]; exact (below_size zq69) : w.heap.size ≤ gb381); have GE381 := GW381; replace HB := sB zq69 hb; have NB380_381 := aM (zq344 : gb380 ≠ gb381); have NB381_380 := aM (zq345 : gb381 ≠ gb380); replace BK380 := bG BK380 hb; clear hb hbox hg; have hnb7 := NB380_381.out; have hnc7 := NB381_380.out; obtain ⟨hcz8_0, hcz8_1, hcz8_2, hcz8_3, hfz8_0, hfz8_1, hfz8_2, hfz8_3⟩ := cells4_ (w := w6) BK380) | ((with_reducible refine gC 64 rfl ?_); refine gL 11 Try.func64 #[.agg #[.int .i64 a0_0, .slice A0_1 l0_1.length c0_1, .slice A0_2 l0_2.length c0_2, .int .i64 a0_3]] ?_; (with_reducible refine (spec_l6Begin.calls a0_0 _ _ l0_1 _ _ l0_2 a0_3 t382 t383 t386 t389 t390 t391 _ ?_ ?_ ?_ ?_ A3.out).mono ?_); exact zq11; exact zq12; exact zq15; exact zq16; rintro e w9 ⟨v384, v387, rfl, ho0, ho1, hb⟩; refine ⟨_, rfl, ?_⟩; have HO385 := aM (Kd.R_lower ho0 (below_size zq70)); have HO388 := aM (Kd.R_lower ho1 (below_size zq70)); replace BK380 := bG BK380 hb; replace BK381 := bG BK381 hb; replace HB := sB zq70 hb; clear hb; (try clear ho0); (try clear ho1)) | ((with_reducible refine gD 6 rfl ?_); refine bE 6 #[.int .i64 0, .slice none 0 0, .slice none 0 0, .int .i64 0] 31 ?_; intro gb392 hg w10 hbox hb; replace HO385 := rB (by refine dR ?_; exact HO385.out) hb; replace HO388 := rB (by refine dR ?_; exact HO388.out) hb; have BK392 := aM hbox; have GW392 := aM (by rw [hg]; exact (below_size zq70) : w.heap.size ≤ gb392); have GE392 := GW392; replace HB := sB zq70 hb; have NB380_392 := aM (zq344 : gb380 ≠ gb392); have NB392_380 := aM (zq345 : gb392 ≠ gb380); replace BK380 := bG BK380 hb; have NB381_392 := aM (by rw [hg]; exact Nat.ne_of_lt (blk_lt (g := gb381) (o := .cells #[.int .i64 0, .slice none 0 0, .slice none 0 0, .int .i64 0] 31 (0, 0)) zq71) : gb381 ≠ gb392); have NB392_381 := aM (by rw [hg]; exact Nat.ne_of_gt (blk_lt (g := gb381) (o := .cells #[.int .i64 0, .slice none 0 0, .slice none 0 0, .int .i64 0] 31 (0, 0)) zq71) : gb392 ≠ gb381); replace BK381 := bG BK381 hb; clear hb hbox hg; have hnb11 := NB392_380.out; have hnc11 := NB380_392.out; have hnb12 := NB392_381.out; have hnc12 := NB381_392.out; obtain ⟨hcz13_0, hcz13_1, hcz13_2, hcz13_3, hfz13_0, hfz13_1, hfz13_2, hfz13_3⟩ := cells4_ (w := w10) BK392; obtain ⟨Ao14, co14, eo14⟩ := Kd.R_slice HO385.out; subst eo14; obtain ⟨Ao15, co15, eo15⟩ := Kd.R_slice HO388.out; subst eo15))
 (try simp only [Act.put, List.setIfInBounds_toArray, List.set_cons_zero, List.set_cons_succ])
 go_cut [8] (fun v8 wc => ∃ (kq : Nat) (x8_3 : Int) (x393000_3 : Int) (x393001_3 : List (S66)) (x393002_3 : List (S68)) (x393003_3 : Int) (u393001 : Value) (u393002 : Value), v8 = .int .i64 x8_3 ∧ Aside0 (spec_l6Keep.j0 kq a1 t390 x8_3 a0_0 l0_1 l0_2 a0_3 x393000_3 x393001_3 x393002_3 x393003_3 = some (r1, r2, r3, r4, r5)) ∧ Aside0 (kq ≤ k) ∧ Aside0 (Kd.R k66 66 wc w.heap.size (fun _ => True) u393001 x393001_3) ∧ Aside0 (Kd.R k68 68 wc w.heap.size (fun _ => True) u393002 x393002_3) ∧ Aside0 (wc.heap[gb380]? = some (.cells #[.int .i64 a0_0, (.slice A0_1 l0_1.length c0_1), (.slice A0_2 l0_2.length c0_2), .int .i64 a0_3] 31 (0, 0))) ∧ Aside0 (wc.heap[gb381]? = some (.cells #[.int .i64 0, (.slice none 0 0), (.slice none 0 0), .int .i64 0] 31 (0, 0))) ∧ Aside0 (wc.heap[gb392]? = some (.cells #[.int .i64 x393000_3, u393001, u393002, .int .i64 x393003_3] 31 (0, 0))) ∧ Aside0 (Below w.heap.size w wc))
 case first =>
  have H := HC4.out; clear HC4; by_cases c16 : t391 = 0
  ·
   rw [if_pos c16] at H; have c16b0 : (t391 == 0) = true := beq_iff_eq.mpr c16; have c16b1 : (t391 != 0) = false := bne_eq_false_iff_eq.mpr c16; clear c16
   (first | rw [c16b0] | (simp only [i64_w, i32_w]; rw [c16b0]) | skip)
   replace H := Option.bind_eq_some_iff.mp H; obtain ⟨⟨t393, t394, t397, t400, t401⟩, A170, H⟩ := H; (try dsimp only at H); have A17 := aM A170; clear A170; have H' := aM H; clear H; have hnb18 := NB392_380.out; have hnc18 := NB380_392.out; have hnb19 := NB392_381.out; have hnc19 := NB381_392.out; obtain ⟨hcz20_0, hcz20_1, hcz20_2, hcz20_3, hfz20_0, hfz20_1, hfz20_2, hfz20_3⟩ := cells4_ (w := w10) BK392
   go_wp2_with (first | ((with_reducible refine gC 72 rfl ?_); refine gL 21 Try.func72 #[.agg #[.int .i64 t382, .slice Ao14 t383.length co14, .slice Ao15 t386.length co15, .int .i64 t389], .int .i64 t390, .int .i64 0, .string a1] ?_; (with_reducible refine (spec_l6Chunk.calls k t382 _ _ t383 _ _ t386 t389 t390 0 a1 t393 t394 t397 t400 t401 _ ?side1 ?_ ?side3 ?_ A17.out).mono ?_); (case side1 => refine (Kd.R_reads' (e := 66) (base := w.heap.size) (ok := fun k_ => True) (n := t383.length) (c := co14) ?_).2.2; exact zq72); exact (Kd.R_reads' HO385.out).2.1; (case side3 => refine (Kd.R_reads' (e := 68) (base := w.heap.size) (ok := fun k_ => True) (n := t386.length) (c := co15) ?_).2.2; exact zq73); exact (Kd.R_reads' HO388.out).2.1; rintro e w21 ⟨v395, v398, rfl, ho0, ho1, hb⟩; refine ⟨_, rfl, ?_⟩; have HO396 := aM (Kd.R_lower (Kd.R_new' ho0 (Kd.R_lt zq72)) (below_size zq74)); replace HO385 := aM (Kd.R_elder' zq72 (Kd.R_base ho0) hb); have HO399 := aM (Kd.R_lower (Kd.R_new' ho1 (Kd.R_lt zq73)) (below_size zq74)); replace HO388 := aM (Kd.R_elder' zq73 (Kd.R_base ho1) hb); replace BK380 := bF BK380 zq75 hb; replace BK381 := bF BK381 zq76 hb; replace BK392 := bB (g := gb392) (o := .cells #[.int .i64 t382, .slice Ao14 t383.length co14, .slice Ao15 t386.length co15, .int .i64 t389] 31 (0, 0)) zq77 hb; replace HB := sB zq74 hb; clear hb; (try clear ho0); (try clear ho1); obtain ⟨hcz22_0, hcz22_1, hcz22_2, hcz22_3, hfz22_0, hfz22_1, hfz22_2, hfz22_3⟩ := cells4_ (w := w21) BK392; obtain ⟨Ao23, co23, eo23⟩ := Kd.R_slice HO396.out; subst eo23; obtain ⟨Ao24, co24, eo24⟩ := Kd.R_slice HO399.out; subst eo24))
   go_meet
   case rel => exact ⟨_, (t401), (t393), (t394), (t397), (t400), (.slice Ao23 t394.length co23), (.slice Ao24 t397.length co24), zq6, H', ⟨zq66⟩, ⟨by refine dR ?_; exact Kd.R_mono (far4 gb392 (Kd.R_types HO396.out BK392.out (by decide)) (fun _ hk => hk.2) (.int .i64 t393) (.slice Ao23 t394.length co23) (.slice Ao24 t397.length co24) (.int .i64 t400)) (fun _ hk => trivial)⟩, ⟨by refine dR ?_; exact Kd.R_mono (far4 gb392 (Kd.R_types HO399.out BK392.out (by decide)) (fun _ hk => hk.2) (.int .i64 t393) (.slice Ao23 t394.length co23) (.slice Ao24 t397.length co24) (.int .i64 t400)) (fun _ hk => trivial)⟩, ⟨zq75⟩, ⟨zq76⟩, ⟨by refine dW ?_; refine blk_put (cs := #[.int .i64 t393, .slice Ao23 t394.length co23, .slice Ao24 t397.length co24, .int .i64 t389]) ?_ 3 _ rfl; refine dW ?_; refine blk_put (cs := #[.int .i64 t393, .slice Ao23 t394.length co23, .slice Ao15 t386.length co15, .int .i64 t389]) ?_ 2 _ rfl; refine dW ?_; refine blk_put (cs := #[.int .i64 t393, .slice Ao14 t383.length co14, .slice Ao15 t386.length co15, .int .i64 t389]) ?_ 1 _ rfl; refine dW ?_; refine blk_put (cs := #[.int .i64 t382, .slice Ao14 t383.length co14, .slice Ao15 t386.length co15, .int .i64 t389]) ?_ 0 _ rfl; refine dW ?_; exact BK392.out⟩, ⟨zq74⟩⟩
  rw [if_neg c16] at H; have c16b0 : (t391 == 0) = false := beq_eq_false_iff_ne.mpr c16; have c16b1 : (t391 != 0) = true := bne_iff_ne.mpr c16
  (first | rw [c16b0] | (simp only [i64_w, i32_w]; rw [c16b0]) | skip)
  have H' := aM H; clear H; go_wp2
  go_meet
  case rel => exact ⟨_, (t391), (t382), (t383), (t386), (t389), (.slice Ao14 t383.length co14), (.slice Ao15 t386.length co15), zq6, H', ⟨zq66⟩, ⟨by refine dR ?_; exact Kd.R_mono (far4 gb392 (Kd.R_types HO385.out BK392.out (by decide)) (fun _ hk => hk.2) (.int .i64 t382) (.slice Ao14 t383.length co14) (.slice Ao15 t386.length co15) (.int .i64 t389)) (fun _ hk => trivial)⟩, ⟨by refine dR ?_; exact Kd.R_mono (far4 gb392 (Kd.R_types HO388.out BK392.out (by decide)) (fun _ hk => hk.2) (.int .i64 t382) (.slice Ao14 t383.length co14) (.slice Ao15 t386.length co15) (.int .i64 t389)) (fun _ hk => trivial)⟩, ⟨zq75⟩, ⟨zq76⟩, ⟨zq77⟩, ⟨zq74⟩⟩
 case rest =>
  clear HC4; (try clear c1); (try clear p2); (try clear c6); (try clear c7); (try clear c11); (try clear c12); (try clear c16); (try clear c16b0); (try clear c16b1); (try clear c18); (try clear c19); (try clear hcz13_0); (try clear hcz13_1); (try clear hcz13_2); (try clear hcz13_3); (try clear hcz20_0); (try clear hcz20_1); (try clear hcz20_2); (try clear hcz20_3); (try clear hcz22_0); (try clear hcz22_1); (try clear hcz22_2); (try clear hcz22_3); (try clear hcz8_0); (try clear hcz8_1); (try clear hcz8_2); (try clear hcz8_3); (try clear hfz13_0); (try clear hfz13_1); (try clear hfz13_2); (try clear hfz13_3); (try clear hfz20_0); (try clear hfz20_1); (try clear hfz20_2); (try clear hfz20_3); (try clear hfz22_0); (try clear hfz22_1); (try clear hfz22_2); (try clear hfz22_3); (try clear hfz8_0); (try clear hfz8_1); (try clear hfz8_2); (try clear hfz8_3); obtain ⟨kq, x8_3, x393000_3, x393001_3, x393002_3, x393003_3, u393001, u393002, rfl, HA, HJ3, HO_393001, HO_393002, BK380, BK381, BK392, HB⟩ := hcut
  cases kq with
  | zero => exact absurd HA.out (by simp [spec_l6Keep.j0])
  | succ kj3 =>
   have H := HA.out; clear HA; simp only [spec_l6Keep.j0] at H; have HC25 := aM H; clear H
   go_upto_if 25 with (fail)
   go_cut [8] (fun v8 wc => ∃ (kq : Nat) (x8_24 : Int) (x393000_24 : Int) (x393001_24 : List (S66)) (x393002_24 : List (S68)) (x393003_24 : Int) (u393001 : Value) (u393002 : Value), v8 = .int .i64 x8_24 ∧ Aside0 (spec_l6Keep.j1 kq x8_24 a0_0 l0_1 l0_2 a0_3 x393000_24 x393001_24 x393002_24 x393003_24 = some (r1, r2, r3, r4, r5)) ∧ Aside0 (kq ≤ kj3) ∧ Aside0 (Kd.R k66 66 wc w.heap.size (fun _ => True) u393001 x393001_24) ∧ Aside0 (Kd.R k68 68 wc w.heap.size (fun _ => True) u393002 x393002_24) ∧ Aside0 (wc.heap[gb380]? = some (.cells #[.int .i64 a0_0, (.slice A0_1 l0_1.length c0_1), (.slice A0_2 l0_2.length c0_2), .int .i64 a0_3] 31 (0, 0))) ∧ Aside0 (wc.heap[gb381]? = some (.cells #[.int .i64 0, (.slice none 0 0), (.slice none 0 0), .int .i64 0] 31 (0, 0))) ∧ Aside0 (wc.heap[gb392]? = some (.cells #[.int .i64 x393000_24, u393001, u393002, .int .i64 x393003_24] 31 (0, 0))) ∧ Aside0 (Below w.heap.size w wc))
   case first =>
    have H := HC25.out; clear HC25; by_cases c26 : x8_3 = 0
    ·
     rw [if_pos c26] at H; have c26b0 : (x8_3 == 0) = true := beq_iff_eq.mpr c26; have c26b1 : (x8_3 != 0) = false := bne_eq_false_iff_eq.mpr c26; clear c26
     (first | rw [c26b0] | (simp only [i64_w, i32_w]; rw [c26b0]) | skip)
     replace H := Option.bind_eq_some_iff.mp H; obtain ⟨t402, A270, H⟩ := H; (try dsimp only at H); have A27 := aM A270; clear A270; replace H := Option.bind_eq_some_iff.mp H; obtain ⟨⟨t403, t404, t407, t410, t411⟩, A280, H⟩ := H; (try dsimp only at H); have A28 := aM A280; clear A280; have H' := aM H; clear H
     try go_wp2
     replace HO_393001 := aM (Kd.R_drew HO_393001.out); replace HO_393002 := aM (Kd.R_drew HO_393002.out); replace BK380 := aM (blk_drew BK380.out); replace BK381 := aM (blk_drew BK381.out); replace BK392 := aM (blk_drew BK392.out); replace HB := aM (below_drew1 HB.out); refine start_ (n := 10) (S := fun w' => w'.cell? ⟨gb392, 0, none⟩ = some (.int .i64 x393000_3) ∧ w'.cell? ⟨gb392, 1, none⟩ = some (u393001) ∧ w'.cell? ⟨gb392, 2, none⟩ = some (u393002) ∧ w'.cell? ⟨gb392, 3, none⟩ = some (.int .i64 x393003_3)) (ds := [8]) (bA 10 0) (by kernel_rfl) rfl rfl ⟨(blk_cell BK392.out 0).trans rfl, (blk_cell BK392.out 1).trans rfl, (blk_cell BK392.out 2).trans rfl, (blk_cell BK392.out 3).trans rfl⟩ (fun hHeld => ?_); refine with_tabW spec_l6Keep.tab5 spec_l6Keep.bits5 (fun HT_ HW_ => ?_)
     generalize wc.drew = w29 at HO_393001 HO_393002 BK380 BK381 BK392 HB hHeld ⊢; refine pV 1 28 10 2 ?_; refine pV 2 29 10 6 ?_; refine tV 0 27 10 7 rfl zq391 ?_; refine oE 3 30 10 15 rfl (fun K hK => ?_); refine goes_ Try.func46 (by kernel_rfl) rfl #[.string a1] (by rfl) rfl rfl zq8 ?_
     with_reducible refine (spec_Digest.calls kj3 a1 t402 _ A27.out).mono ?_
     rintro e w30 ⟨rfl, hb⟩; refine ⟨_, rfl, ?_⟩; replace HO_393001 := rG HO_393001 hb; replace HO_393002 := rG HO_393002 hb; replace BK380 := bG BK380 hb; replace BK381 := bG BK381 hb; replace BK392 := bG BK392 hb; replace HB := sB zq74 hb; (try clear hb); (try clear hb2); (try clear hk); (try clear hi); obtain ⟨Ao31, co31, eo31⟩ := Kd.R_slice HO_393001.out
     (first | subst eo31 | (injection eo31 with f1_ f2_ f3_; have f4_ := f1_.symm; have f5_ := f3_.symm; clear f1_ f2_ f3_; subst f4_; subst f5_))
     obtain ⟨Ao32, co32, eo32⟩ := Kd.R_slice HO_393002.out
     (first | subst eo32 | (injection eo32 with f1_ f2_ f3_; have f4_ := f1_.symm; have f5_ := f3_.symm; clear f1_ f2_ f3_; subst f4_; subst f5_))
     refine hK.out _ _ ⟨(blk_cell BK392.out 0).trans rfl, (blk_cell BK392.out 1).trans rfl, (blk_cell BK392.out 2).trans rfl, (blk_cell BK392.out 3).trans rfl⟩ (fun hHeld => ?_); clear hK K; refine norm_ (a' := ?_) ?_ ?_; rotate_left
     ·
      show Act.put _ (some 30) _ = _
      simp only [Act.put, List.setIfInBounds_toArray, List.set_cons_zero, List.set_cons_succ, i64_w, i32_w]
      rfl
     refine oE 4 31 10 31 rfl (fun K hK => ?_); refine goes_ Try.func74 (by kernel_rfl) rfl #[.agg #[.int .i64 x393000_3, .slice Ao31 x393001_3.length co31, .slice Ao32 x393002_3.length co32, .int .i64 x393003_3], .int .i64 t390, .string t402] (by rfl) rfl rfl zq8 ?_
     with_reducible refine (spec_l6Finish.calls kj3 x393000_3 _ _ x393001_3 _ _ x393002_3 x393003_3 t390 t402 t403 t404 t407 t410 t411 _ ?side1 ?side2 ?side3 ?side4 A28.out).mono ?_
     (case side1 => repeat (first | exact (Kd.R_reads' HO_393001.out).2.2 | (with_reducible refine Kd.C_alloc ?_ _) | (with_reducible refine Kd.C_drewN ?_ _) | (with_reducible refine Kd.C_drew ?_)))
     (case side2 => exact (Kd.R_reads' HO_393001.out).2.1)
     (case side3 => repeat (first | exact (Kd.R_reads' HO_393002.out).2.2 | (with_reducible refine Kd.C_alloc ?_ _) | (with_reducible refine Kd.C_drewN ?_ _) | (with_reducible refine Kd.C_drew ?_)))
     (case side4 => exact (Kd.R_reads' HO_393002.out).2.1)
     rintro e w33 ⟨v405, v408, rfl, ho0, ho1, hb⟩; refine ⟨_, rfl, ?_⟩; have HO406 := aM (Kd.R_lower (Kd.R_new' ho0 (Kd.R_lt zq78)) (below_size zq74)); replace HO_393001 := aM (Kd.R_elder' zq78 (Kd.R_base ho0) hb); have HO409 := aM (Kd.R_lower (Kd.R_new' ho1 (Kd.R_lt zq79)) (below_size zq74)); replace HO_393002 := aM (Kd.R_elder' zq79 (Kd.R_base ho1) hb); replace BK380 := bG BK380 hb; replace BK381 := bG BK381 hb; replace BK392 := bG BK392 hb; replace HB := sB zq74 hb; (try clear hb); (try clear hb2); (try clear hk); (try clear hi); (try clear ho0); (try clear ho1); obtain ⟨Ao35, co35, eo35⟩ := Kd.R_slice HO406.out
     (first | subst eo35 | (injection eo35 with f1_ f2_ f3_; have f4_ := f1_.symm; have f5_ := f3_.symm; clear f1_ f2_ f3_; subst f4_; subst f5_))
     obtain ⟨Ao37, co37, eo37⟩ := Kd.R_slice HO409.out
     (first | subst eo37 | (injection eo37 with f1_ f2_ f3_; have f4_ := f1_.symm; have f5_ := f3_.symm; clear f1_ f2_ f3_; subst f4_; subst f5_))
     refine hK.out _ _ ⟨(blk_cell BK392.out 0).trans rfl, (blk_cell BK392.out 1).trans rfl, (blk_cell BK392.out 2).trans rfl, (blk_cell BK392.out 3).trans rfl⟩ (fun hHeld => ?_); clear hK K; refine norm_ (a' := ?_) ?_ ?_; rotate_left; exact zq392; refine pV 5 26 10 63 ?_; refine pV 6 32 10 127 ?_; refine pV 7 33 10 255 ?_; refine last_ (i := 8) (N := none) (bA 10 511) rfl rfl (one_of HT_.out (by kernel_rfl)) (by decide) (fun K hK => ?_); have hs34 : w33.cell? ⟨gb392, 0, none⟩ = some (.int .i64 x393000_3) := (blk_cell BK392.out 0).trans rfl; have hfs34 := blk_frozen BK392.out 0; have hns34_0 := NB380_392.out; have hns34_1 := NB381_392.out; have hms34_0 := NB392_380.out; have hms34_1 := NB392_381.out; have hs36 : w33.cell? ⟨gb392, 1, none⟩ = some (.slice Ao31 x393001_3.length co31) := (blk_cell BK392.out 1).trans rfl; have hfs36 := blk_frozen BK392.out 1; have hns36_0 := NB380_392.out; have hns36_1 := NB381_392.out; have hms36_0 := NB392_380.out; have hms36_1 := NB392_381.out; have hs38 : w33.cell? ⟨gb392, 2, none⟩ = some (.slice Ao32 x393002_3.length co32) := (blk_cell BK392.out 2).trans rfl; have hfs38 := blk_frozen BK392.out 2; have hns38_0 := NB380_392.out; have hns38_1 := NB381_392.out; have hms38_0 := NB392_380.out; have hms38_1 := NB392_381.out; have hs39 : w33.cell? ⟨gb392, 3, none⟩ = some (.int .i64 x393003_3) := (blk_cell BK392.out 3).trans rfl; have hfs39 := blk_frozen BK392.out 3; have hns39_0 := NB380_392.out; have hns39_1 := NB381_392.out
     have hms39_0 := NB392_380.out; have hms39_1 := NB392_381.out; refine skip_ (w1 := ?_) (by rfl) rfl ?_ ?_; rotate_left
     ·
      go_simp
      rfl
     refine hK.out _ _ ?_; clear hK K; refine pV 9 8 10 1023 ?_; refine dE ?_
     try go_wp2
     go_meet
     case rel => exact ⟨_, (t411), (t403), (t404), (t407), (t410), (.slice Ao35 t404.length co35), (.slice Ao37 t407.length co37), zq6, H', ⟨zq81⟩, ⟨by refine dR ?_; exact Kd.R_mono (far4 gb392 (Kd.R_types HO406.out BK392.out (by decide)) (fun _ hk => hk.2) (.int .i64 t403) (.slice Ao35 t404.length co35) (.slice Ao37 t407.length co37) (.int .i64 t410)) (fun _ hk => trivial)⟩, ⟨by refine dR ?_; exact Kd.R_mono (far4 gb392 (Kd.R_types HO409.out BK392.out (by decide)) (fun _ hk => hk.2) (.int .i64 t403) (.slice Ao35 t404.length co35) (.slice Ao37 t407.length co37) (.int .i64 t410)) (fun _ hk => trivial)⟩, ⟨zq75⟩, ⟨zq76⟩, ⟨by refine dW ?_; refine blk_put (cs := #[.int .i64 t403, .slice Ao35 t404.length co35, .slice Ao37 t407.length co37, .int .i64 x393003_3]) ?_ 3 _ rfl; refine dW ?_; refine blk_put (cs := #[.int .i64 t403, .slice Ao35 t404.length co35, .slice Ao32 x393002_3.length co32, .int .i64 x393003_3]) ?_ 2 _ rfl; refine dW ?_; refine blk_put (cs := #[.int .i64 t403, .slice Ao31 x393001_3.length co31, .slice Ao32 x393002_3.length co32, .int .i64 x393003_3]) ?_ 1 _ rfl; refine dW ?_; refine blk_put (cs := #[.int .i64 x393000_3, .slice Ao31 x393001_3.length co31, .slice Ao32 x393002_3.length co32, .int .i64 x393003_3]) ?_ 0 _ rfl; refine dW ?_; exact BK392.out⟩, ⟨zq74⟩⟩
    rw [if_neg c26] at H; have c26b0 : (x8_3 == 0) = false := beq_eq_false_iff_ne.mpr c26; have c26b1 : (x8_3 != 0) = true := bne_iff_ne.mpr c26
    (first | rw [c26b0] | (simp only [i64_w, i32_w]; rw [c26b0]) | skip)
    have H' := aM H; clear H; go_wp2
    go_meet
    case rel => exact ⟨_, (x8_3), (x393000_3), (x393001_3), (x393002_3), (x393003_3), (u393001), (u393002), zq6, H', ⟨zq81⟩, ⟨zq78⟩, ⟨zq79⟩, ⟨zq68⟩, ⟨zq71⟩, ⟨zq80⟩, ⟨zq74⟩⟩
   case rest =>
    clear HC25; (try clear c1); (try clear c2); (try clear p2); (try clear c4); (try clear c6); (try clear c7); (try clear c11); (try clear c12); (try clear c16); (try clear c16b0); (try clear c16b1); (try clear c18); (try clear c19); (try clear c26); (try clear c26b0); (try clear c26b1); (try clear hcz13_0); (try clear hcz13_1); (try clear hcz13_2); (try clear hcz13_3); (try clear hcz20_0); (try clear hcz20_1); (try clear hcz20_2); (try clear hcz20_3); (try clear hcz22_0); (try clear hcz22_1); (try clear hcz22_2); (try clear hcz22_3); (try clear hcz8_0); (try clear hcz8_1); (try clear hcz8_2); (try clear hcz8_3); (try clear hfz13_0); (try clear hfz13_1); (try clear hfz13_2); (try clear hfz13_3); (try clear hfz20_0); (try clear hfz20_1); (try clear hfz20_2); (try clear hfz20_3); (try clear hfz22_0); (try clear hfz22_1); (try clear hfz22_2); (try clear hfz22_3); (try clear hfz8_0); (try clear hfz8_1); (try clear hfz8_2); (try clear hfz8_3); (try clear p2); obtain ⟨kq, x8_24, x393000_24, x393001_24, x393002_24, x393003_24, u393001, u393002, rfl, HA, HJ24, HO_393001, HO_393002, BK380, BK381, BK392, HB⟩ := hcut
    cases kq with
    | zero => exact absurd HA.out (by simp [spec_l6Keep.j1])
    | succ kj24 =>
     have H := HA.out; clear HA; simp only [spec_l6Keep.j1] at H; by_cases c40 : x8_24 = 0
     ·
      rw [if_pos c40] at H; have c40b0 : (x8_24 == 0) = true := beq_iff_eq.mpr c40; have c40b1 : (x8_24 != 0) = false := bne_eq_false_iff_eq.mpr c40; clear c40; simp only [Option.some.injEq, Prod.mk.injEq] at H; obtain ⟨rfl, rfl, rfl, rfl, rfl⟩ := H; have hnb41 := NB392_380.out; have hnc41 := NB380_392.out; have hnb42 := NB392_381.out; have hnc42 := NB381_392.out; obtain ⟨hcz43_0, hcz43_1, hcz43_2, hcz43_3, hfz43_0, hfz43_1, hfz43_2, hfz43_3⟩ := cells4_ (w := wc) BK392; have hnb44 := NB381_380.out; have hnc44 := NB380_381.out; obtain ⟨hcz45_0, hcz45_1, hcz45_2, hcz45_3, hfz45_0, hfz45_1, hfz45_2, hfz45_3⟩ := cells4_ (w := wc) BK381; obtain ⟨Ao46, co46, eo46⟩ := Kd.R_slice HO_393001.out; subst eo46; obtain ⟨Ao47, co47, eo47⟩ := Kd.R_slice HO_393002.out; subst eo47; go_wp2
      refine bodyPost_ret (results_ct rfl _ _ gb381 31 #[.int .i64 x393000_24, .slice Ao46 x393001_24.length co46, .slice Ao47 x393002_24.length co47, .int .i64 x393003_24] (0, 0) _ rfl (by refine dW ?_; refine blk_put (cs := #[.int .i64 x393000_24, .slice Ao46 x393001_24.length co46, .slice Ao47 x393002_24.length co47, .int .i64 0]) ?_ 3 _ rfl; refine dW ?_; refine blk_put (cs := #[.int .i64 x393000_24, .slice Ao46 x393001_24.length co46, .slice none 0 0, .int .i64 0]) ?_ 2 _ rfl; refine dW ?_; refine blk_put (cs := #[.int .i64 x393000_24, .slice none 0 0, .slice none 0 0, .int .i64 0]) ?_ 1 _ rfl; refine dW ?_; refine blk_put (cs := #[.int .i64 0, .slice none 0 0, .slice none 0 0, .int .i64 0]) ?_ 0 _ rfl; refine dW ?_; exact BK381.out) Try.underlying31 rfl (by kernel_rfl)) rfl ?_
      exact ⟨_, _, zq4, by refine dR ?_; exact Kd.R_mono (far4 gb381 (Kd.R_types HO_393001.out BK381.out (by decide)) (fun _ hk => hk.2) (.int .i64 x393000_24) (.slice Ao46 x393001_24.length co46) (.slice Ao47 x393002_24.length co47) (.int .i64 x393003_24)) (fun _ hk => trivial), by refine dR ?_; exact Kd.R_mono (far4 gb381 (Kd.R_types HO_393002.out BK381.out (by decide)) (fun _ hk => hk.2) (.int .i64 x393000_24) (.slice Ao46 x393001_24.length co46) (.slice Ao47 x393002_24.length co47) (.int .i64 x393003_24)) (fun _ hk => trivial), zq74⟩
     rw [if_neg c40] at H; have c40b0 : (x8_24 == 0) = false := beq_eq_false_iff_ne.mpr c40; have c40b1 : (x8_24 != 0) = true := bne_iff_ne.mpr c40; replace H := Option.bind_eq_some_iff.mp H; obtain ⟨⟨t412, t413, t416, t419⟩, A480, H⟩ := H; (try dsimp only at H); have A48 := aM A480; clear A480; simp only [Option.some.injEq, Prod.mk.injEq] at H; obtain ⟨rfl, rfl, rfl, rfl, rfl⟩ := H; have hnb49 := NB380_381.out; have hnc49 := NB381_380.out; have hnb50 := NB380_392.out; have hnc50 := NB392_380.out; obtain ⟨hcz51_0, hcz51_1, hcz51_2, hcz51_3, hfz51_0, hfz51_1, hfz51_2, hfz51_3⟩ := cells4_ (w := wc) BK380
     go_wp2_with (first | ((with_reducible refine gC 68 rfl ?_); refine gL 37 Try.func68 #[.agg #[.int .i64 a0_0, .slice A0_1 l0_1.length c0_1, .slice A0_2 l0_2.length c0_2, .int .i64 a0_3]] ?_; (with_reducible refine (spec_l6Copy.calls a0_0 _ _ l0_1 _ _ l0_2 a0_3 t412 t413 t416 t419 _ ?_ ?_ ?_ ?_ A48.out).mono ?_); exact zq11; exact zq12; exact zq15; exact zq16; rintro e w52 ⟨v414, v417, rfl, ho0, ho1, hb⟩; refine ⟨_, rfl, ?_⟩; have HO415 := aM (Kd.R_lower (Kd.R_new' ho0 (Kd.R_lt zq78)) (below_size zq74)); replace HO_393001 := aM (Kd.R_elder' zq78 (Kd.R_base ho0) hb); have HO418 := aM (Kd.R_lower (Kd.R_new' ho1 (Kd.R_lt zq79)) (below_size zq74)); replace HO_393002 := aM (Kd.R_elder' zq79 (Kd.R_base ho1) hb); replace BK380 := bG BK380 hb; replace BK381 := bG BK381 hb; replace BK392 := bG BK392 hb; replace HB := sB zq74 hb; clear hb; (try clear ho0); (try clear ho1); have hnb53 := NB381_392.out; have hnc53 := NB392_381.out; obtain ⟨hcz54_0, hcz54_1, hcz54_2, hcz54_3, hfz54_0, hfz54_1, hfz54_2, hfz54_3⟩ := cells4_ (w := w52) BK381; obtain ⟨Ao55, co55, eo55⟩ := Kd.R_slice HO415.out; subst eo55; obtain ⟨Ao56, co56, eo56⟩ := Kd.R_slice HO418.out; subst eo56))
     refine bodyPost_ret (results_ct rfl _ _ gb381 31 #[.int .i64 t412, .slice Ao55 t413.length co55, .slice Ao56 t416.length co56, .int .i64 t419] (0, 0) _ rfl (by refine dW ?_; refine blk_put (cs := #[.int .i64 t412, .slice Ao55 t413.length co55, .slice Ao56 t416.length co56, .int .i64 0]) ?_ 3 _ rfl; refine dW ?_; refine blk_put (cs := #[.int .i64 t412, .slice Ao55 t413.length co55, .slice none 0 0, .int .i64 0]) ?_ 2 _ rfl; refine dW ?_; refine blk_put (cs := #[.int .i64 t412, .slice none 0 0, .slice none 0 0, .int .i64 0]) ?_ 1 _ rfl; refine dW ?_; refine blk_put (cs := #[.int .i64 0, .slice none 0 0, .slice none 0 0, .int .i64 0]) ?_ 0 _ rfl; refine dW ?_; exact BK381.out) Try.underlying31 rfl (by kernel_rfl)) rfl ?_
     exact ⟨_, _, zq4, by refine dR ?_; exact Kd.R_mono (far4 gb381 (Kd.R_types HO415.out BK381.out (by decide)) (fun _ hk => hk.2) (.int .i64 t412) (.slice Ao55 t413.length co55) (.slice Ao56 t416.length co56) (.int .i64 t419)) (fun _ hk => trivial), by refine dR ?_; exact Kd.R_mono (far4 gb381 (Kd.R_types HO418.out BK381.out (by decide)) (fun _ hk => hk.2) (.int .i64 t412) (.slice Ao55 t413.length co55) (.slice Ao56 t416.length co56) (.int .i64 t419)) (fun _ hk => trivial), zq74⟩
def spec_Keep.f (k : Nat) (a0_0 : Int) (l0_1 : List (S66)) (l0_2 : List (S68)) (a0_3 : Int) (a1 : ByteArray) : Option (Int × (List (S66)) × (List (S68)) × Int × Int) := (spec_StoreOk.f k a0_0 l0_1 l0_2 a0_3).bind fun t422 => (if t422 = true then ((spec_l6Keep.f k a0_0 l0_1 l0_2 a0_3 a1).bind fun bt423 => (some (bt423.1, bt423.2.1, bt423.2.2.1, bt423.2.2.2.1, bt423.2.2.2.2))) else (some (0, ([] : List (S66)), ([] : List (S68)), 0, 1)))
theorem spec_Keep.mono : ∀ a0 a1 a2 a3 a4 k, LeO (spec_Keep.f k a0 a1 a2 a3 a4) (spec_Keep.f (k + 1) a0 a1 a2 a3 a4) := by
 intro a0 a1 a2 a3 a4 k; unfold spec_Keep.f
 repeat' first
   | (with_reducible apply spec_StoreOk.mono)
   | (with_reducible apply spec_l6Keep.mono)
   | (with_reducible exact LeO.refl _)
   | (with_reducible exact LeO.none _)
   | (with_reducible refine LeO.ite ?_ ?_)
   | (with_reducible refine LeO.bind ?_ (fun _ => ?_))
   | exact LeO.none _
   | refine LeO.ite ?_ ?_
   | refine LeO.bind ?_ (fun _ => ?_)
set_option maxHeartbeats 8000000 in
set_option maxRecDepth 100000 in
theorem spec_Keep.calls (k : Nat) (a0_0 : Int) (A0_1 : Option Addr) (c0_1 : Nat) (l0_1 : List (S66)) (A0_2 : Option Addr) (c0_2 : Nat) (l0_2 : List (S68)) (a0_3 : Int) (a1 : ByteArray) (r1 : Int) (r2 : List (S66)) (r3 : List (S68)) (r4 : Int) (r5 : Int) (w : World) (hr0_1 : Kd.C k66 w A0_1 l0_1.length l0_1) (hc0_1 : l0_1.length ≤ c0_1) (hr0_2 : Kd.C k68 w A0_2 l0_2.length l0_2) (hc0_2 : l0_2.length ≤ c0_2) (h : spec_Keep.f k a0_0 l0_1 l0_2 a0_3 a1 = some (r1, r2, r3, r4, r5)) :
  Calls Try.prog 41 #[.agg #[.int .i64 a0_0, .slice A0_1 l0_1.length c0_1, .slice A0_2 l0_2.length c0_2, .int .i64 a0_3], .string a1] w fun e w' => ∃ v1_ v2_ : Value, e = .returned (.tuple #[.agg #[.int .i64 r1, v1_, v2_, .int .i64 r4], .int .i64 r5]) ∧ Kd.R k66 66 w' w.heap.size (fun _ => True) v1_ r2 ∧ Kd.R k68 68 w' w.heap.size (fun _ => True) v2_ r3 ∧ Below w.heap.size w w' := by
 have hu31 := Try.underlying31; have HR0_1 := aM hr0_1; have HC0_1 := aM hc0_1; clear hr0_1 hc0_1; have HR0_2 := aM hr0_2; have HC0_2 := aM hc0_2; clear hr0_2 hc0_2; have HB := aM (Below.refl w.heap.size w); unfold spec_Keep.f at h; have H := h; clear h; replace H := Option.bind_eq_some_iff.mp H; obtain ⟨t422, A30, H⟩ := H; (try dsimp only at H); have A3 := aM A30; clear A30; by_cases c4 : t422 = true
 ·
  subst c4; rw [if_pos rfl] at H; replace H := Option.bind_eq_some_iff.mp H; obtain ⟨⟨t423, t424, t427, t430, t431⟩, A50, H⟩ := H; (try dsimp only at H); have A5 := aM A50; clear A50; simp only [Option.some.injEq, Prod.mk.injEq] at H; obtain ⟨rfl, rfl, rfl, rfl, rfl⟩ := H; go_enter Try.func41, Try.ntmps41
  go_wp2_with (first | ((with_reducible refine gD 2 rfl ?_); refine bE 2 #[.int .i64 a0_0, .slice A0_1 l0_1.length c0_1, .slice A0_2 l0_2.length c0_2, .int .i64 a0_3] 31 ?_; intro gb420 hg w6 hbox hb; have BK420 := aM hbox; have GW420 := aM (zq316 : w.heap.size ≤ gb420); have GE420 := GW420; replace HB := sB zq3 hb; clear hb hbox hg) | ((with_reducible refine gD 4 rfl ?_); refine bE 4 #[.int .i64 0, .slice none 0 0, .slice none 0 0, .int .i64 0] 31 ?_; intro gb421 hg w7 hbox hb; have BK421 := aM hbox; have GW421 := aM (zq346 : w.heap.size ≤ gb421); have GE421 := GW421; replace HB := sB zq83 hb; have NB420_421 := aM (zq347 : gb420 ≠ gb421); have NB421_420 := aM (zq348 : gb421 ≠ gb420); replace BK420 := bG BK420 hb; clear hb hbox hg; have hnb8 := NB420_421.out; have hnc8 := NB421_420.out; obtain ⟨hcz9_0, hcz9_1, hcz9_2, hcz9_3, hfz9_0, hfz9_1, hfz9_2, hfz9_3⟩ := cells4_ (w := w7) BK420) | ((with_reducible refine gC 16 rfl ?_); refine gL 7 Try.func16 #[.agg #[.int .i64 a0_0, .slice A0_1 l0_1.length c0_1, .slice A0_2 l0_2.length c0_2, .int .i64 a0_3]] ?_; (with_reducible refine (spec_StoreOk.calls k a0_0 _ _ l0_1 _ _ l0_2 a0_3 true _ ?_ ?_ ?_ ?_ A3.out).mono ?_); exact zq11; exact zq12; exact zq15; exact zq16; rintro e w10 ⟨rfl, hb⟩; refine ⟨_, rfl, ?_⟩; replace BK420 := bG BK420 hb; replace BK421 := bG BK421 hb; replace HB := sB zq85 hb; clear hb; obtain ⟨hcz11_0, hcz11_1, hcz11_2, hcz11_3, hfz11_0, hfz11_1, hfz11_2, hfz11_3⟩ := cells4_ (w := w10) BK420) | ((with_reducible refine gC 77 rfl ?_); refine gL 12 Try.func77 #[.agg #[.int .i64 a0_0, .slice A0_1 l0_1.length c0_1, .slice A0_2 l0_2.length c0_2, .int .i64 a0_3], .string a1] ?_; (with_reducible refine (spec_l6Keep.calls k a0_0 _ _ l0_1 _ _ l0_2 a0_3 a1 t423 t424 t427 t430 t431 _ ?_ ?_ ?_ ?_ A5.out).mono ?_); exact zq11; exact zq12; exact zq15; exact zq16; rintro e w12 ⟨v425, v428, rfl, ho0, ho1, hb⟩; refine ⟨_, rfl, ?_⟩; have HO426 := aM (Kd.R_lower ho0 (below_size zq85)); have HO429 := aM (Kd.R_lower ho1 (below_size zq85)); replace BK420 := bG BK420 hb; replace BK421 := bG BK421 hb; replace HB := sB zq85 hb; clear hb; (try clear ho0); (try clear ho1); obtain ⟨hcz13_0, hcz13_1, hcz13_2, hcz13_3, hfz13_0, hfz13_1, hfz13_2, hfz13_3⟩ := cells4_ (w := w12) BK421; obtain ⟨Ao14, co14, eo14⟩ := Kd.R_slice HO426.out; subst eo14; obtain ⟨Ao15, co15, eo15⟩ := Kd.R_slice HO429.out; subst eo15))
  refine bodyPost_ret (results_ct rfl _ _ gb421 31 #[.int .i64 t423, .slice Ao14 t424.length co14, .slice Ao15 t427.length co15, .int .i64 t430] (0, 0) _ rfl (by refine dW ?_; refine blk_put (cs := #[.int .i64 t423, .slice Ao14 t424.length co14, .slice Ao15 t427.length co15, .int .i64 0]) ?_ 3 _ rfl; refine dW ?_; refine blk_put (cs := #[.int .i64 t423, .slice Ao14 t424.length co14, .slice none 0 0, .int .i64 0]) ?_ 2 _ rfl; refine dW ?_; refine blk_put (cs := #[.int .i64 t423, .slice none 0 0, .slice none 0 0, .int .i64 0]) ?_ 1 _ rfl; refine dW ?_; refine blk_put (cs := #[.int .i64 0, .slice none 0 0, .slice none 0 0, .int .i64 0]) ?_ 0 _ rfl; refine dW ?_; exact BK421.out) Try.underlying31 rfl (by kernel_rfl)) rfl ?_
  exact ⟨_, _, zq4, by refine dR ?_; exact Kd.R_mono (far4 gb421 (Kd.R_types HO426.out BK421.out (by decide)) (fun _ hk => hk.2) (.int .i64 t423) (.slice Ao14 t424.length co14) (.slice Ao15 t427.length co15) (.int .i64 t430)) (fun _ hk => trivial), by refine dR ?_; exact Kd.R_mono (far4 gb421 (Kd.R_types HO429.out BK421.out (by decide)) (fun _ hk => hk.2) (.int .i64 t423) (.slice Ao14 t424.length co14) (.slice Ao15 t427.length co15) (.int .i64 t430)) (fun _ hk => trivial), zq85⟩
 replace c4 := Bool.eq_false_iff.mpr c4; subst c4; rw [if_neg (show ¬ (false = true) by decide)] at H; simp only [Option.some.injEq, Prod.mk.injEq] at H; obtain ⟨rfl, rfl, rfl, rfl, rfl⟩ := H; go_enter Try.func41, Try.ntmps41
 go_wp2_with (first | ((with_reducible refine gD 2 rfl ?_); refine bE 2 #[.int .i64 a0_0, .slice A0_1 l0_1.length c0_1, .slice A0_2 l0_2.length c0_2, .int .i64 a0_3] 31 ?_; intro gb420 hg w16 hbox hb; have BK420 := aM hbox; have GW420 := aM (zq316 : w.heap.size ≤ gb420); have GE420 := GW420; replace HB := sB zq3 hb; clear hb hbox hg) | ((with_reducible refine gD 4 rfl ?_); refine bE 4 #[.int .i64 0, .slice none 0 0, .slice none 0 0, .int .i64 0] 31 ?_; intro gb421 hg w17 hbox hb; have BK421 := aM hbox; have GW421 := aM (zq346 : w.heap.size ≤ gb421); have GE421 := GW421; replace HB := sB zq83 hb; have NB420_421 := aM (zq347 : gb420 ≠ gb421); have NB421_420 := aM (zq348 : gb421 ≠ gb420); replace BK420 := bG BK420 hb; clear hb hbox hg; have hnb18 := NB420_421.out; have hnc18 := NB421_420.out; obtain ⟨hcz19_0, hcz19_1, hcz19_2, hcz19_3, hfz19_0, hfz19_1, hfz19_2, hfz19_3⟩ := cells4_ (w := w17) BK420) | ((with_reducible refine gC 16 rfl ?_); refine gL 7 Try.func16 #[.agg #[.int .i64 a0_0, .slice A0_1 l0_1.length c0_1, .slice A0_2 l0_2.length c0_2, .int .i64 a0_3]] ?_; (with_reducible refine (spec_StoreOk.calls k a0_0 _ _ l0_1 _ _ l0_2 a0_3 false _ ?_ ?_ ?_ ?_ A3.out).mono ?_); exact zq11; exact zq12; exact zq15; exact zq16; rintro e w20 ⟨rfl, hb⟩; refine ⟨_, rfl, ?_⟩; replace BK420 := bG BK420 hb; replace BK421 := bG BK421 hb; replace HB := sB zq85 hb; clear hb; obtain ⟨hcz21_0, hcz21_1, hcz21_2, hcz21_3, hfz21_0, hfz21_1, hfz21_2, hfz21_3⟩ := cells4_ (w := w20) BK421))
 refine bodyPost_ret (results_ct rfl _ _ gb421 31 #[.int .i64 0, .slice none 0 0, .slice none 0 0, .int .i64 0] (0, 0) _ rfl (by refine dW ?_; refine blk_put (cs := #[.int .i64 0, .slice none 0 0, .slice none 0 0, .int .i64 0]) ?_ 3 _ rfl; refine dW ?_; refine blk_put (cs := #[.int .i64 0, .slice none 0 0, .slice none 0 0, .int .i64 0]) ?_ 2 _ rfl; refine dW ?_; refine blk_put (cs := #[.int .i64 0, .slice none 0 0, .slice none 0 0, .int .i64 0]) ?_ 1 _ rfl; refine dW ?_; refine blk_put (cs := #[.int .i64 0, .slice none 0 0, .slice none 0 0, .int .i64 0]) ?_ 0 _ rfl; refine dW ?_; exact BK421.out) Try.underlying31 rfl (by kernel_rfl)) rfl ?_; exact ⟨_, _, zq4, zq86, zq86, zq85⟩
mutual
def impl_used.l0 : Nat → Int → List (S66) → Int → Int → Int → List (S66) → List (S68) → Int → Option (Int)
 | 0, _, _, _, _, _, _, _, _ => none
 | k + 1, x3, x9, x10, x11, x433000, x433001, x433002, x433003 => if x11 < x10 then (if 0 ≤ x11 then (if x11 < (x9.length : Int) then (impl_used.l0 k (wrap64 (x3 + (((rd_T66 x9 x11).f1).size : Int))) x9 x10 (wrap64 (x11 + 1)) x433000 x433001 x433002 x433003) else (none)) else (none)) else (impl_used.l1 k x3 x433002 (x433002.length : Int) 0)
def impl_used.l1 : Nat → Int → List (S68) → Int → Int → Option (Int)
 | 0, _, _, _, _ => none
 | k + 1, x3, x22, x23, x24 => if x24 < x23 then (if 0 ≤ x24 then (if x24 < (x22.length : Int) then (impl_used.l1 k (wrap64 (x3 + (((rd_T68 x22 x24).f1).size : Int))) x22 x23 (wrap64 (x24 + 1))) else (none)) else (none)) else (some x3)
end
def impl_used.f (k : Nat) (a0_0 : Int) (l0_1 : List (S66)) (l0_2 : List (S68)) (a0_3 : Int) : Option (Int) := impl_used.l0 k 0 l0_1 (l0_1.length : Int) 0 a0_0 l0_1 l0_2 a0_3
theorem impl_used.mono_l : ∀ k, (∀ y0 y1 y2 y3 y4 y5 y6 y7, LeO (impl_used.l0 k y0 y1 y2 y3 y4 y5 y6 y7) (impl_used.l0 (k + 1) y0 y1 y2 y3 y4 y5 y6 y7)) ∧ (∀ y0 y1 y2 y3, LeO (impl_used.l1 k y0 y1 y2 y3) (impl_used.l1 (k + 1) y0 y1 y2 y3))
 | 0 => ⟨fun _ _ _ _ _ _ _ _ r h => by simp [impl_used.l0] at h, fun _ _ _ _ r h => by simp [impl_used.l1] at h⟩
 | k + 1 => by
  obtain ⟨ih0, ih1⟩ := impl_used.mono_l k; refine ⟨?_, ?_⟩
  ·
   intro y0 y1 y2 y3 y4 y5 y6 y7; unfold impl_used.l0
   repeat' first
   | (with_reducible apply ih0)
   | (with_reducible apply ih1)
   | (with_reducible exact LeO.refl _)
   | (with_reducible exact LeO.none _)
   | (with_reducible refine LeO.ite ?_ ?_)
   | (with_reducible refine LeO.bind ?_ (fun _ => ?_))
   | exact LeO.none _
   | refine LeO.ite ?_ ?_
   | refine LeO.bind ?_ (fun _ => ?_)
  intro y0 y1 y2 y3; unfold impl_used.l1
  repeat' first
  | (with_reducible apply ih0)
  | (with_reducible apply ih1)
  | (with_reducible exact LeO.refl _)
  | (with_reducible exact LeO.none _)
  | (with_reducible refine LeO.ite ?_ ?_)
  | (with_reducible refine LeO.bind ?_ (fun _ => ?_))
  | exact LeO.none _
  | refine LeO.ite ?_ ?_
  | refine LeO.bind ?_ (fun _ => ?_)
theorem impl_used.mono : ∀ a0 a1 a2 a3 k, LeO (impl_used.f k a0 a1 a2 a3) (impl_used.f (k + 1) a0 a1 a2 a3) := by
 intro a0 a1 a2 a3 k; obtain ⟨ih0, ih1⟩ := impl_used.mono_l k; unfold impl_used.f
 repeat' first
   | (with_reducible apply ih0)
   | (with_reducible apply ih1)
   | (with_reducible exact LeO.refl _)
   | (with_reducible exact LeO.none _)
   | (with_reducible refine LeO.ite ?_ ?_)
   | (with_reducible refine LeO.bind ?_ (fun _ => ?_))
   | exact LeO.none _
   | refine LeO.ite ?_ ?_
   | refine LeO.bind ?_ (fun _ => ?_)
set_option maxHeartbeats 8000000 in
set_option maxRecDepth 100000 in
theorem impl_used.calls (k : Nat) (a0_0 : Int) (A0_1 : Option Addr) (c0_1 : Nat) (l0_1 : List (S66)) (A0_2 : Option Addr) (c0_2 : Nat) (l0_2 : List (S68)) (a0_3 : Int) (r : Int) (w : World) (hr0_1 : Kd.C k66 w A0_1 l0_1.length l0_1) (hc0_1 : l0_1.length ≤ c0_1) (hr0_2 : Kd.C k68 w A0_2 l0_2.length l0_2) (hc0_2 : l0_2.length ≤ c0_2) (h : impl_used.f k a0_0 l0_1 l0_2 a0_3 = some r) :
  Calls Try.prog 58 #[.agg #[.int .i64 a0_0, .slice A0_1 l0_1.length c0_1, .slice A0_2 l0_2.length c0_2, .int .i64 a0_3]] w fun e w' => e = .returned (.int .i64 r) ∧ Below w.heap.size w w' := by
 have hu31 := Try.underlying31; have hu66 := Try.underlying66; have hu68 := Try.underlying68; have HR0_1 := aM hr0_1; have HC0_1 := aM hc0_1; clear hr0_1 hc0_1; have HR0_2 := aM hr0_2; have HC0_2 := aM hc0_2; clear hr0_2 hc0_2; have HB := aM (Below.refl w.heap.size w); unfold impl_used.f at h; have H := h; clear h; have H' := aM H; clear H; go_enter Try.func58, Try.ntmps58
 go_wp2_with (first | ((with_reducible refine gD 1 rfl ?_); refine bE 1 #[.int .i64 a0_0, .slice A0_1 l0_1.length c0_1, .slice A0_2 l0_2.length c0_2, .int .i64 a0_3] 31 ?_; intro gb432 hg w2 hbox hb; have BK432 := aM hbox; have GW432 := aM (zq316 : w.heap.size ≤ gb432); have GE432 := GW432; replace HB := sB zq3 hb; clear hb hbox hg; obtain ⟨hcz3_0, hcz3_1, hcz3_2, hcz3_3, hfz3_0, hfz3_1, hfz3_2, hfz3_3⟩ := cells4_ (w := w2) BK432))
 go_loopg [3, 11] k (fun kq v3 v11 w' => ∃ (x3_1 : Int) (x11_1 : Int), v3 = .int .i64 x3_1 ∧ v11 = .int .i64 x11_1 ∧ Aside0 (impl_used.l0 kq x3_1 l0_1 (l0_1.length : Int) x11_1 a0_0 l0_1 l0_2 a0_3 = some r) ∧ Aside0 (kq ≤ k) ∧ Aside0 (w'.heap[gb432]? = some (.cells #[.int .i64 a0_0, (.slice A0_1 l0_1.length c0_1), (.slice A0_2 l0_2.length c0_2), .int .i64 a0_3] 31 (0, 0))) ∧ Aside0 (Below w.heap.size w w'))
 case atStart => exact ⟨(0), (0), zq6, zq6, H', ⟨Nat.le_refl _⟩, ⟨zq87⟩, ⟨zq88⟩⟩
 case round =>
  clear H'; (try clear p2); (try clear hcz3_0); (try clear hcz3_1); (try clear hcz3_2); (try clear hcz3_3); (try clear hfz3_0); (try clear hfz3_1); (try clear hfz3_2); (try clear hfz3_3); obtain ⟨x3_1, x11_1, rfl, rfl, HA, HK1, BK432, HB⟩ := hrel
  cases gk with
  | zero => exact absurd HA.out (by simp [impl_used.l0])
  | succ k1 =>
   have H := HA.out; clear HA; simp only [impl_used.l0] at H; by_cases c4 : x11_1 < (l0_1.length : Int)
   ·
    rw [if_pos c4] at H; have c4b0 := decide_eq_true c4; clear c4; by_cases c5 : 0 ≤ x11_1
    ·
     rw [if_pos c5] at H; have c5b0 := decide_eq_true c5; clear c5; by_cases c6 : x11_1 < (l0_1.length : Int)
     ·
      rw [if_pos c6] at H; have c6b0 := decide_eq_true c6; clear c6; have H' := aM H; clear H; have p433 : 0 ≤ (x11_1 : Int) := of_decide_eq_true zq7; have q433 : x11_1 < (l0_1.length : Int) := of_decide_eq_true zq7; obtain ⟨ad433, e433, hx433_0, hx433_1⟩ := at_T66 HR0_1.out x11_1 p433 q433; cases e433; replace hx433_0 := hxB HB hx433_0; replace hx433_1 := hxB HB hx433_1; replace p433 := eq_true p433; replace q433 := eq_true q433
      go_wp2_with (first | ((with_reducible refine gD 5 rfl ?_); refine bE 5 #[.string (⟨#[]⟩ : ByteArray), .string (⟨#[]⟩ : ByteArray)] 66 ?_; intro gb434 hg w7 hbox hb; have BK434 := aM hbox; have GW434 := aM (zq349 : w.heap.size ≤ gb434); have GE434 := GW434; replace HB := sB zq88 hb; have NB432_434 := aM (by rw [hg]; exact Nat.ne_of_lt (blk_lt (g := gb432) (o := .cells #[.int .i64 a0_0, .slice (some ad433) l0_1.length c0_1, .slice A0_2 l0_2.length c0_2, .int .i64 a0_3] 31 (0, 0)) zq87) : gb432 ≠ gb434); have NB434_432 := aM (by rw [hg]; exact Nat.ne_of_gt (blk_lt (g := gb432) (o := .cells #[.int .i64 a0_0, .slice (some ad433) l0_1.length c0_1, .slice A0_2 l0_2.length c0_2, .int .i64 a0_3] 31 (0, 0)) zq87) : gb434 ≠ gb432); replace BK432 := bG BK432 hb; clear hb hbox hg; have hnb8 := NB434_432.out; have hnc8 := NB432_434.out; obtain ⟨hcz9_0, hcz9_1, hfz9_0, hfz9_1⟩ := cells2_ (w := w7) BK434))
      go_roundg k1
      case measure => have := HK1.out; omega
      case rel => exact ⟨(wrap64 (x3_1 + (((rd_T66 l0_1 x11_1).f1).size : Int))), (wrap64 (x11_1 + 1)), zq6, zq6, H', ⟨zq9⟩, ⟨by refine dW ?_; refine blk_far ?_ NB432_434.out _; refine dW ?_; refine blk_far ?_ NB432_434.out _; refine dW ?_; exact BK432.out⟩, ⟨by repeat (first | (with_reducible first | exact HB.out | apply below_alloc | apply pw_below_drewN | apply below_drew1 | refine below_set ?_ GE432.out | refine below_set ?_ GE434.out) | exact HB.out)⟩⟩
     exact zq396
    exact zq384
   rw [if_neg c4] at H; have c4b0 := decide_eq_false c4; clear c4; have H' := aM H; clear H; obtain ⟨hcz10_0, hcz10_1, hcz10_2, hcz10_3, hfz10_0, hfz10_1, hfz10_2, hfz10_3⟩ := cells4_ (w := wr) BK432; go_wp2
   go_loopg [3, 24] k1 (fun kq v3 v24 w' => ∃ (x3_2 : Int) (x24_2 : Int), v3 = .int .i64 x3_2 ∧ v24 = .int .i64 x24_2 ∧ Aside0 (impl_used.l1 kq x3_2 l0_2 (l0_2.length : Int) x24_2 = some r) ∧ Aside0 (kq ≤ k1) ∧ Aside0 (w'.heap[gb432]? = some (.cells #[.int .i64 a0_0, (.slice A0_1 l0_1.length c0_1), (.slice A0_2 l0_2.length c0_2), .int .i64 a0_3] 31 (0, 0))) ∧ Aside0 (Below w.heap.size w w'))
   case atStart => exact ⟨(x3_1), (0), zq6, zq6, H', ⟨Nat.le_refl _⟩, ⟨zq87⟩, ⟨zq88⟩⟩
   case round =>
    clear H'; (try clear p2); (try clear c4); (try clear c4b0); (try clear p4); (try clear q4); (try clear hx4); (try clear c5); (try clear c5b0); (try clear c6); (try clear c6b0); (try clear p6); (try clear c8); (try clear hcz10_0); (try clear hcz10_1); (try clear hcz10_2); (try clear hcz10_3); (try clear hcz3_0); (try clear hcz3_1); (try clear hcz3_2); (try clear hcz3_3); (try clear hcz9_0); (try clear hcz9_1); (try clear hfz10_0); (try clear hfz10_1); (try clear hfz10_2); (try clear hfz10_3); (try clear hfz3_0); (try clear hfz3_1); (try clear hfz3_2); (try clear hfz3_3); (try clear hfz9_0); (try clear hfz9_1); (try clear hx433_0); (try clear hx433_1); (try clear p2); (try clear p433); (try clear q433); obtain ⟨x3_2, x24_2, rfl, rfl, HA, HK2, BK432, HB⟩ := hrel
    cases gk with
    | zero => exact absurd HA.out (by simp [impl_used.l1])
    | succ k2 =>
     have H := HA.out; clear HA; simp only [impl_used.l1] at H; by_cases c11 : x24_2 < (l0_2.length : Int)
     ·
      rw [if_pos c11] at H; have c11b0 := decide_eq_true c11; clear c11; by_cases c12 : 0 ≤ x24_2
      ·
       rw [if_pos c12] at H; have c12b0 := decide_eq_true c12; clear c12; by_cases c13 : x24_2 < (l0_2.length : Int)
       ·
        rw [if_pos c13] at H; have c13b0 := decide_eq_true c13; clear c13; have H' := aM H; clear H; have p435 : 0 ≤ (x24_2 : Int) := of_decide_eq_true zq7; have q435 : x24_2 < (l0_2.length : Int) := of_decide_eq_true zq7; obtain ⟨ad435, e435, hx435_0, hx435_1⟩ := at_T68 HR0_2.out x24_2 p435 q435; cases e435; replace hx435_0 := hxB HB hx435_0; replace hx435_1 := hxB HB hx435_1; replace p435 := eq_true p435; replace q435 := eq_true q435
        go_wp2_with (first | ((with_reducible refine gD 7 rfl ?_); refine bE 7 #[.int .i64 0, .string (⟨#[]⟩ : ByteArray)] 68 ?_; intro gb436 hg w14 hbox hb; have BK436 := aM hbox; have GW436 := aM (zq349 : w.heap.size ≤ gb436); have GE436 := GW436; replace HB := sB zq88 hb; have NB432_436 := aM (by rw [hg]; exact Nat.ne_of_lt (blk_lt (g := gb432) (o := .cells #[.int .i64 a0_0, .slice A0_1 l0_1.length c0_1, .slice (some ad435) l0_2.length c0_2, .int .i64 a0_3] 31 (0, 0)) zq87) : gb432 ≠ gb436); have NB436_432 := aM (by rw [hg]; exact Nat.ne_of_gt (blk_lt (g := gb432) (o := .cells #[.int .i64 a0_0, .slice A0_1 l0_1.length c0_1, .slice (some ad435) l0_2.length c0_2, .int .i64 a0_3] 31 (0, 0)) zq87) : gb436 ≠ gb432); replace BK432 := bG BK432 hb; clear hb hbox hg; have hnb15 := NB436_432.out; have hnc15 := NB432_436.out; obtain ⟨hcz16_0, hcz16_1, hfz16_0, hfz16_1⟩ := cells2_ (w := w14) BK436))
        go_roundg k2
        case measure => have := HK1.out; have := HK2.out; omega
        case rel => exact ⟨(wrap64 (x3_2 + (((rd_T68 l0_2 x24_2).f1).size : Int))), (wrap64 (x24_2 + 1)), zq6, zq6, H', ⟨zq89⟩, ⟨by refine dW ?_; refine blk_far ?_ NB432_436.out _; refine dW ?_; refine blk_far ?_ NB432_436.out _; refine dW ?_; exact BK432.out⟩, ⟨by repeat (first | (with_reducible first | exact HB.out | apply below_alloc | apply pw_below_drewN | apply below_drew1 | refine below_set ?_ GE432.out | refine below_set ?_ GE436.out) | exact HB.out)⟩⟩
       exact zq397
      rw [if_neg c12] at H; exact absurd H (by simp)
     rw [if_neg c11] at H; have c11b0 := decide_eq_false c11; clear c11; obtain rfl := Option.some.inj H; go_wp2; go_ret; exact ⟨zq4, zq88⟩
end Go.Proofs.Ytacaeebjanglgaa.QFnExactKeep
