/- Written by wip/myprint.py of this repo (the kit's print, with additions of this session). -/
import Derived.Test.YtldpdaifajjaeaaDoorQFnExactReadManifestx0
import Derived.Test.YtldpdaifajjaeaaDoorQFnExactReadManifestx1
set_option maxRecDepth 100000
namespace Go.Proofs.YtldpdaifajjaeaaDoor.QFnExactReadManifest
open Go.RowKit Go.Proofs.YtldpdaifajjaeaaDoorW.PrintWords Go.Proofs.YtldpdaifajjaeaaDoorW.PrintLast Go.Proofs.YtldpdaifajjaeaaDoorW.PrintMore
attribute [local go_sem] max2_int min2_int max_two min_two max_three min_three max_four min_four   -- for this text's walks alone
set_option linter.unusedVariables false
set_option linter.unusedSimpArgs false

/-! ### spec_ReadManifest: function 17 -/
mutual
def spec_ReadManifest.j0 : Nat → List ByteArray → Int → Bool → ByteArray → Option (ByteArray × List ByteArray × Int)
 | 0, _, _, _, _ => none
 | k + 1, x5, x6, x25, x118000 => if x25 = true then (some (x118000, ([] : List ByteArray), 1)) else (spec_ReadManifest.l0 k x5 x6 0 x118000 (⟨#[]⟩ : ByteArray) ([] : List ByteArray))
def spec_ReadManifest.l0 : Nat → List ByteArray → Int → Int → ByteArray → ByteArray → List ByteArray → Option (ByteArray × List ByteArray × Int)
 | 0, _, _, _, _, _, _ => none
 | k + 1, x5, x6, x8, x118000, x123000, x123001 => if x8 < x6 then (if x8 = 0 then (spec_ReadManifest.j2 k x5 x6 x8 (⟨#[99, 111, 110, 102, 105, 103, 32]⟩ : ByteArray) x118000 x123000 x123001) else (spec_ReadManifest.j2 k x5 x6 x8 (⟨#[108, 97, 121, 101, 114, 32]⟩ : ByteArray) x118000 x123000 x123001)) else ((spec_l3Manifest.f k x123000 x123001).bind fun t123 => (if t123 = true then (some (x123000, x123001, 0)) else (some (x118000, ([] : List ByteArray), 2))))
def spec_ReadManifest.j2 : Nat → List ByteArray → Int → Int → ByteArray → ByteArray → ByteArray → List ByteArray → Option (ByteArray × List ByteArray × Int)
 | 0, _, _, _, _, _, _, _ => none
 | k + 1, x5, x6, x8, x9, x118000, x123000, x123001 => if 0 ≤ x8 then (if x8 < (x5.length : Int) then (if ((rdOf ByteArray.empty x5 x8).size : Int) < (x9.size : Int) then (spec_ReadManifest.j3 k x5 x6 x8 (x9.size : Int) true x118000 x123000 x123001) else (if 0 ≤ (x9.size : Int) then (if (x9.size : Int) ≤ ((rdOf ByteArray.empty x5 x8).size : Int) then (if ((rdOf ByteArray.empty x5 x8).extract 0 ((x9.size : Int) : Int).toNat).toList = x9.toList then ((spec_DigestOk.f k ((rdOf ByteArray.empty x5 x8).extract ((x9.size : Int) : Int).toNat (rdOf ByteArray.empty x5 x8).size)).bind fun t127 => (spec_ReadManifest.j3 k x5 x6 x8 (x9.size : Int) (!t127) x118000 x123000 x123001)) else (spec_ReadManifest.j3 k x5 x6 x8 (x9.size : Int) true x118000 x123000 x123001)) else (none)) else (none))) else (none)) else (none)
def spec_ReadManifest.j3 : Nat → List ByteArray → Int → Int → Int → Bool → ByteArray → ByteArray → List ByteArray → Option (ByteArray × List ByteArray × Int)
 | 0, _, _, _, _, _, _, _, _ => none
 | k + 1, x5, x6, x8, x10, x63, x118000, x123000, x123001 => if x63 = true then (some (x118000, ([] : List ByteArray), 1)) else (if x8 = 0 then (if 0 ≤ x8 then (if x8 < (x5.length : Int) then (if 0 ≤ x10 then (if x10 ≤ ((rdOf ByteArray.empty x5 x8).size : Int) then (spec_ReadManifest.l0 k x5 x6 (wrap64 (x8 + 1)) x118000 ((rdOf ByteArray.empty x5 x8).extract (x10 : Int).toNat (rdOf ByteArray.empty x5 x8).size) x123001) else (none)) else (none)) else (none)) else (none)) else (if 0 ≤ x8 then (if x8 < (x5.length : Int) then (if 0 ≤ x10 then (if x10 ≤ ((rdOf ByteArray.empty x5 x8).size : Int) then (if x123001.length < 8796093022208 then (spec_ReadManifest.l0 k x5 x6 (wrap64 (x8 + 1)) x118000 x123000 (x123001 ++ [(rdOf ByteArray.empty x5 x8).extract (x10 : Int).toNat (rdOf ByteArray.empty x5 x8).size])) else (none)) else (none)) else (none)) else (none)) else (none)))
end
def spec_ReadManifest.f (k : Nat) (a0 : ByteArray) : Option (ByteArray × List ByteArray × Int) := (spec_l3Cut.f k a0 10).bind fun t118 => (if (wrap64 ((t118.length : Int) - 1)) < 1 then (spec_ReadManifest.j0 k t118 (wrap64 ((t118.length : Int) - 1)) true (⟨#[]⟩ : ByteArray)) else (if 0 ≤ (wrap64 ((t118.length : Int) - 1)) then (if (wrap64 ((t118.length : Int) - 1)) < (t118.length : Int) then (spec_ReadManifest.j0 k t118 (wrap64 ((t118.length : Int) - 1)) ((rdOf ByteArray.empty t118 (wrap64 ((t118.length : Int) - 1))).toList != ([] : List UInt8)) (⟨#[]⟩ : ByteArray)) else (none)) else (none)))
theorem spec_ReadManifest.mono_l : ∀ k, (∀ y0 y1 y2 y3, LeO (spec_ReadManifest.j0 k y0 y1 y2 y3) (spec_ReadManifest.j0 (k + 1) y0 y1 y2 y3)) ∧ (∀ y0 y1 y2 y3 y4 y5, LeO (spec_ReadManifest.l0 k y0 y1 y2 y3 y4 y5) (spec_ReadManifest.l0 (k + 1) y0 y1 y2 y3 y4 y5)) ∧ (∀ y0 y1 y2 y3 y4 y5 y6, LeO (spec_ReadManifest.j2 k y0 y1 y2 y3 y4 y5 y6) (spec_ReadManifest.j2 (k + 1) y0 y1 y2 y3 y4 y5 y6)) ∧ (∀ y0 y1 y2 y3 y4 y5 y6 y7, LeO (spec_ReadManifest.j3 k y0 y1 y2 y3 y4 y5 y6 y7) (spec_ReadManifest.j3 (k + 1) y0 y1 y2 y3 y4 y5 y6 y7))
 | 0 => ⟨fun _ _ _ _ r h => by simp [spec_ReadManifest.j0] at h, fun _ _ _ _ _ _ r h => by simp [spec_ReadManifest.l0] at h, fun _ _ _ _ _ _ _ r h => by simp [spec_ReadManifest.j2] at h, fun _ _ _ _ _ _ _ _ r h => by simp [spec_ReadManifest.j3] at h⟩
 | k + 1 => by
  obtain ⟨ih0, ih1, ih2, ih3⟩ := spec_ReadManifest.mono_l k; refine ⟨?_, ?_, ?_, ?_⟩
  ·
   intro y0 y1 y2 y3; unfold spec_ReadManifest.j0
   repeat' first
   | (with_reducible apply ih0)
   | (with_reducible apply ih1)
   | (with_reducible apply ih2)
   | (with_reducible apply ih3)
   | (with_reducible apply spec_DigestOk.mono)
   | (with_reducible apply spec_l3Cut.mono)
   | (with_reducible apply spec_l3Manifest.mono)
   | (with_reducible exact LeO.refl _)
   | (with_reducible exact LeO.none _)
   | (with_reducible refine LeO.ite ?_ ?_)
   | (with_reducible refine LeO.bind ?_ (fun _ => ?_))
   | exact LeO.none _
   | refine LeO.ite ?_ ?_
   | refine LeO.bind ?_ (fun _ => ?_)
  ·
   intro y0 y1 y2 y3 y4 y5; unfold spec_ReadManifest.l0
   repeat' first
   | (with_reducible apply ih0)
   | (with_reducible apply ih1)
   | (with_reducible apply ih2)
   | (with_reducible apply ih3)
   | (with_reducible apply spec_DigestOk.mono)
   | (with_reducible apply spec_l3Cut.mono)
   | (with_reducible apply spec_l3Manifest.mono)
   | (with_reducible exact LeO.refl _)
   | (with_reducible exact LeO.none _)
   | (with_reducible refine LeO.ite ?_ ?_)
   | (with_reducible refine LeO.bind ?_ (fun _ => ?_))
   | exact LeO.none _
   | refine LeO.ite ?_ ?_
   | refine LeO.bind ?_ (fun _ => ?_)
  ·
   intro y0 y1 y2 y3 y4 y5 y6; unfold spec_ReadManifest.j2
   repeat' first
   | (with_reducible apply ih0)
   | (with_reducible apply ih1)
   | (with_reducible apply ih2)
   | (with_reducible apply ih3)
   | (with_reducible apply spec_DigestOk.mono)
   | (with_reducible apply spec_l3Cut.mono)
   | (with_reducible apply spec_l3Manifest.mono)
   | (with_reducible exact LeO.refl _)
   | (with_reducible exact LeO.none _)
   | (with_reducible refine LeO.ite ?_ ?_)
   | (with_reducible refine LeO.bind ?_ (fun _ => ?_))
   | exact LeO.none _
   | refine LeO.ite ?_ ?_
   | refine LeO.bind ?_ (fun _ => ?_)
  intro y0 y1 y2 y3 y4 y5 y6 y7; unfold spec_ReadManifest.j3
  repeat' first
  | (with_reducible apply ih0)
  | (with_reducible apply ih1)
  | (with_reducible apply ih2)
  | (with_reducible apply ih3)
  | (with_reducible apply spec_DigestOk.mono)
  | (with_reducible apply spec_l3Cut.mono)
  | (with_reducible apply spec_l3Manifest.mono)
  | (with_reducible exact LeO.refl _)
  | (with_reducible exact LeO.none _)
  | (with_reducible refine LeO.ite ?_ ?_)
  | (with_reducible refine LeO.bind ?_ (fun _ => ?_))
  | exact LeO.none _
  | refine LeO.ite ?_ ?_
  | refine LeO.bind ?_ (fun _ => ?_)
theorem spec_ReadManifest.mono : ∀ a0 k, LeO (spec_ReadManifest.f k a0) (spec_ReadManifest.f (k + 1) a0) := by
 intro a0 k; obtain ⟨ih0, ih1, ih2, ih3⟩ := spec_ReadManifest.mono_l k; unfold spec_ReadManifest.f
 repeat' first
   | (with_reducible apply ih0)
   | (with_reducible apply ih1)
   | (with_reducible apply ih2)
   | (with_reducible apply ih3)
   | (with_reducible apply spec_DigestOk.mono)
   | (with_reducible apply spec_l3Cut.mono)
   | (with_reducible apply spec_l3Manifest.mono)
   | (with_reducible exact LeO.refl _)
   | (with_reducible exact LeO.none _)
   | (with_reducible refine LeO.ite ?_ ?_)
   | (with_reducible refine LeO.bind ?_ (fun _ => ?_))
   | exact LeO.none _
   | refine LeO.ite ?_ ?_
   | refine LeO.bind ?_ (fun _ => ?_)
def spec_ReadManifest.T18 : Bool × List (List Nat × List Nat) := (true, [([], []), ([0], [0]), ([], []), ([], []), ([2, 3], [2, 3]), ([4], [4]), ([], []), ([5, 6], [5, 6]), ([7], [7]), ([1, 8], [1, 8]), ([0, 1, 2, 3, 4, 5, 6, 7, 8, 9], []), ([10, 9, 9, 0, 1, 2, 3, 4, 5, 6, 7, 8, 9], [9, 10])])
def spec_ReadManifest.B18 : List Nat := [0, 1, 0, 0, 12, 28, 0, 124, 252, 511, 1023, 2047]
theorem spec_ReadManifest.tab18 : rtab .any (opsOf Tryd.f17 18) = spec_ReadManifest.T18 := by kernel_rfl
theorem spec_ReadManifest.bits18 : waitsOk spec_ReadManifest.T18.2 spec_ReadManifest.B18 = true := by kernel_rfl
set_option maxHeartbeats 8000000 in
set_option maxRecDepth 100000 in
theorem spec_ReadManifest.calls (k : Nat) (a0 : ByteArray) (r1 : ByteArray) (r2 : List ByteArray) (r3 : Int) (w : World) (h : spec_ReadManifest.f k a0 = some (r1, r2, r3)) :
  Calls Tryd.prog 17 #[.string a0] w fun e w' => ∃ v1_ : Value, e = .returned (.tuple #[.agg #[.string r1, v1_], .int .i64 r3]) ∧ Kd.R Kd.string 9 w' w.heap.size (fun _ => True) v1_ r2 ∧ Below w.heap.size w w' := by
 have hu35 := Tryd.underlying35; have HB := aM (Below.refl w.heap.size w); unfold spec_ReadManifest.f at h; have H := h; clear h; replace H := Option.bind_eq_some_iff.mp H; obtain ⟨t118, A20, H⟩ := H; (try dsimp only at H); have A2 := aM A20; clear A20; have HC3 := aM H; clear H; go_enter Tryd.func17, Tryd.ntmps17
 go_upto_region 4 with (first | ((with_reducible refine gD 2 rfl ?_); refine bE 2 #[.string (⟨#[]⟩ : ByteArray), .slice none 0 0] 35 ?_; intro gb116 hg w4 hbox hb; have BK116 := aM hbox; have GW116 := aM (zq86 : w.heap.size ≤ gb116); have GE116 := GW116; replace HB := sB zq2 hb; clear hb hbox hg) | ((with_reducible refine gD 4 rfl ?_); refine bE 4 #[.string (⟨#[]⟩ : ByteArray), .slice none 0 0] 35 ?_; intro gb117 hg w5 hbox hb; have BK117 := aM hbox; have GW117 := aM (by rw [hg]; exact (below_size zq14) : w.heap.size ≤ gb117); have GE117 := GW117; replace HB := sB zq14 hb; have NB116_117 := aM (zq87 : gb116 ≠ gb117); have NB117_116 := aM (zq88 : gb117 ≠ gb116); replace BK116 := bG BK116 hb; clear hb hbox hg; have hnb6 := NB117_116.out; have hnc6 := NB116_117.out; obtain ⟨hcz7_0, hcz7_1, hfz7_0, hfz7_1⟩ := cells2_ (w := w5) BK117) | ((with_reducible refine gC 26 rfl ?_); refine gL 13 Tryd.func26 #[.string a0, .int .u8 10] ?_; (with_reducible refine (spec_l3Cut.calls k a0 10 t118 _ A2.out).mono ?_); rintro e w8 ⟨v119, rfl, ho0, hb⟩; refine ⟨_, rfl, ?_⟩; have HO120 := aM (Kd.R_lower ho0 (below_size zq15)); replace BK116 := bF BK116 (by refine dW ?_; refine blk_far ?_ NB116_117.out _; refine dW ?_; refine blk_far ?_ NB116_117.out _; refine dW ?_; exact BK116.out) hb; replace BK117 := bB (g := gb117) (o := .cells #[.string (⟨#[]⟩ : ByteArray), .slice none 0 0] 35 (0, 0)) (by refine dW ?_; refine blk_put (cs := #[.string (⟨#[]⟩ : ByteArray), .slice none 0 0]) ?_ 1 _ rfl; refine dW ?_; refine blk_put (cs := #[.string (⟨#[]⟩ : ByteArray), .slice none 0 0]) ?_ 0 _ rfl; refine dW ?_; exact BK117.out) hb; replace HB := sB zq15 hb; clear hb; (try clear ho0); obtain ⟨Ao9, co9, eo9⟩ := Kd.R_slice HO120.out; subst eo9))
 (try simp only [Act.put, List.setIfInBounds_toArray, List.set_cons_zero, List.set_cons_succ])
 go_cut [25] (fun v25 wc => ∃ (kq : Nat) (x25_2 : Bool), v25 = .bool x25_2 ∧ Aside0 (spec_ReadManifest.j0 kq t118 (wrap64 ((t118.length : Int) - 1)) x25_2 (⟨#[]⟩ : ByteArray) = some (r1, r2, r3)) ∧ Aside0 (kq ≤ k) ∧ Aside0 (Kd.R Kd.string 9 wc w.heap.size (fun _ => True) (.slice Ao9 t118.length co9) t118) ∧ Aside0 (wc.heap[gb116]? = some (.cells #[.string (⟨#[]⟩ : ByteArray), (.slice none 0 0)] 35 (0, 0))) ∧ Aside0 (wc.heap[gb117]? = some (.cells #[.string (⟨#[]⟩ : ByteArray), (.slice none 0 0)] 35 (0, 0))) ∧ Aside0 (Below w.heap.size w wc))
 case first =>
  have H := HC3.out; clear HC3; by_cases c10 : (wrap64 ((t118.length : Int) - 1)) < 1
  ·
   rw [if_pos c10] at H; have c10b0 := decide_eq_true c10; clear c10
   (first | rw [c10b0] | (simp only [i64_w, i32_w]; rw [c10b0]) | skip)
   have H' := aM H; clear H; go_wp2
   go_meet
   case rel => exact ⟨_, (true), zq3, H', ⟨zq10⟩, ⟨zq16⟩, ⟨zq13⟩, ⟨zq17⟩, ⟨zq15⟩⟩
  rw [if_neg c10] at H; have c10b0 := decide_eq_false c10; clear c10
  (first | rw [c10b0] | (simp only [i64_w, i32_w]; rw [c10b0]) | skip)
  obtain ⟨ji11, hji11⟩ : ∃ j_ : Int, (wrap64 ((t118.length : Int) - 1)) = j_ := ⟨_, rfl⟩; replace H : (if 0 ≤ (ji11) then (if (ji11) < (t118.length : Int) then (spec_ReadManifest.j0 k t118 ji11 ((rdOf ByteArray.empty t118 (ji11)).toList != ([] : List UInt8)) (⟨#[]⟩ : ByteArray)) else (none)) else (none)) = some (r1, r2, r3) := by first | (rw [hji11] at H; exact H) | (simp only [hji11] at H ⊢; exact H)
  (try rw [hji11] at c10b0); have hji11w : (IntKind.i64.wrap ((t118.length : Int) - 1)) = ji11 := (i64_w _).trans hji11; by_cases c12 : 0 ≤ (ji11)
  ·
   rw [if_pos c12] at H; have c12b0 := decide_eq_true c12; clear c12; by_cases c13 : (ji11) < (t118.length : Int)
   ·
    rw [if_pos c13] at H; have c13b0 := decide_eq_true c13; clear c13; have H' := aM H; clear H; have p121 : 0 ≤ ((ji11) : Int) := of_decide_eq_true zq4; have q121 : (ji11) < (t118.length : Int) := of_decide_eq_true zq4; obtain ⟨ad121, e121, hx121_0⟩ := Kd.at_string (Kd.R_reads' HO120.out).2.2 (ji11) p121 q121; cases e121; replace p121 := eq_true p121; replace q121 := eq_true q121; go_wp2
    go_meet
    case rel => subst hji11; exact ⟨_, _, (show Value.bool _ = Value.bool ((rdOf ByteArray.empty t118 (wrap64 ((t118.length : Int) - 1))).toList != ([] : List UInt8)) by generalize (rdOf ByteArray.empty t118 (wrap64 ((t118.length : Int) - 1))).toList = L_; cases L_ <;> rfl), H', ⟨zq10⟩, ⟨zq16⟩, ⟨zq13⟩, ⟨zq17⟩, ⟨zq15⟩⟩
   rw [if_neg c13] at H; exact absurd H (by simp)
  exact zq98
 case rest =>
  clear HC3; (try clear c1); (try clear p1); (try clear q1); (try clear hx1); (try clear c2); (try clear p2); (try clear c6); (try clear p6); (try clear c10); (try clear c10b0); (try clear c12); (try clear c12b0); (try clear p12); (try clear q12); (try clear hx12); (try clear c13); (try clear c13b0); (try clear hcz7_0); (try clear hcz7_1); (try clear hfz7_0); (try clear hfz7_1); (try clear hx121_0); (try clear p121); (try clear q121); obtain ⟨kq, x25_2, rfl, HA, HJ2, HO_5, BK116, BK117, HB⟩ := hcut
  cases kq with
  | zero => exact absurd HA.out (by simp [spec_ReadManifest.j0])
  | succ kj2 =>
   have H := HA.out; clear HA; simp only [spec_ReadManifest.j0] at H; by_cases c14 : x25_2 = true
   ·
    subst c14; rw [if_pos rfl] at H; simp only [Option.some.injEq, Prod.mk.injEq] at H; obtain ⟨rfl, rfl, rfl⟩ := H; have hnb15 := NB117_116.out; have hnc15 := NB116_117.out; obtain ⟨hcz16_0, hcz16_1, hfz16_0, hfz16_1⟩ := cells2_ (w := wc) BK117; obtain ⟨hcz17_0, hcz17_1, hfz17_0, hfz17_1⟩ := cells2_ (w := wc) BK116; go_wp2; refine bodyPost_ret (results_ct rfl _ _ gb116 35 #[.string (⟨#[]⟩ : ByteArray), .slice none 0 0] (0, 0) _ rfl (by refine dW ?_; refine blk_put (cs := #[.string (⟨#[]⟩ : ByteArray), .slice none 0 0]) ?_ 1 _ rfl; refine dW ?_; refine blk_put (cs := #[.string (⟨#[]⟩ : ByteArray), .slice none 0 0]) ?_ 0 _ rfl; refine dW ?_; exact BK116.out) Tryd.underlying35 rfl (by kernel_rfl)) rfl ?_; exact ⟨_, zq7, zq18, zq15⟩
   replace c14 := Bool.eq_false_iff.mpr c14; subst c14; rw [if_neg (show ¬ (false = true) by decide)] at H; have H' := aM H; clear H
   go_wp2_with (first | ((with_reducible refine gD 7 rfl ?_); refine bE 7 #[.string (⟨#[]⟩ : ByteArray), .slice none 0 0] 35 ?_; intro gb122 hg w18 hbox hb; replace HO_5 := rG HO_5 hb; have BK122 := aM hbox; have GW122 := aM (by rw [hg]; exact (below_size zq15) : w.heap.size ≤ gb122); have GE122 := GW122; replace HB := sB zq15 hb; have NB116_122 := aM (zq87 : gb116 ≠ gb122); have NB122_116 := aM (zq88 : gb122 ≠ gb116); replace BK116 := bG BK116 hb; have NB117_122 := aM (by rw [hg]; exact Nat.ne_of_lt (blk_lt (g := gb117) (o := .cells #[.string (⟨#[]⟩ : ByteArray), .slice none 0 0] 35 (0, 0)) zq17) : gb117 ≠ gb122); have NB122_117 := aM (by rw [hg]; exact Nat.ne_of_gt (blk_lt (g := gb117) (o := .cells #[.string (⟨#[]⟩ : ByteArray), .slice none 0 0] 35 (0, 0)) zq17) : gb122 ≠ gb117); replace BK117 := bG BK117 hb; clear hb hbox hg; have hnb19 := NB122_116.out; have hnc19 := NB116_122.out; have hnb20 := NB122_117.out; have hnc20 := NB117_122.out; obtain ⟨hcz21_0, hcz21_1, hfz21_0, hfz21_1⟩ := cells2_ (w := w18) BK122))
   go_loopg [8] kj2 (fun kq v8 w' => ∃ (x8_2 : Int) (x117000_2 : ByteArray) (x123000_2 : ByteArray) (x123001_2 : List ByteArray) (u123001 : Value), v8 = .int .i64 x8_2 ∧ Aside0 (spec_ReadManifest.l0 kq t118 (wrap64 ((t118.length : Int) - 1)) x8_2 (⟨#[]⟩ : ByteArray) x123000_2 x123001_2 = some (r1, r2, r3)) ∧ Aside0 (kq ≤ kj2) ∧ Aside0 (Kd.R Kd.string 9 w' w.heap.size (fun k_ => some k_ ≠ (u123001 : Value).ownBlock) (.slice Ao9 t118.length co9) t118) ∧ Aside0 (Kd.R Kd.string 9 w' w.heap.size (fun k_ => some k_ ≠ ((.slice Ao9 t118.length co9) : Value).ownBlock) u123001 x123001_2) ∧ Aside0 (w'.heap[gb116]? = some (.cells #[.string x117000_2, (.slice none 0 0)] 35 (0, 0))) ∧ Aside0 (w'.heap[gb117]? = some (.cells #[.string (⟨#[]⟩ : ByteArray), (.slice none 0 0)] 35 (0, 0))) ∧ Aside0 (w'.heap[gb122]? = some (.cells #[.string x123000_2, u123001] 35 (0, 0))) ∧ Aside0 (Below w.heap.size w w'))
   case atStart => exact ⟨(0), ((⟨#[]⟩ : ByteArray)), ((⟨#[]⟩ : ByteArray)), (([] : List ByteArray)), (.slice none 0 0), zq3, H', ⟨Nat.le_refl _⟩, ⟨by refine dR ?_; exact Kd.R_mono (Kd.R_far (p := ⟨gb122, 1, none⟩) (Kd.R_far (p := ⟨gb122, 0, none⟩) (Kd.R_types HO_5.out BK122.out (by decide)) (fun _ hk => hk.2) (.string (⟨#[]⟩ : ByteArray))) (fun _ hk => hk.2) (.slice none 0 0)) (fun _ hk => (by simp [Value.ownBlock]))⟩, ⟨zq18⟩, ⟨by refine dW ?_; refine blk_far ?_ NB116_122.out _; refine dW ?_; refine blk_far ?_ NB116_122.out _; refine dW ?_; exact BK116.out⟩, ⟨by refine dW ?_; refine blk_far ?_ NB117_122.out _; refine dW ?_; refine blk_far ?_ NB117_122.out _; refine dW ?_; exact BK117.out⟩, ⟨by refine dW ?_; refine blk_put (cs := #[.string (⟨#[]⟩ : ByteArray), .slice none 0 0]) ?_ 1 _ rfl; refine dW ?_; refine blk_put (cs := #[.string (⟨#[]⟩ : ByteArray), .slice none 0 0]) ?_ 0 _ rfl; refine dW ?_; exact BK122.out⟩, ⟨zq19⟩⟩
   case round =>
    clear H'; (try clear c1); (try clear p1); (try clear q1); (try clear hx1); (try clear c2); (try clear p2); (try clear c6); (try clear p6); (try clear c10); (try clear c10b0); (try clear c12); (try clear c12b0); (try clear p12); (try clear q12); (try clear hx12); (try clear c13); (try clear c13b0); (try clear c14); (try clear c15); (try clear c17); (try clear c19); (try clear c20); (try clear hcz16_0); (try clear hcz16_1); (try clear hcz17_0); (try clear hcz17_1); (try clear hcz21_0); (try clear hcz21_1); (try clear hcz7_0); (try clear hcz7_1); (try clear hfz16_0); (try clear hfz16_1); (try clear hfz17_0); (try clear hfz17_1); (try clear hfz21_0); (try clear hfz21_1); (try clear hfz7_0); (try clear hfz7_1); (try clear hx121_0); (try clear p1); (try clear p12); (try clear p121); (try clear p2); (try clear p6); (try clear q1); (try clear q12); (try clear q121); obtain ⟨x8_2, x117000_2, x123000_2, x123001_2, u123001, rfl, HA, HK2, HO_5, HO_123001, BK116, BK117, BK122, HB⟩ := hrel
    cases gk with
    | zero => exact absurd HA.out (by simp [spec_ReadManifest.l0])
    | succ k2 =>
     have H := HA.out; clear HA; simp only [spec_ReadManifest.l0] at H; by_cases c22 : x8_2 < (wrap64 ((t118.length : Int) - 1))
     ·
      rw [if_pos c22] at H; have c22b0 := decide_eq_true c22; clear c22; have HC23 := aM H; clear H
      go_upto_if 34 with (fail)
      go_cut [9] (fun v9 wc => ∃ (kq : Nat) (x9_22 : ByteArray), v9 = .string x9_22 ∧ Aside0 (spec_ReadManifest.j2 kq t118 (wrap64 ((t118.length : Int) - 1)) x8_2 x9_22 (⟨#[]⟩ : ByteArray) x123000_2 x123001_2 = some (r1, r2, r3)) ∧ Aside0 (kq ≤ k2) ∧ Aside0 (Kd.R Kd.string 9 wc w.heap.size (fun k_ => some k_ ≠ (u123001 : Value).ownBlock) (.slice Ao9 t118.length co9) t118) ∧ Aside0 (Kd.R Kd.string 9 wc w.heap.size (fun k_ => some k_ ≠ ((.slice Ao9 t118.length co9) : Value).ownBlock) u123001 x123001_2) ∧ Aside0 (wc.heap[gb116]? = some (.cells #[.string x117000_2, (.slice none 0 0)] 35 (0, 0))) ∧ Aside0 (wc.heap[gb117]? = some (.cells #[.string (⟨#[]⟩ : ByteArray), (.slice none 0 0)] 35 (0, 0))) ∧ Aside0 (wc.heap[gb122]? = some (.cells #[.string x123000_2, u123001] 35 (0, 0))) ∧ Aside0 (Below w.heap.size w wc))
      case first =>
       have H := HC23.out; clear HC23; by_cases c24 : x8_2 = 0
       ·
        rw [if_pos c24] at H; have c24b0 : (x8_2 == 0) = true := beq_iff_eq.mpr c24; have c24b1 : (x8_2 != 0) = false := bne_eq_false_iff_eq.mpr c24; clear c24
        (first | rw [c24b0] | (simp only [i64_w, i32_w]; rw [c24b0]) | skip)
        have H' := aM H; clear H; go_wp2
        go_meet
        case rel => exact ⟨_, ((⟨#[99, 111, 110, 102, 105, 103, 32]⟩ : ByteArray)), zq3, H', ⟨zq20⟩, ⟨zq5⟩, ⟨zq21⟩, ⟨zq13⟩, ⟨zq17⟩, ⟨zq22⟩, ⟨zq19⟩⟩
       rw [if_neg c24] at H; have c24b0 : (x8_2 == 0) = false := beq_eq_false_iff_ne.mpr c24; have c24b1 : (x8_2 != 0) = true := bne_iff_ne.mpr c24
       (first | rw [c24b0] | (simp only [i64_w, i32_w]; rw [c24b0]) | skip)
       have H' := aM H; clear H; go_wp2
       go_meet
       case rel => exact ⟨_, ((⟨#[108, 97, 121, 101, 114, 32]⟩ : ByteArray)), zq3, H', ⟨zq20⟩, ⟨zq5⟩, ⟨zq21⟩, ⟨zq13⟩, ⟨zq17⟩, ⟨zq22⟩, ⟨zq19⟩⟩
      case rest =>
       clear HC23; (try clear c1); (try clear p1); (try clear q1); (try clear hx1); (try clear c2); (try clear p2); (try clear c6); (try clear p6); (try clear c10); (try clear c10b0); (try clear c12); (try clear c12b0); (try clear p12); (try clear q12); (try clear hx12); (try clear c13); (try clear c13b0); (try clear c14); (try clear c15); (try clear c17); (try clear c19); (try clear c20); (try clear c22); (try clear c22b0); (try clear c24); (try clear c24b0); (try clear c24b1); (try clear hcz16_0); (try clear hcz16_1); (try clear hcz17_0); (try clear hcz17_1); (try clear hcz21_0); (try clear hcz21_1); (try clear hcz7_0); (try clear hcz7_1); (try clear hfz16_0); (try clear hfz16_1); (try clear hfz17_0); (try clear hfz17_1); (try clear hfz21_0); (try clear hfz21_1); (try clear hfz7_0); (try clear hfz7_1); (try clear hx121_0); (try clear p1); (try clear p12); (try clear p121); (try clear p2); (try clear p6); (try clear q1); (try clear q12); (try clear q121); obtain ⟨kq, x9_22, rfl, HA, HJ22, HO_5, HO_123001, BK116, BK117, BK122, HB⟩ := hcut
       cases kq with
       | zero => exact absurd HA.out (by simp [spec_ReadManifest.j2])
       | succ kj22 =>
        have H := HA.out; clear HA; simp only [spec_ReadManifest.j2] at H; have HC25 := aM H; clear H
        go_upto_region 14 with (fail)
        go_cut [63] (fun v63 wc => ∃ (kq : Nat) (x63_24 : Bool), v63 = .bool x63_24 ∧ Aside0 (spec_ReadManifest.j3 kq t118 (wrap64 ((t118.length : Int) - 1)) x8_2 (x9_22.size : Int) x63_24 (⟨#[]⟩ : ByteArray) x123000_2 x123001_2 = some (r1, r2, r3)) ∧ Aside0 (kq ≤ kj22) ∧ Aside0 (Kd.R Kd.string 9 wc w.heap.size (fun k_ => some k_ ≠ (u123001 : Value).ownBlock) (.slice Ao9 t118.length co9) t118) ∧ Aside0 (Kd.R Kd.string 9 wc w.heap.size (fun k_ => some k_ ≠ ((.slice Ao9 t118.length co9) : Value).ownBlock) u123001 x123001_2) ∧ Aside0 (wc.heap[gb116]? = some (.cells #[.string x117000_2, (.slice none 0 0)] 35 (0, 0))) ∧ Aside0 (wc.heap[gb117]? = some (.cells #[.string (⟨#[]⟩ : ByteArray), (.slice none 0 0)] 35 (0, 0))) ∧ Aside0 (wc.heap[gb122]? = some (.cells #[.string x123000_2, u123001] 35 (0, 0))) ∧ Aside0 (Below w.heap.size w wc))
        case first =>
         have H := HC25.out; clear HC25; by_cases c26 : 0 ≤ x8_2
         ·
          rw [if_pos c26] at H; have c26b0 := decide_eq_true c26; clear c26
          (first | rw [c26b0] | (simp only [i64_w, i32_w]; rw [c26b0]) | skip)
          by_cases c27 : x8_2 < (t118.length : Int)
          ·
           rw [if_pos c27] at H; have c27b0 := decide_eq_true c27; clear c27; by_cases c28 : ((rdOf ByteArray.empty t118 x8_2).size : Int) < (x9_22.size : Int)
           ·
            rw [if_pos c28] at H; have c28b0 := decide_eq_true c28; have c28b1 : decide ((rdOf ByteArray.empty t118 x8_2).size < x9_22.size) = true := decide_eq_true (Int.ofNat_lt.mp c28); clear c28; have H' := aM H; clear H; have p124 : 0 ≤ (x8_2 : Int) := of_decide_eq_true zq4; have q124 : x8_2 < (t118.length : Int) := of_decide_eq_true zq4; obtain ⟨ad124, e124, hx124_0⟩ := Kd.at_string (Kd.R_reads' HO_5.out).2.2 x8_2 p124 q124; cases e124; replace p124 := eq_true p124; replace q124 := eq_true q124; go_wp2
            go_meet
            case rel => exact ⟨_, (true), zq3, H', ⟨zq23⟩, ⟨zq5⟩, ⟨zq21⟩, ⟨zq13⟩, ⟨zq17⟩, ⟨zq22⟩, ⟨zq19⟩⟩
           rw [if_neg c28] at H; have c28b0 := decide_eq_false c28; have c28b1 : decide ((rdOf ByteArray.empty t118 x8_2).size < x9_22.size) = false := decide_eq_false (fun h => c28 (Int.ofNat_lt.mpr h)); clear c28; by_cases c29 : 0 ≤ (x9_22.size : Int)
           ·
            rw [if_pos c29] at H; have c29b0 := eq_true c29; have c29b1 := decide_eq_true c29; clear c29; by_cases c30 : (x9_22.size : Int) ≤ ((rdOf ByteArray.empty t118 x8_2).size : Int)
            ·
             rw [if_pos c30] at H; have c30b0 := eq_true c30; have c30b1 := decide_eq_true c30; clear c30; by_cases c31 : ((rdOf ByteArray.empty t118 x8_2).extract 0 ((x9_22.size : Int) : Int).toNat).toList = x9_22.toList
             ·
              rw [if_pos c31] at H; have c31b0 : (((rdOf ByteArray.empty t118 x8_2).extract 0 ((x9_22.size : Int) : Int).toNat).toList == x9_22.toList) = true := beq_iff_eq.mpr c31; have c31b1 : (((rdOf ByteArray.empty t118 x8_2).extract 0 ((x9_22.size : Int) : Int).toNat).toList != x9_22.toList) = false := bne_eq_false_iff_eq.mpr c31; clear c31; rw [Int.toNat_natCast] at c31b0 c31b1; have c32b0 := eq_true (of_decide_eq_true zq4 : 0 ≤ (x9_22.size : Int)); have c33b0 := eq_true (of_decide_eq_true zq4 : (x9_22.size : Int) ≤ ((rdOf ByteArray.empty t118 x8_2).size : Int)); replace H := Option.bind_eq_some_iff.mp H; obtain ⟨t127, A340, H⟩ := H; (try dsimp only at H); have A34 := aM A340; clear A340; have H' := aM H; clear H; have p124 : 0 ≤ (x8_2 : Int) := of_decide_eq_true zq4; have q124 : x8_2 < (t118.length : Int) := of_decide_eq_true zq4; obtain ⟨ad124, e124, hx124_0⟩ := Kd.at_string (Kd.R_reads' HO_5.out).2.2 x8_2 p124 q124; cases e124; replace p124 := eq_true p124; replace q124 := eq_true q124; have p125 : 0 ≤ (x8_2 : Int) := of_decide_eq_true zq4; have q125 : x8_2 < (t118.length : Int) := of_decide_eq_true zq4; obtain ⟨ad125, e125, hx125_0⟩ := Kd.at_string (Kd.R_reads' HO_5.out).2.2 x8_2 p125 q125; obtain rfl : ad124 = ad125 := (by injection e125); replace p125 := eq_true p125; replace q125 := eq_true q125; have p126 : 0 ≤ (x8_2 : Int) := of_decide_eq_true zq4; have q126 : x8_2 < (t118.length : Int) := of_decide_eq_true zq4
              obtain ⟨ad126, e126, hx126_0⟩ := Kd.at_string (Kd.R_reads' HO_5.out).2.2 x8_2 p126 q126; obtain rfl : ad124 = ad126 := (by injection e126); replace p126 := eq_true p126; replace q126 := eq_true q126
              go_wp2_with (first | (go_at_call 34; (with_reducible refine (spec_DigestOk.calls kj22 ((rdOf ByteArray.empty t118 x8_2).extract x9_22.size (rdOf ByteArray.empty t118 x8_2).size) t127 _ (by have h_ := A34.out; rw [Int.toNat_natCast] at h_; exact h_)).mono ?_); rintro e w' ⟨rfl, ⟨nd, rfl⟩⟩))
              go_meet
              case rel => exact ⟨_, (!t127), zq3, H', ⟨zq23⟩, ⟨zq5⟩, ⟨zq21⟩, ⟨zq13⟩, ⟨zq17⟩, ⟨zq22⟩, ⟨zq19⟩⟩
             rw [if_neg c31] at H; have c31b0 : (((rdOf ByteArray.empty t118 x8_2).extract 0 ((x9_22.size : Int) : Int).toNat).toList == x9_22.toList) = false := beq_eq_false_iff_ne.mpr c31; have c31b1 : (((rdOf ByteArray.empty t118 x8_2).extract 0 ((x9_22.size : Int) : Int).toNat).toList != x9_22.toList) = true := bne_iff_ne.mpr c31; have H' := aM H; clear H; have p124 : 0 ≤ (x8_2 : Int) := of_decide_eq_true zq4; have q124 : x8_2 < (t118.length : Int) := of_decide_eq_true zq4; obtain ⟨ad124, e124, hx124_0⟩ := Kd.at_string (Kd.R_reads' HO_5.out).2.2 x8_2 p124 q124; cases e124; replace p124 := eq_true p124; replace q124 := eq_true q124; have p125 : 0 ≤ (x8_2 : Int) := of_decide_eq_true zq4; have q125 : x8_2 < (t118.length : Int) := of_decide_eq_true zq4; obtain ⟨ad125, e125, hx125_0⟩ := Kd.at_string (Kd.R_reads' HO_5.out).2.2 x8_2 p125 q125; obtain rfl : ad124 = ad125 := (by injection e125); replace p125 := eq_true p125; replace q125 := eq_true q125; go_wp2
             go_meet
             case rel => exact ⟨_, (true), zq3, H', ⟨zq23⟩, ⟨zq5⟩, ⟨zq21⟩, ⟨zq13⟩, ⟨zq17⟩, ⟨zq22⟩, ⟨zq19⟩⟩
            rw [if_neg c30] at H; exact absurd H (by simp)
           rw [if_neg c29] at H; exact absurd H (by simp)
          rw [if_neg c27] at H; exact absurd H (by simp)
         rw [if_neg c26] at H; exact absurd H (by simp)
        case rest =>
         clear HC25; (try clear c1); (try clear p1); (try clear q1); (try clear hx1); (try clear c2); (try clear p2); (try clear c3); (try clear c6); (try clear p6); (try clear c10); (try clear c10b0); (try clear c12); (try clear c12b0); (try clear p12); (try clear q12); (try clear hx12); (try clear c13); (try clear c13b0); (try clear c14); (try clear c15); (try clear c17); (try clear c19); (try clear c20); (try clear c22); (try clear c22b0); (try clear c24); (try clear c24b0); (try clear c24b1); (try clear c26); (try clear c26b0); (try clear c27); (try clear c27b0); (try clear c28); (try clear c28b0); (try clear c28b1); (try clear c29); (try clear c29b0); (try clear c29b1); (try clear c30); (try clear c30b0); (try clear c30b1); (try clear c31); (try clear c31b0); (try clear c31b1); (try clear c32); (try clear c32b0); (try clear c33); (try clear c33b0); (try clear hcz16_0); (try clear hcz16_1); (try clear hcz17_0); (try clear hcz17_1); (try clear hcz21_0); (try clear hcz21_1); (try clear hcz7_0); (try clear hcz7_1); (try clear hfz16_0); (try clear hfz16_1); (try clear hfz17_0); (try clear hfz17_1); (try clear hfz21_0); (try clear hfz21_1); (try clear hfz7_0); (try clear hfz7_1); (try clear hx121_0); (try clear hx124_0); (try clear hx125_0); (try clear hx126_0); (try clear p1); (try clear p12); (try clear p121); (try clear p124); (try clear p125); (try clear p126); (try clear p2); (try clear p6); (try clear q1); (try clear q12); (try clear q121); (try clear q124)
         (try clear q125); (try clear q126); obtain ⟨kq, x63_24, rfl, HA, HJ24, HO_5, HO_123001, BK116, BK117, BK122, HB⟩ := hcut
         cases kq with
         | zero => exact absurd HA.out (by simp [spec_ReadManifest.j3])
         | succ kj24 =>
          have H := HA.out; clear HA; simp only [spec_ReadManifest.j3] at H; by_cases c35 : x63_24 = true
          ·
           subst c35; rw [if_pos rfl] at H; simp only [Option.some.injEq, Prod.mk.injEq] at H; obtain ⟨rfl, rfl, rfl⟩ := H; have hnb36 := NB117_116.out; have hnc36 := NB116_117.out; have hnb37 := NB117_122.out; have hnc37 := NB122_117.out; obtain ⟨hcz38_0, hcz38_1, hfz38_0, hfz38_1⟩ := cells2_ (w := wc) BK117; have hnb39 := NB116_122.out; have hnc39 := NB122_116.out; obtain ⟨hcz40_0, hcz40_1, hfz40_0, hfz40_1⟩ := cells2_ (w := wc) BK116; go_wp2; refine bodyPost_ret (results_ct rfl _ _ gb116 35 #[.string (⟨#[]⟩ : ByteArray), .slice none 0 0] (0, 0) _ rfl zq24 Tryd.underlying35 rfl (by kernel_rfl)) rfl ?_; exact ⟨_, zq7, zq18, zq19⟩
          replace c35 := Bool.eq_false_iff.mpr c35; subst c35; rw [if_neg (show ¬ (false = true) by decide)] at H; by_cases c41 : x8_2 = 0
          ·
           rw [if_pos c41] at H; have c41b0 : (x8_2 == 0) = true := beq_iff_eq.mpr c41; have c41b1 : (x8_2 != 0) = false := bne_eq_false_iff_eq.mpr c41; clear c41; by_cases c42 : 0 ≤ x8_2
           ·
            rw [if_pos c42] at H; have c42b0 := decide_eq_true c42; clear c42; by_cases c43 : x8_2 < (t118.length : Int)
            ·
             rw [if_pos c43] at H; have c43b0 := decide_eq_true c43; clear c43; by_cases c44 : 0 ≤ (x9_22.size : Int)
             ·
              rw [if_pos c44] at H; have c44b0 := eq_true c44; have c44b1 := decide_eq_true c44; clear c44; by_cases c45 : (x9_22.size : Int) ≤ ((rdOf ByteArray.empty t118 x8_2).size : Int)
              ·
               rw [if_pos c45] at H; have c45b0 := eq_true c45; have c45b1 := decide_eq_true c45; clear c45; have H' := aM H; clear H; have p128 : 0 ≤ (x8_2 : Int) := of_decide_eq_true zq4; have q128 : x8_2 < (t118.length : Int) := of_decide_eq_true zq4; obtain ⟨ad128, e128, hx128_0⟩ := Kd.at_string (Kd.R_reads' HO_5.out).2.2 x8_2 p128 q128; cases e128; replace p128 := eq_true p128; replace q128 := eq_true q128; have hnb46 := NB122_116.out; have hnc46 := NB116_122.out; have hnb47 := NB122_117.out; have hnc47 := NB117_122.out; obtain ⟨hcz48_0, hcz48_1, hfz48_0, hfz48_1⟩ := cells2_ (w := wc) BK122; go_wp2
               go_roundg kj24
               case measure => have := HJ2.out; have := HK2.out; have := HJ22.out; have := HJ24.out; omega
               case rel => exact ⟨(wrap64 (x8_2 + 1)), (x117000_2), ((rdOf ByteArray.empty t118 x8_2).extract ((x9_22.size : Int) : Int).toNat (rdOf ByteArray.empty t118 x8_2).size), (x123001_2), (u123001), zq3, H', ⟨zq25⟩, ⟨by refine dR ?_; exact Kd.R_mono (Kd.R_far (p := ⟨gb122, 0, none⟩) (Kd.R_types HO_5.out BK122.out (by decide)) (fun _ hk => hk.2) (.string ((rdOf ByteArray.empty t118 x8_2).extract ((x9_22.size : Int) : Int).toNat (rdOf ByteArray.empty t118 x8_2).size))) (fun _ hk => hk.1)⟩, ⟨by refine dR ?_; exact Kd.R_mono (Kd.R_far (p := ⟨gb122, 0, none⟩) (Kd.R_types HO_123001.out BK122.out (by decide)) (fun _ hk => hk.2) (.string ((rdOf ByteArray.empty t118 x8_2).extract ((x9_22.size : Int) : Int).toNat (rdOf ByteArray.empty t118 x8_2).size))) (fun _ hk => hk.1)⟩, ⟨zq26⟩, ⟨zq27⟩, ⟨by refine dW ?_; refine blk_put (cs := #[.string x123000_2, u123001]) ?_ 0 _ rfl; refine dW ?_; exact BK122.out⟩, ⟨zq19⟩⟩
              rw [if_neg c45] at H; exact absurd H (by simp)
             rw [if_neg c44] at H; exact absurd H (by simp)
            rw [if_neg c43] at H; exact absurd H (by simp)
           rw [if_neg c42] at H; exact absurd H (by simp)
          rw [if_neg c41] at H; have c41b0 : (x8_2 == 0) = false := beq_eq_false_iff_ne.mpr c41; have c41b1 : (x8_2 != 0) = true := bne_iff_ne.mpr c41; by_cases c49 : 0 ≤ x8_2
          ·
           rw [if_pos c49] at H; have c49b0 := decide_eq_true c49; clear c49; by_cases c50 : x8_2 < (t118.length : Int)
           ·
            rw [if_pos c50] at H; have c50b0 := decide_eq_true c50; clear c50; by_cases c51 : 0 ≤ (x9_22.size : Int)
            ·
             rw [if_pos c51] at H; have c51b0 := eq_true c51; have c51b1 := decide_eq_true c51; clear c51; by_cases c52 : (x9_22.size : Int) ≤ ((rdOf ByteArray.empty t118 x8_2).size : Int)
             ·
              rw [if_pos c52] at H; have c52b0 := eq_true c52; have c52b1 := decide_eq_true c52; clear c52; by_cases c53 : x123001_2.length < 8796093022208
              ·
               rw [if_pos c53] at H; have LMc53 := aM c53; clear c53; obtain ⟨y130, hy130⟩ : ∃ y_ : List ByteArray, y_ = (x123001_2 ++ [(rdOf ByteArray.empty t118 x8_2).extract ((x9_22.size : Int) : Int).toNat (rdOf ByteArray.empty t118 x8_2).size]) := ⟨_, rfl⟩; have hy_ := hy130; replace H : (spec_ReadManifest.l0 kj24 t118 (wrap64 ((t118.length : Int) - 1)) (wrap64 (x8_2 + 1)) (⟨#[]⟩ : ByteArray) x123000_2 y130) = some (r1, r2, r3) := hyE; clear hy_; have Ny130 := aM hy130; clear hy130; have H' := aM H; clear H
               try go_wp2
               replace HO_5 := aM (Kd.R_drew HO_5.out); replace HO_123001 := aM (Kd.R_drew HO_123001.out); replace BK116 := aM (blk_drew BK116.out); replace BK117 := aM (blk_drew BK117.out); replace BK122 := aM (blk_drew BK122.out); replace HB := aM (below_drew1 HB.out); have p129 : 0 ≤ (x8_2 : Int) := of_decide_eq_true zq4; have q129 : x8_2 < (t118.length : Int) := of_decide_eq_true zq4; obtain ⟨ad129, e129, hx129_0⟩ := Kd.at_string (Kd.R_reads' HO_5.out).2.2 x8_2 p129 q129; cases e129; replace p129 := eq_true p129; replace q129 := eq_true q129; refine start_ (n := 12) (S := fun w' => w'.cell? ⟨gb122, 0, none⟩ = some (.string x123000_2) ∧ w'.cell? ⟨gb122, 1, none⟩ = some (u123001) ∧ w'.cell? (ad129.add (x8_2).toNat) = some (.string (rdOf ByteArray.empty t118 x8_2))) (ds := [9, 11]) (bA 12 0) (by kernel_rfl) rfl rfl ⟨(blk_cell BK122.out 0).trans rfl, (blk_cell BK122.out 1).trans rfl, hx129_0⟩ (fun hHeld => ?_); refine with_tabW spec_ReadManifest.tab18 spec_ReadManifest.bits18 (fun HT_ HW_ => ?_)
               generalize wc.drew = w54 at HO_5 HO_123001 BK116 BK117 BK122 HB hx129_0 hHeld ⊢; refine pV 0 74 12 1 ?_; refine pV 2 76 12 5 ?_; refine pV 3 77 12 13 ?_; refine pV 4 78 12 29 ?_; refine pV 6 80 12 93 ?_; refine tk_ (i := 1) (N := some 75) (bA 12 95) rfl rfl HT_ HW_ (by kernel_rfl) (Or.inl ⟨by rfl, (by rintro w' ⟨s0, s1, s2⟩; go_simp; with_reducible rfl)⟩) hHeld zq102 ?_; refine tk_ (i := 5) (N := some 79) (bA 12 127) rfl rfl HT_ HW_ (by kernel_rfl) (Or.inl ⟨by rfl, (by rintro w' ⟨s0, s1, s2⟩; go_simp; with_reducible rfl)⟩) hHeld zq102 ?_; refine pV 7 81 12 255 ?_; refine oE 8 82 12 511 rfl (fun K hK => ?_); refine value_ (w1 := ?_) (v := ?_) (by rfl) rfl ?_ ?_; rotate_left 2
               ·
                go_simp
                constructor
                ·
                 rfl
                rfl
               refine hK.out _ _ ⟨(blk_cell (blk_alloc BK122.out _) 0).trans rfl, (blk_cell (blk_alloc BK122.out _) 1).trans rfl, (World.cell?_alloc_lt _ _ _ (World.block_lt_of_cell? _ _ (hHeld.2.2))).trans (hHeld.2.2)⟩ (fun hHeld => ?_); clear hK K; refine norm_ (a' := ?_) ?_ ?_; rotate_left
               ·
                show Act.put _ (some 82) _ = _
                simp only [Act.put, List.setIfInBounds_toArray, List.set_cons_zero, List.set_cons_succ, i64_w, i32_w]
                rfl
               refine last_ (i := 9) (N := some 83) (bA 12 1023) rfl rfl (one_of HT_.out (by kernel_rfl)) (by decide) (fun K hK => ?_); refine Kd.R_append_step Kd.string (w0 := w) w.heap.size (by rfl) (.tmp 75) (.tmp 82) 33 9 (.string ⟨#[]⟩) 16 rfl Tryd.underlying33 info9 rfl (by decide) (by omega) u123001 x123001_2 ((rdOf ByteArray.empty t118 x8_2).extract ((x9_22.size : Int) : Int).toNat (rdOf ByteArray.empty t118 x8_2).size) [.string ((rdOf ByteArray.empty t118 x8_2).extract ((x9_22.size : Int) : Int).toNat (rdOf ByteArray.empty t118 x8_2).size)] (fun k_ => some k_ ≠ (.slice (some ad129) t118.length co9 : Value).ownBlock) (fun _ => False) rfl rfl ?aP (fun _ hk => hk.elim) ?aF ?aO ?aB ?aS ?aL ?_
               (case aP => exact rfl)
               (case aB => exact zq19)
               (case aF => exact (fun k_ hk => Kd.fresh' (Kd.R_lt zq5) k_ hk))
               (case aO => exact zq21)
               (case aS => exact (below_size zq19))
               (case aL => have := LMc53.out; omega)
               intro v131 w55 ho hb hg hat; rw [← Ny130.out] at ho; have n0_ := aM (Kd.R_after (ok := (fun _ => True)) (by refine dR ?_; exact Kd.R_mono HO_5.out (fun _ hk => ⟨trivial, hk⟩)) hg hat); have n1_ := aM (blk_grown (g := gb116) (o := .cells #[.string x117000_2, .slice none 0 0] 35 (0, 0)) zq13 hg (Kd.R_ne HO_123001.out BK116.out (by decide))); have n2_ := aM (blk_grown (g := gb117) (o := .cells #[.string (⟨#[]⟩ : ByteArray), .slice none 0 0] 35 (0, 0)) zq17 hg (Kd.R_ne HO_123001.out BK117.out (by decide))); have n3_ := aM (blk_grown (g := gb122) (o := .cells #[.string x123000_2, u123001] 35 (0, 0)) zq22 hg (Kd.R_ne HO_123001.out BK122.out (by decide))); have n4_ := aM (hb); have n5_ := aM (ho); clear HO_5; clear BK116; clear BK117; clear BK122; clear HB; clear HO_123001; have HO_5 := n0_; have BK116 := n1_; have BK117 := n2_; have BK122 := n3_; have HB := n4_; have HO132 := n5_; clear n0_ n1_ n2_ n3_ n4_ n5_; clear ho hb hg hat; obtain ⟨Ao56, co56, eo56⟩ := Kd.R_slice HO132.out
               (first | subst eo56 | (injection eo56 with f1_ f2_ f3_; have f4_ := f1_.symm; have f5_ := f3_.symm; clear f1_ f2_ f3_; subst f4_; subst f5_))
               refine hK.out _ _ ?_; clear hK K; refine norm_ (a' := ?_) ?_ ?_; rotate_left
               ·
                show Act.put _ (some 83) _ = _
                simp only [Act.put, List.setIfInBounds_toArray, List.set_cons_zero, List.set_cons_succ, i64_w, i32_w]
                rfl
               refine pV 10 84 12 2047 ?_; refine last_ (i := 11) (N := none) (bA 12 4095) rfl rfl (one_of HT_.out (by kernel_rfl)) (by decide) (fun K hK => ?_); have hs57 : w55.cell? ⟨gb122, 1, none⟩ = some (u123001) := (blk_cell BK122.out 1).trans rfl; have hfs57 := blk_frozen BK122.out 1; have hns57_0 := NB116_122.out; have hns57_1 := NB117_122.out; have hms57_0 := NB122_116.out; have hms57_1 := NB122_117.out; refine skip_ (w1 := ?_) (by rfl) rfl ?_ ?_; rotate_left
               ·
                go_simp
                rfl
               refine hK.out _ _ ?_; clear hK K; refine dE ?_
               try go_wp2
               go_roundg kj24
               case measure => have := HJ2.out; have := HK2.out; have := HJ22.out; have := HJ24.out; omega
               case rel => exact ⟨(wrap64 (x8_2 + 1)), (x117000_2), (x123000_2), (y130), (.slice Ao56 y130.length co56), zq3, H', ⟨zq25⟩, ⟨by refine dR ?_; exact Kd.R_mono (Kd.R_far (p := ⟨gb122, 1, none⟩) (Kd.R_types HO_5.out BK122.out (by decide)) (fun _ hk => hk.2) (.slice Ao56 y130.length co56)) (fun _ hk => hk.1.2)⟩, ⟨by refine dR ?_; exact Kd.R_mono (Kd.R_far (p := ⟨gb122, 1, none⟩) (Kd.R_types HO132.out BK122.out (by decide)) (fun _ hk => hk.2) (.slice Ao56 y130.length co56)) (fun _ hk => hk.1)⟩, ⟨zq26⟩, ⟨zq27⟩, ⟨by refine dW ?_; refine blk_put (cs := #[.string x123000_2, u123001]) ?_ 1 _ rfl; refine dW ?_; exact BK122.out⟩, ⟨zq19⟩⟩
              rw [if_neg c53] at H; exact absurd H (by simp)
             rw [if_neg c52] at H; exact absurd H (by simp)
            rw [if_neg c51] at H; exact absurd H (by simp)
           rw [if_neg c50] at H; exact absurd H (by simp)
          rw [if_neg c49] at H; exact absurd H (by simp)
     rw [if_neg c22] at H; have c22b0 := decide_eq_false c22; clear c22; replace H := Option.bind_eq_some_iff.mp H; obtain ⟨t123, A580, H⟩ := H; (try dsimp only at H); have A58 := aM A580; clear A580; by_cases c59 : t123 = true
     ·
      subst c59; rw [if_pos rfl] at H; simp only [Option.some.injEq, Prod.mk.injEq] at H; obtain ⟨rfl, rfl, rfl⟩ := H; have hnb60 := NB122_116.out; have hnc60 := NB116_122.out; have hnb61 := NB122_117.out; have hnc61 := NB117_122.out; obtain ⟨hcz62_0, hcz62_1, hfz62_0, hfz62_1⟩ := cells2_ (w := wr) BK122; obtain ⟨Ao63, co63, eo63⟩ := Kd.R_slice HO_123001.out; subst eo63
      go_wp2_with (first | ((with_reducible refine gC 37 rfl ?_); refine gL 86 Tryd.func37 #[.agg #[.string x123000_2, .slice Ao63 x123001_2.length co63]] ?_; (with_reducible refine (spec_l3Manifest.calls k2 x123000_2 _ _ x123001_2 true _ ?_ ?_ A58.out).mono ?_); exact zq28; exact (Kd.R_reads' HO_123001.out).2.1; rintro e w64 ⟨rfl, hb⟩; refine ⟨_, rfl, ?_⟩; replace HO_5 := rG HO_5 hb; replace HO_123001 := rG HO_123001 hb; replace BK116 := bG BK116 hb; replace BK117 := bG BK117 hb; replace BK122 := bG BK122 hb; replace HB := sB zq19 hb; clear hb; obtain ⟨hcz65_0, hcz65_1, hfz65_0, hfz65_1⟩ := cells2_ (w := w64) BK122; have hnb66 := NB116_117.out; have hnc66 := NB117_116.out; obtain ⟨hcz67_0, hcz67_1, hfz67_0, hfz67_1⟩ := cells2_ (w := w64) BK116))
      refine bodyPost_ret (results_ct rfl _ _ gb116 35 #[.string x123000_2, .slice Ao63 x123001_2.length co63] (0, 0) _ rfl (by refine dW ?_; refine blk_put (cs := #[.string x123000_2, .slice none 0 0]) ?_ 1 _ rfl; refine dW ?_; refine blk_put (cs := #[.string x117000_2, .slice none 0 0]) ?_ 0 _ rfl; refine dW ?_; exact BK116.out) Tryd.underlying35 rfl (by kernel_rfl)) rfl ?_; exact ⟨_, zq7, by refine dR ?_; exact Kd.R_mono (Kd.R_far (p := ⟨gb116, 1, none⟩) (Kd.R_far (p := ⟨gb116, 0, none⟩) (Kd.R_types HO_123001.out BK116.out (by decide)) (fun _ hk => hk.2) (.string x123000_2)) (fun _ hk => hk.2) (.slice Ao63 x123001_2.length co63)) (fun _ hk => trivial), zq19⟩
     replace c59 := Bool.eq_false_iff.mpr c59; subst c59; rw [if_neg (show ¬ (false = true) by decide)] at H; simp only [Option.some.injEq, Prod.mk.injEq] at H; obtain ⟨rfl, rfl, rfl⟩ := H; have hnb68 := NB122_116.out; have hnc68 := NB116_122.out; have hnb69 := NB122_117.out; have hnc69 := NB117_122.out; obtain ⟨hcz70_0, hcz70_1, hfz70_0, hfz70_1⟩ := cells2_ (w := wr) BK122; obtain ⟨Ao71, co71, eo71⟩ := Kd.R_slice HO_123001.out; subst eo71
     go_wp2_with (first | ((with_reducible refine gC 37 rfl ?_); refine gL 86 Tryd.func37 #[.agg #[.string x123000_2, .slice Ao71 x123001_2.length co71]] ?_; (with_reducible refine (spec_l3Manifest.calls k2 x123000_2 _ _ x123001_2 false _ ?_ ?_ A58.out).mono ?_); exact zq28; exact (Kd.R_reads' HO_123001.out).2.1; rintro e w72 ⟨rfl, hb⟩; refine ⟨_, rfl, ?_⟩; replace HO_5 := rG HO_5 hb; replace HO_123001 := rG HO_123001 hb; replace BK116 := bG BK116 hb; replace BK117 := bG BK117 hb; replace BK122 := bG BK122 hb; replace HB := sB zq19 hb; clear hb; have hnb73 := NB117_116.out; have hnc73 := NB116_117.out; obtain ⟨hcz74_0, hcz74_1, hfz74_0, hfz74_1⟩ := cells2_ (w := w72) BK117; obtain ⟨hcz75_0, hcz75_1, hfz75_0, hfz75_1⟩ := cells2_ (w := w72) BK116))
     refine bodyPost_ret (results_ct rfl _ _ gb116 35 #[.string (⟨#[]⟩ : ByteArray), .slice none 0 0] (0, 0) _ rfl zq24 Tryd.underlying35 rfl (by kernel_rfl)) rfl ?_; exact ⟨_, zq7, zq18, zq19⟩

end Go.Proofs.YtldpdaifajjaeaaDoor.QFnExactReadManifest
