/- Written by wip/myprint.py of this repo (the kit's print, with additions of this session). -/
import Derived.Test.YtoeomljkhabifaaDoorQFnDiffx0
import Derived.Test.YtoeomljkhabifaaDoorQFnDiffx4
import Derived.Test.YtoeomljkhabifaaDoorQFnDiffx6
set_option maxRecDepth 100000
namespace Go.Proofs.YtoeomljkhabifaaDoor.QFnDiff
open Go.RowKit Go.Proofs.YtoeomljkhabifaaDoorW.PrintWords Go.Proofs.YtoeomljkhabifaaDoorW.PrintLast Go.Proofs.YtoeomljkhabifaaDoorW.PrintMore
attribute [local go_sem] max2_int min2_int max_two min_two max_three min_three max_four min_four   -- for this text's walks alone
set_option linter.unusedVariables false
set_option linter.unusedSimpArgs false

/-! ### spec_l7Node: function 22 -/
mutual
def spec_l7Node.l0 : Nat → ByteArray → List ByteArray → Int → Option (ByteArray)
 | 0, _, _, _ => none
 | k + 1, x5, x6, x7 => if x7 < (x6.length : Int) then (if 0 ≤ x7 then (if x5.size + (rdOf ByteArray.empty x6 x7).size ≤ 9223372036854775807 then (spec_l7Node.l0 k (x5 ++ (rdOf ByteArray.empty x6 x7)) x6 (wrap64 (x7 + 1))) else (none)) else (none)) else ((spec_Digest.f k x5).bind fun t267 => (some t267))
def spec_l7Node.l1 : Nat → List ByteArray → ByteArray → List ByteArray → Int → Option (ByteArray)
 | 0, _, _, _, _ => none
 | k + 1, x0, x5, x8, x9 => if x9 < 16 then (if 0 ≤ x9 then (if x9 < (x8.length : Int) then ((spec_l7Under.f k x0 (rdOf ByteArray.empty x8 x9)).bind fun t272 => ((spec_l7Node.f k t272 (rdOf ByteArray.empty x8 x9)).bind fun t276 => (if x5.size + t276.size ≤ 9223372036854775807 then (spec_l7Node.l1 k x0 (x5 ++ t276) x8 (wrap64 (x9 + 1))) else (none)))) else (none)) else (none)) else ((spec_Digest.f k x5).bind fun t277 => (some t277))
def spec_l7Node.f : Nat → List ByteArray → ByteArray → Option (ByteArray)
 | 0, _, _ => none
 | k + 1, l0, a1 => if (a1.size : Int) = 2 then ((spec_l7Under.f k l0 a1).bind fun t263 => (spec_l7Node.l0 k (⟨#[]⟩ : ByteArray) t263 0)) else ((spec_l7Below.f k a1).bind fun t268 => (spec_l7Node.l1 k l0 (⟨#[]⟩ : ByteArray) t268 0))
end
theorem spec_l7Node.mono_l : ∀ k, (∀ y0 y1, LeO (spec_l7Node.f k y0 y1) (spec_l7Node.f (k + 1) y0 y1)) ∧ (∀ y0 y1 y2, LeO (spec_l7Node.l0 k y0 y1 y2) (spec_l7Node.l0 (k + 1) y0 y1 y2)) ∧ (∀ y0 y1 y2 y3, LeO (spec_l7Node.l1 k y0 y1 y2 y3) (spec_l7Node.l1 (k + 1) y0 y1 y2 y3))
 | 0 => ⟨fun _ _ r h => by simp [spec_l7Node.f] at h, fun _ _ _ r h => by simp [spec_l7Node.l0] at h, fun _ _ _ _ r h => by simp [spec_l7Node.l1] at h⟩
 | k + 1 => by
  obtain ⟨ih0, ih1, ih2⟩ := spec_l7Node.mono_l k; refine ⟨?_, ?_, ?_⟩
  ·
   intro y0 y1; unfold spec_l7Node.f
   repeat' first
   | (with_reducible apply ih0)
   | (with_reducible apply ih1)
   | (with_reducible apply ih2)
   | (with_reducible apply spec_Digest.mono)
   | (with_reducible apply spec_l7Below.mono)
   | (with_reducible apply spec_l7Under.mono)
   | (with_reducible exact LeO.refl _)
   | (with_reducible exact LeO.none _)
   | (with_reducible refine LeO.ite ?_ ?_)
   | (with_reducible refine LeO.bind ?_ (fun _ => ?_))
   | exact LeO.none _
   | refine LeO.ite ?_ ?_
   | refine LeO.bind ?_ (fun _ => ?_)
  ·
   intro y0 y1 y2; unfold spec_l7Node.l0
   repeat' first
   | (with_reducible apply ih0)
   | (with_reducible apply ih1)
   | (with_reducible apply ih2)
   | (with_reducible apply spec_Digest.mono)
   | (with_reducible apply spec_l7Below.mono)
   | (with_reducible apply spec_l7Under.mono)
   | (with_reducible exact LeO.refl _)
   | (with_reducible exact LeO.none _)
   | (with_reducible refine LeO.ite ?_ ?_)
   | (with_reducible refine LeO.bind ?_ (fun _ => ?_))
   | exact LeO.none _
   | refine LeO.ite ?_ ?_
   | refine LeO.bind ?_ (fun _ => ?_)
  intro y0 y1 y2 y3; unfold spec_l7Node.l1
  repeat' first
  | (with_reducible apply ih0)
  | (with_reducible apply ih1)
  | (with_reducible apply ih2)
  | (with_reducible apply spec_Digest.mono)
  | (with_reducible apply spec_l7Below.mono)
  | (with_reducible apply spec_l7Under.mono)
  | (with_reducible exact LeO.refl _)
  | (with_reducible exact LeO.none _)
  | (with_reducible refine LeO.ite ?_ ?_)
  | (with_reducible refine LeO.bind ?_ (fun _ => ?_))
  | exact LeO.none _
  | refine LeO.ite ?_ ?_
  | refine LeO.bind ?_ (fun _ => ?_)
theorem spec_l7Node.mono : ∀ a0 a1 k, LeO (spec_l7Node.f k a0 a1) (spec_l7Node.f (k + 1) a0 a1) := by
 intro a0 a1 k; obtain ⟨ih0, ih1, ih2⟩ := spec_l7Node.mono_l k; exact ih0 a0 a1
def spec_l7Node.T13 : Bool × List (List Nat × List Nat) := (true, [([], []), ([], []), ([], []), ([], []), ([2, 3], [2, 3]), ([4], [4]), ([1, 5], [1, 5]), ([], []), ([], []), ([7, 8], [7, 8]), ([9], [9]), ([6, 10, 6], [6, 10]), ([0, 11], [0, 11]), ([12, 11, 0, 1, 2, 3, 4, 5, 6, 7, 8, 9, 10, 11, 12], [0, 12])])
def spec_l7Node.B13 : List Nat := [0, 0, 0, 0, 12, 28, 62, 0, 0, 384, 896, 2046, 4095, 8191]
theorem spec_l7Node.tab13 : rtab .any (opsOf Tryd.f22 13) = spec_l7Node.T13 := by kernel_rfl
theorem spec_l7Node.bits13 : waitsOk spec_l7Node.T13.2 spec_l7Node.B13 = true := by kernel_rfl
set_option maxHeartbeats 8000000 in
set_option maxRecDepth 100000 in
theorem spec_l7Node.calls (k : Nat) : ∀ (A0 : Option Addr) (c0 : Nat) (l0 : List ByteArray) (a1 : ByteArray) (r : ByteArray) (w : World) (hr0 : Kd.C Kd.string w A0 l0.length l0) (hc0 : l0.length ≤ c0) (h : spec_l7Node.f k l0 a1 = some r),
  Calls Tryd.prog 22 #[.slice A0 l0.length c0, .string a1] w fun e w' => e = .returned (.string r) ∧ Below w.heap.size w w' := by
 induction k using Nat.strongRecOn with
 | _ k ih =>
 intro A0 c0 l0 a1 r w hr0 hc0 h
 cases k with
 | zero => exact absurd h (by simp [spec_l7Node.f])
 | succ k =>
 simp only [spec_l7Node.f] at h; have HR0 := aM hr0; have HC0 := aM hc0; clear hr0 hc0; have HB := aM (Below.refl w.heap.size w); have H := h; clear h; by_cases c3 : (a1.size : Int) = 2
 ·
  rw [if_pos c3] at H; have c3b0 : ((a1.size : Int) == 2) = true := beq_iff_eq.mpr c3; have c3b1 : ((a1.size : Int) != 2) = false := bne_eq_false_iff_eq.mpr c3; clear c3; replace H := Option.bind_eq_some_iff.mp H; obtain ⟨t263, A40, H⟩ := H; (try dsimp only at H); have A4 := aM A40; clear A40; have H' := aM H; clear H; go_enter Tryd.func22, Tryd.ntmps22
  go_wp2_with (first | ((with_reducible refine gC 26 rfl ?_); refine gL 15 Tryd.func26 #[.slice A0 l0.length c0, .string a1] ?_; (with_reducible refine (spec_l7Under.calls k _ _ l0 a1 t263 _ ?_ ?_ A4.out).mono ?_); exact zq38; exact zq30; rintro e w5 ⟨v264, rfl, ho0, hb⟩; refine ⟨_, rfl, ?_⟩; have HO265 := aM (Kd.R_lower ho0 (below_size zq4)); replace HB := sB zq4 hb; clear hb; (try clear ho0)))
  go_loopg [5, 7] k (fun kq v5 v7 w' => ∃ (x5_1 : ByteArray) (x7_1 : Int), v5 = .string x5_1 ∧ v7 = .int .i64 x7_1 ∧ Aside0 (spec_l7Node.l0 kq x5_1 t263 x7_1 = some r) ∧ Aside0 (kq ≤ k) ∧ Aside0 (Kd.R Kd.string 9 w' w.heap.size (fun _ => True) v264 t263) ∧ Aside0 (Below w.heap.size w w'))
  case atStart => exact ⟨((⟨#[]⟩ : ByteArray)), (0), zq1, zq1, H', ⟨Nat.le_refl _⟩, ⟨by refine dR ?_; exact HO265.out⟩, ⟨zq4⟩⟩
  case round =>
   clear H'; (try clear c2); (try clear p2); (try clear c3); (try clear c3b0); (try clear c3b1); obtain ⟨x5_1, x7_1, rfl, rfl, HA, HK1, HO_6, HB⟩ := hrel
   cases gk with
   | zero => exact absurd HA.out (by simp [spec_l7Node.l0])
   | succ k1 =>
    have H := HA.out; clear HA; simp only [spec_l7Node.l0] at H; by_cases c6 : x7_1 < (t263.length : Int)
    ·
     rw [if_pos c6] at H; have c6b0 := decide_eq_true c6; clear c6; by_cases c7 : 0 ≤ x7_1
     ·
      rw [if_pos c7] at H; have c7b0 := decide_eq_true c7; clear c7; by_cases c8 : x5_1.size + (rdOf ByteArray.empty t263 x7_1).size ≤ 9223372036854775807
      ·
       rw [if_pos c8] at H; have c8b0 := eq_true c8; have c8b1 := decide_eq_true c8
       try have c8b2 : (9223372036854775807 < x5_1.size + (rdOf ByteArray.empty t263 x7_1).size) = False := eq_false (Nat.not_lt.2 c8)
       have H' := aM H; clear H; obtain ⟨Ao9, co9, eo9⟩ := Kd.R_slice HO_6.out; subst eo9; have p266 : 0 ≤ (x7_1 : Int) := of_decide_eq_true zq6; have q266 : x7_1 < (t263.length : Int) := of_decide_eq_true zq6; obtain ⟨ad266, e266, hx266_0⟩ := Kd.at_string (Kd.R_reads' HO_6.out).2.2 x7_1 p266 q266; cases e266; replace p266 := eq_true p266; replace q266 := eq_true q266; go_wp2
       go_roundg k1
       case measure => have := HK1.out; omega
       case rel => exact ⟨(x5_1 ++ (rdOf ByteArray.empty t263 x7_1)), (wrap64 (x7_1 + 1)), zq1, zq1, H', ⟨zq7⟩, ⟨zq98⟩, ⟨zq4⟩⟩
      exact zq137
     exact zq138
    rw [if_neg c6] at H; have c6b0 := decide_eq_false c6; clear c6; replace H := Option.bind_eq_some_iff.mp H; obtain ⟨t267, A100, H⟩ := H; replace H : (some t267) = some r := H; have A10 := aM A100; clear A100; obtain rfl := Option.some.inj H; obtain ⟨Ao11, co11, eo11⟩ := Kd.R_slice HO_6.out; subst eo11
    go_wp2_with (first | ((with_reducible refine gC 40 rfl ?_); refine gL 29 Tryd.func40 #[.string x5_1] ?_; (with_reducible refine (spec_Digest.calls k1 x5_1 t267 _ A10.out).mono ?_); rintro e w12 ⟨rfl, hb⟩; refine ⟨_, rfl, ?_⟩; replace HO_6 := rG HO_6 hb; replace HB := sB zq4 hb; clear hb))
    go_ret; exact ⟨zq5, zq4⟩
 rw [if_neg c3] at H; have c3b0 : ((a1.size : Int) == 2) = false := beq_eq_false_iff_ne.mpr c3; have c3b1 : ((a1.size : Int) != 2) = true := bne_iff_ne.mpr c3; replace H := Option.bind_eq_some_iff.mp H; obtain ⟨t268, A130, H⟩ := H; (try dsimp only at H); have A13 := aM A130; clear A130; have H' := aM H; clear H; go_enter Tryd.func22, Tryd.ntmps22
 go_wp2_with (first | ((with_reducible refine gC 27 rfl ?_); refine gL 31 Tryd.func27 #[.string a1] ?_; (with_reducible refine (spec_l7Below.calls k a1 t268 _ A13.out).mono ?_); rintro e w14 ⟨v269, rfl, ho0, hb⟩; refine ⟨_, rfl, ?_⟩; have HO270 := aM (Kd.R_lower ho0 (below_size zq4)); replace HB := sB zq4 hb; clear hb; (try clear ho0)))
 go_loopg [5, 9] k (fun kq v5 v9 w' => ∃ (x5_1 : ByteArray) (x9_1 : Int), v5 = .string x5_1 ∧ v9 = .int .i64 x9_1 ∧ Aside0 (spec_l7Node.l1 kq l0 x5_1 t268 x9_1 = some r) ∧ Aside0 (kq ≤ k) ∧ Aside0 (Kd.R Kd.string 9 w' w.heap.size (fun _ => True) v269 t268) ∧ Aside0 (Below w.heap.size w w'))
 case atStart => exact ⟨((⟨#[]⟩ : ByteArray)), (0), zq1, zq1, H', ⟨Nat.le_refl _⟩, ⟨by refine dR ?_; exact HO270.out⟩, ⟨zq4⟩⟩
 case round =>
  clear H'; (try clear c2); (try clear p2); (try clear q2); (try clear hx2); (try clear c3); (try clear c3b0); (try clear c3b1); (try clear c4); (try clear c6); (try clear c6b0); (try clear p6); (try clear c7); (try clear c7b0); (try clear c8); (try clear c8b0); (try clear c8b1); (try clear c8b2); (try clear hx266_0); (try clear p2); (try clear p266); (try clear q266); obtain ⟨x5_1, x9_1, rfl, rfl, HA, HK1, HO_8, HB⟩ := hrel
  cases gk with
  | zero => exact absurd HA.out (by simp [spec_l7Node.l1])
  | succ k1 =>
   have H := HA.out; clear HA; simp only [spec_l7Node.l1] at H; by_cases c15 : x9_1 < 16
   ·
    rw [if_pos c15] at H; have c15b0 := decide_eq_true c15; clear c15; by_cases c16 : 0 ≤ x9_1
    ·
     rw [if_pos c16] at H; have c16b0 := decide_eq_true c16; clear c16; by_cases c17 : x9_1 < (t268.length : Int)
     ·
      rw [if_pos c17] at H; have c17b0 := decide_eq_true c17; clear c17; replace H := Option.bind_eq_some_iff.mp H; obtain ⟨t272, A180, H⟩ := H; (try dsimp only at H); have A18 := aM A180; clear A180; replace H := Option.bind_eq_some_iff.mp H; obtain ⟨t276, A190, H⟩ := H; (try dsimp only at H); have A19 := aM A190; clear A190; by_cases c20 : x5_1.size + t276.size ≤ 9223372036854775807
      ·
       rw [if_pos c20] at H; have c20b0 := eq_true c20; have c20b1 := decide_eq_true c20
       try have c20b2 : (9223372036854775807 < x5_1.size + t276.size) = False := eq_false (Nat.not_lt.2 c20)
       have H' := aM H; clear H
       try go_wp2
       replace HO_8 := aM (Kd.R_drew HO_8.out); replace HB := aM (below_drew1 HB.out); obtain ⟨Ao22, co22, eo22⟩ := Kd.R_slice HO_8.out
       (first | subst eo22 | (injection eo22 with f1_ f2_ f3_; have f4_ := f1_.symm; have f5_ := f3_.symm; clear f1_ f2_ f3_; subst f4_; subst f5_))
       have p271 : 0 ≤ (x9_1 : Int) := of_decide_eq_true zq6; have q271 : x9_1 < (t268.length : Int) := of_decide_eq_true zq6; obtain ⟨ad271, e271, hx271_0⟩ := Kd.at_string (Kd.R_reads' HO_8.out).2.2 x9_1 p271 q271; cases e271; replace p271 := eq_true p271; replace q271 := eq_true q271; have p275 : 0 ≤ (x9_1 : Int) := of_decide_eq_true zq6; have q275 : x9_1 < (t268.length : Int) := of_decide_eq_true zq6; obtain ⟨ad275, e275, hx275_0⟩ := Kd.at_string (Kd.R_reads' HO_8.out).2.2 x9_1 p275 q275; obtain rfl : ad271 = ad275 := (by injection e275); replace p275 := eq_true p275; replace q275 := eq_true q275; refine start_ (n := 14) (S := fun w' => w'.cell? (ad271.add (x9_1).toNat) = some (.string (rdOf ByteArray.empty t268 x9_1)) ∧ w'.cell? (ad271.add (x9_1).toNat) = some (.string (rdOf ByteArray.empty t268 x9_1))) (ds := []) (bA 14 0) (by kernel_rfl) rfl rfl ⟨hx271_0, hx275_0⟩ (fun hHeld => ?_); refine with_tabW spec_l7Node.tab13 spec_l7Node.bits13 (fun HT_ HW_ => ?_)
       generalize wr.drew = w21 at HO_8 HB hx271_0 hx275_0 hHeld ⊢; refine pV 0 36 14 1 ?_; refine pV 1 37 14 3 ?_; refine pV 2 38 14 7 ?_; refine pV 3 39 14 15 ?_; refine pV 4 40 14 31 ?_; refine pV 7 43 14 159 ?_; refine pV 8 44 14 415 ?_; refine pV 9 45 14 927 ?_; refine tV 5 41 14 959 rfl zq144 ?_; refine tV 10 46 14 1983 rfl zq144 ?_; refine oE 6 42 14 2047 rfl (fun K hK => ?_); refine goes_ Tryd.func26 (by kernel_rfl) rfl #[.slice A0 l0.length c0, .string (rdOf ByteArray.empty t268 x9_1)] (by rfl) rfl rfl zq3 ?_
       with_reducible refine (spec_l7Under.calls k1 _ _ l0 (rdOf ByteArray.empty t268 x9_1) t272 _ ?side1 ?side2 A18.out).mono ?_
       (case side1 => exact zq40)
       (case side2 => exact zq30)
       rintro e w23 ⟨v273, rfl, ho0, hb⟩; have HS0_ := (hb.cell (World.block_lt_of_cell? _ _ (hHeld.1))).trans (hHeld.1); have HS1_ := (hb.cell (World.block_lt_of_cell? _ _ (hHeld.2))).trans (hHeld.2); refine ⟨_, rfl, ?_⟩; have HO274 := aM (Kd.R_lower (Kd.R_new' ho0 (Kd.R_lt zq99)) (below_size zq4)); replace HO_8 := aM (Kd.R_elder' zq99 (Kd.R_base ho0) hb); replace HB := sB zq4 hb; (try clear hb); (try clear hb2); (try clear hk); (try clear hi); (try clear ho0); obtain ⟨Ao24, co24, eo24⟩ := Kd.R_slice HO274.out
       (first | subst eo24 | (injection eo24 with f1_ f2_ f3_; have f4_ := f1_.symm; have f5_ := f3_.symm; clear f1_ f2_ f3_; subst f4_; subst f5_))
       refine hK.out _ _ ⟨HS0_, HS1_⟩ (fun hHeld => ?_); clear hK K; refine norm_ (a' := ?_) ?_ ?_; rotate_left
       ·
        show Act.put _ (some 42) _ = _
        simp only [Act.put, List.setIfInBounds_toArray, List.set_cons_zero, List.set_cons_succ, i64_w, i32_w]
        rfl
       refine oE 11 47 14 4095 rfl (fun K hK => ?_); refine goes_ Tryd.func22 (by kernel_rfl) rfl #[.slice Ao24 t272.length co24, .string (rdOf ByteArray.empty t268 x9_1)] (by rfl) rfl rfl zq3 ?_
       with_reducible refine (ih k1 zq7 _ _ t272 (rdOf ByteArray.empty t268 x9_1) t276 _ ?side1 ?side2 A19.out).mono ?_
       (case side1 => repeat (first | exact (Kd.R_reads' HO274.out).2.2 | (with_reducible refine Kd.C_alloc ?_ _) | (with_reducible refine Kd.C_drewN ?_ _) | (with_reducible refine Kd.C_drew ?_)))
       (case side2 => exact (Kd.R_reads' HO274.out).2.1)
       rintro e w25 ⟨rfl, hb⟩; have HS0_ := (hb.cell (World.block_lt_of_cell? _ _ (hHeld.1))).trans (hHeld.1); have HS1_ := (hb.cell (World.block_lt_of_cell? _ _ (hHeld.2))).trans (hHeld.2); refine ⟨_, rfl, ?_⟩; replace HO_8 := rG HO_8 hb; replace HO274 := rB (by refine dR ?_; exact HO274.out) hb; replace HB := sB zq4 hb; (try clear hb); (try clear hb2); (try clear hk); (try clear hi); refine hK.out _ _ ⟨HS0_, HS1_⟩ (fun hHeld => ?_); clear hK K; refine norm_ (a' := ?_) ?_ ?_; rotate_left
       ·
        show Act.put _ (some 47) _ = _
        simp only [Act.put, List.setIfInBounds_toArray, List.set_cons_zero, List.set_cons_succ, i64_w, i32_w]
        rfl
       refine pV 12 48 14 8191 ?_; refine pV 13 5 14 16383 ?_; refine dE ?_
       try go_wp2
       go_roundg k1
       case measure => have := HK1.out; omega
       case rel => exact ⟨(x5_1 ++ t276), (wrap64 (x9_1 + 1)), zq1, zq1, H', ⟨zq7⟩, ⟨by refine dR ?_; exact Kd.R_mono HO_8.out (fun _ hk => trivial)⟩, ⟨zq4⟩⟩
      exact zq141
     exact zq142
    exact zq146
   rw [if_neg c15] at H; have c15b0 := decide_eq_false c15; clear c15; replace H := Option.bind_eq_some_iff.mp H; obtain ⟨t277, A260, H⟩ := H; replace H : (some t277) = some r := H; have A26 := aM A260; clear A260; obtain rfl := Option.some.inj H
   go_wp2_with (first | ((with_reducible refine gC 40 rfl ?_); refine gL 50 Tryd.func40 #[.string x5_1] ?_; (with_reducible refine (spec_Digest.calls k1 x5_1 t277 _ A26.out).mono ?_); rintro e w27 ⟨rfl, hb⟩; refine ⟨_, rfl, ?_⟩; replace HO_8 := rG HO_8 hb; replace HB := sB zq4 hb; clear hb))
   go_ret; exact ⟨zq5, zq4⟩

/-! ### spec_l1Has: function 45 -/
def spec_l1Has.l0 : Nat → List ByteArray → ByteArray → Int → Option (Bool)
 | 0, _, _, _ => none
 | k + 1, x0, x1, x5 => if x5 < (x0.length : Int) then (if 0 ≤ x5 then (if (rdOf ByteArray.empty x0 x5).toList = x1.toList then (some true) else (spec_l1Has.l0 k x0 x1 (wrap64 (x5 + 1)))) else (none)) else (some false)
def spec_l1Has.f (k : Nat) (l0 : List ByteArray) (a1 : ByteArray) : Option (Bool) := spec_l1Has.l0 k l0 a1 0
theorem spec_l1Has.mono_l : ∀ k, (∀ y0 y1 y2, LeO (spec_l1Has.l0 k y0 y1 y2) (spec_l1Has.l0 (k + 1) y0 y1 y2))
 | 0 => fun _ _ _ r h => by simp [spec_l1Has.l0] at h
 | k + 1 => by
  have ih0 := spec_l1Has.mono_l k
  ·
   intro y0 y1 y2; unfold spec_l1Has.l0
   repeat' first
   | (with_reducible apply ih0)
   | (with_reducible exact LeO.refl _)
   | (with_reducible exact LeO.none _)
   | (with_reducible refine LeO.ite ?_ ?_)
   | (with_reducible refine LeO.bind ?_ (fun _ => ?_))
   | exact LeO.none _
   | refine LeO.ite ?_ ?_
   | refine LeO.bind ?_ (fun _ => ?_)
theorem spec_l1Has.mono : ∀ a0 a1 k, LeO (spec_l1Has.f k a0 a1) (spec_l1Has.f (k + 1) a0 a1) := by
 intro a0 a1 k; have ih0 := spec_l1Has.mono_l k; unfold spec_l1Has.f
 repeat' first
   | (with_reducible apply ih0)
   | (with_reducible exact LeO.refl _)
   | (with_reducible exact LeO.none _)
   | (with_reducible refine LeO.ite ?_ ?_)
   | (with_reducible refine LeO.bind ?_ (fun _ => ?_))
   | exact LeO.none _
   | refine LeO.ite ?_ ?_
   | refine LeO.bind ?_ (fun _ => ?_)
set_option maxHeartbeats 8000000 in
set_option maxRecDepth 100000 in
theorem spec_l1Has.calls (k : Nat) (A0 : Option Addr) (c0 : Nat) (l0 : List ByteArray) (a1 : ByteArray) (r : Bool) (w : World) (hr0 : Kd.C Kd.string w A0 l0.length l0) (hc0 : l0.length ≤ c0) (h : spec_l1Has.f k l0 a1 = some r) :
  Calls Tryd.prog 45 #[.slice A0 l0.length c0, .string a1] w fun e w' => e = .returned (.bool r) ∧ Drawn0 w w' := by
 have HR0 := aM hr0; have HC0 := aM hc0; clear hr0 hc0; have H : (spec_l1Has.l0 k l0 a1 0) = some r := h; clear h; have H' := aM H; clear H; go_enter Tryd.func45, Tryd.ntmps45; go_wp2
 go_loopg [5] k (fun kq v5 w' => ∃ (x5_1 : Int), v5 = .int .i64 x5_1 ∧ Aside0 (spec_l1Has.l0 kq l0 a1 x5_1 = some r) ∧ Aside0 (kq ≤ k) ∧ Drawn0 w w')
 case atStart => exact ⟨(0), zq1, H', ⟨Nat.le_refl _⟩, zq2⟩
 case round =>
  clear H'; (try clear p2); obtain ⟨x5_1, rfl, HA, HK1, ⟨m1, rfl⟩⟩ := hrel
  cases gk with
  | zero => exact absurd HA.out (by simp [spec_l1Has.l0])
  | succ k1 =>
   have H := HA.out; clear HA; simp only [spec_l1Has.l0] at H; by_cases c3 : x5_1 < (l0.length : Int)
   ·
    rw [if_pos c3] at H; have c3b0 := decide_eq_true c3; clear c3; by_cases c4 : 0 ≤ x5_1
    ·
     rw [if_pos c4] at H; have c4b0 := decide_eq_true c4; clear c4; by_cases c5 : (rdOf ByteArray.empty l0 x5_1).toList = a1.toList
     ·
      rw [if_pos c5] at H; have c5b0 : ((rdOf ByteArray.empty l0 x5_1).toList == a1.toList) = true := beq_iff_eq.mpr c5; have c5b1 : ((rdOf ByteArray.empty l0 x5_1).toList != a1.toList) = false := bne_eq_false_iff_eq.mpr c5; clear c5; obtain rfl := Option.some.inj H; have p278 : 0 ≤ (x5_1 : Int) := of_decide_eq_true zq6; have q278 : x5_1 < (l0.length : Int) := of_decide_eq_true zq6; obtain ⟨ad278, e278, hx278_0⟩ := Kd.at_string HR0.out x5_1 p278 q278; cases e278; replace p278 := eq_true p278; replace q278 := eq_true q278; go_wp2; go_ret; exact ⟨zq1, zq2⟩
     rw [if_neg c5] at H; have c5b0 : ((rdOf ByteArray.empty l0 x5_1).toList == a1.toList) = false := beq_eq_false_iff_ne.mpr c5; have c5b1 : ((rdOf ByteArray.empty l0 x5_1).toList != a1.toList) = true := bne_iff_ne.mpr c5; have H' := aM H; clear H; have p278 : 0 ≤ (x5_1 : Int) := of_decide_eq_true zq6; have q278 : x5_1 < (l0.length : Int) := of_decide_eq_true zq6; obtain ⟨ad278, e278, hx278_0⟩ := Kd.at_string HR0.out x5_1 p278 q278; cases e278; replace p278 := eq_true p278; replace q278 := eq_true q278; go_wp2
     go_roundg k1
     case measure => have := HK1.out; omega
     case rel => exact ⟨(wrap64 (x5_1 + 1)), zq1, H', ⟨zq7⟩, zq2⟩
    exact zq131
   rw [if_neg c3] at H; have c3b0 := decide_eq_false c3; clear c3; obtain rfl := Option.some.inj H; go_wp2; go_ret; exact ⟨zq1, zq2⟩

/-! ### spec_l7Less: function 28 -/
def spec_l7Less.l0 : Nat → List ByteArray → List ByteArray → List ByteArray → Int → Option (List ByteArray)
 | 0, _, _, _, _ => none
 | k + 1, x0, x1, x5, x6 => if x6 < (x0.length : Int) then (if 0 ≤ x6 then ((spec_l1Has.f k x1 (rdOf ByteArray.empty x0 x6)).bind fun t283 => (if t283 = true then (spec_l7Less.l0 k x0 x1 x5 (wrap64 (x6 + 1))) else (if x5.length < 8796093022208 then (spec_l7Less.l0 k x0 x1 (x5 ++ [rdOf ByteArray.empty x0 x6]) (wrap64 (x6 + 1))) else (none)))) else (none)) else (some x5)
def spec_l7Less.f (k : Nat) (l0 : List ByteArray) (l1 : List ByteArray) : Option (List ByteArray) := spec_l7Less.l0 k l0 l1 (([] : List ByteArray)) 0
theorem spec_l7Less.mono_l : ∀ k, (∀ y0 y1 y2 y3, LeO (spec_l7Less.l0 k y0 y1 y2 y3) (spec_l7Less.l0 (k + 1) y0 y1 y2 y3))
 | 0 => fun _ _ _ _ r h => by simp [spec_l7Less.l0] at h
 | k + 1 => by
  have ih0 := spec_l7Less.mono_l k
  ·
   intro y0 y1 y2 y3; unfold spec_l7Less.l0
   repeat' first
   | (with_reducible apply ih0)
   | (with_reducible apply spec_l1Has.mono)
   | (with_reducible exact LeO.refl _)
   | (with_reducible exact LeO.none _)
   | (with_reducible refine LeO.ite ?_ ?_)
   | (with_reducible refine LeO.bind ?_ (fun _ => ?_))
   | exact LeO.none _
   | refine LeO.ite ?_ ?_
   | refine LeO.bind ?_ (fun _ => ?_)
theorem spec_l7Less.mono : ∀ a0 a1 k, LeO (spec_l7Less.f k a0 a1) (spec_l7Less.f (k + 1) a0 a1) := by
 intro a0 a1 k; have ih0 := spec_l7Less.mono_l k; unfold spec_l7Less.f
 repeat' first
   | (with_reducible apply ih0)
   | (with_reducible apply spec_l1Has.mono)
   | (with_reducible exact LeO.refl _)
   | (with_reducible exact LeO.none _)
   | (with_reducible refine LeO.ite ?_ ?_)
   | (with_reducible refine LeO.bind ?_ (fun _ => ?_))
   | exact LeO.none _
   | refine LeO.ite ?_ ?_
   | refine LeO.bind ?_ (fun _ => ?_)
set_option maxHeartbeats 8000000 in
set_option maxRecDepth 100000 in
theorem spec_l7Less.calls (k : Nat) (A0 : Option Addr) (c0 : Nat) (l0 : List ByteArray) (A1 : Option Addr) (c1 : Nat) (l1 : List ByteArray) (r : List ByteArray) (w : World) (hr0 : Kd.C Kd.string w A0 l0.length l0) (hc0 : l0.length ≤ c0) (hr1 : Kd.C Kd.string w A1 l1.length l1) (hc1 : l1.length ≤ c1) (h : spec_l7Less.f k l0 l1 = some r) :
  Calls Tryd.prog 28 #[.slice A0 l0.length c0, .slice A1 l1.length c1] w fun e w' => ∃ v0_ : Value, e = .returned (v0_) ∧ Kd.R Kd.string 9 w' w.heap.size (fun _ => True) v0_ r ∧ Below w.heap.size w w' := by
 have HR0 := aM hr0; have HC0 := aM hc0; clear hr0 hc0; have HR1 := aM hr1; have HC1 := aM hc1; clear hr1 hc1; have HB := aM (Below.refl w.heap.size w); unfold spec_l7Less.f at h; have H := h; clear h; obtain ⟨y279, hy279⟩ : ∃ y_ : List ByteArray, y_ = (([] : List ByteArray)) := ⟨_, rfl⟩; have hy_ := hy279; replace H : (spec_l7Less.l0 k l0 l1 y279 0) = some r := hyE; clear hy_; have Ny279 := aM hy279; clear hy279; have H' := aM H; clear H; go_enter Tryd.func28, Tryd.ntmps28
 go_wp2_with (first | ((with_reducible refine gD 7 rfl ?_); refine Kd.R_lit Kd.string _ 9 ?hg (N := 7) ?hd (xs := ([] : List ByteArray)) (inner := []) (ok := fun _ => True) (okp := fun _ => True) ?hr ?hp (fun _ hk => hk) trivial (Below.refl _ _) (Nat.le_refl _) (by simp) ?_; (case hd => rfl); (case hg => rfl); (case hr => exact zq8); (case hp => exact zq9); intro v280 w3 ho4 hb hg_ hnew_; clear hg_ hnew_; (first | rw [← Ny279.out] at ho4 | (simp only [Int.reduceToNat] at ho4; rw [← Ny279.out] at ho4)); have HO281 := aM (Kd.R_lower ho4 (below_size zq4)); replace HB := sB zq4 hb; clear hb ho4))
 go_loopg [5, 6] k (fun kq v5 v6 w' => ∃ (x5_1 : List ByteArray) (x6_1 : Int), v6 = .int .i64 x6_1 ∧ Aside0 (spec_l7Less.l0 kq l0 l1 x5_1 x6_1 = some r) ∧ Aside0 (kq ≤ k) ∧ Aside0 (Kd.R Kd.string 9 w' w.heap.size (fun _ => True) v5 x5_1) ∧ Aside0 (Below w.heap.size w w'))
 case atStart => exact ⟨(y279), (0), zq1, H', ⟨Nat.le_refl _⟩, ⟨by refine dR ?_; exact HO281.out⟩, ⟨zq4⟩⟩
 case round =>
  clear H'; (try clear c1); (try clear c2); (try clear p2); obtain ⟨x5_1, x6_1, rfl, HA, HK1, HO_5, HB⟩ := hrel
  cases gk with
  | zero => exact absurd HA.out (by simp [spec_l7Less.l0])
  | succ k1 =>
   have H := HA.out; clear HA; simp only [spec_l7Less.l0] at H; by_cases c5 : x6_1 < (l0.length : Int)
   ·
    rw [if_pos c5] at H; have c5b0 := decide_eq_true c5; clear c5; by_cases c6 : 0 ≤ x6_1
    ·
     rw [if_pos c6] at H; have c6b0 := decide_eq_true c6; clear c6; replace H := Option.bind_eq_some_iff.mp H; obtain ⟨t283, A70, H⟩ := H; (try dsimp only at H); have A7 := aM A70; clear A70; by_cases c8 : t283 = true
     ·
      subst c8; rw [if_pos rfl] at H; have H' := aM H; clear H; have p282 : 0 ≤ (x6_1 : Int) := of_decide_eq_true zq6; have q282 : x6_1 < (l0.length : Int) := of_decide_eq_true zq6; obtain ⟨ad282, e282, hx282_0⟩ := Kd.at_string HR0.out x6_1 p282 q282; cases e282; replace hx282_0 := hxB HB hx282_0; replace p282 := eq_true p282; replace q282 := eq_true q282
      go_wp2_with (first | ((with_reducible refine gC 45 rfl ?_); refine gL 19 Tryd.func45 #[.slice A1 l1.length c1, .string (rdOf ByteArray.empty l0 x6_1)] ?_; (with_reducible refine (spec_l1Has.calls k1 _ _ l1 (rdOf ByteArray.empty l0 x6_1) true _ ?_ ?_ A7.out).mono ?_); exact zq41; exact zq42; rintro e w' ⟨rfl, ⟨nd, rfl⟩⟩; refine ⟨_, rfl, ?_⟩))
      go_roundg k1
      case measure => have := HK1.out; omega
      case rel => exact ⟨(x5_1), (wrap64 (x6_1 + 1)), zq1, H', ⟨zq7⟩, ⟨zq11⟩, ⟨zq4⟩⟩
     replace c8 := Bool.eq_false_iff.mpr c8; subst c8; rw [if_neg (show ¬ (false = true) by decide)] at H; by_cases c9 : x5_1.length < 8796093022208
     ·
      rw [if_pos c9] at H; have LMc9 := aM c9; clear c9; obtain ⟨y285, hy285⟩ : ∃ y_ : List ByteArray, y_ = (x5_1 ++ [rdOf ByteArray.empty l0 x6_1]) := ⟨_, rfl⟩; have hy_ := hy285; replace H : (spec_l7Less.l0 k1 l0 l1 y285 (wrap64 (x6_1 + 1))) = some r := hyE; clear hy_; have Ny285 := aM hy285; clear hy285; have H' := aM H; clear H; have p282 : 0 ≤ (x6_1 : Int) := of_decide_eq_true zq6; have q282 : x6_1 < (l0.length : Int) := of_decide_eq_true zq6; obtain ⟨ad282, e282, hx282_0⟩ := Kd.at_string HR0.out x6_1 p282 q282; cases e282; replace hx282_0 := hxB HB hx282_0; replace p282 := eq_true p282; replace q282 := eq_true q282
      go_wp2_with (first | ((with_reducible refine gC 45 rfl ?_); refine gL 19 Tryd.func45 #[.slice A1 l1.length c1, .string (rdOf ByteArray.empty l0 x6_1)] ?_; (with_reducible refine (spec_l1Has.calls k1 _ _ l1 (rdOf ByteArray.empty l0 x6_1) false _ ?_ ?_ A7.out).mono ?_); exact zq41; exact zq42; rintro e w' ⟨rfl, ⟨nd, rfl⟩⟩; refine ⟨_, rfl, ?_⟩; have p284 : 0 ≤ (x6_1 : Int) := of_decide_eq_true zq6; have q284 : x6_1 < (l0.length : Int) := of_decide_eq_true zq6; obtain ⟨ad284, e284, hx284_0⟩ := Kd.at_string HR0.out x6_1 p284 q284; obtain rfl : ad282 = ad284 := (by injection e284); replace hx284_0 := hxB HB hx284_0; replace p284 := eq_true p284; replace q284 := eq_true q284) | ((with_reducible refine gate_builtin (b := .append) (xs := #[.tmp 21, .tmp 26]) rfl ?_); at_builtin; refine Kd.R_append Kd.string (w0 := w) w.heap.size rfl (.tmp 21) (.tmp 26) 22 9 (.string ⟨#[]⟩) 16 rfl Tryd.underlying22 info9 rfl (by decide) (by omega) u5 x5_1 (rdOf ByteArray.empty l0 x6_1) [.string (rdOf ByteArray.empty l0 x6_1)] (fun _ => True) (fun _ => False) rfl rfl ?aP (fun _ hk => hk.elim) ?aF ?aO ?aB ?aS ?aL ?_; (case aP => exact rfl); (case aB => exact zq4); (case aF => exact zq10); (case aO => exact zq11); (case aS => exact zq123); (case aL => exact zq86); intro v286 w10 ho hb hg hat; rw [← Ny285.out] at ho; have n0_ := aM (hb); have n1_ := aM (ho); clear HB; clear HO_5; have HB := n0_; have HO287 := n1_; clear n0_ n1_; clear ho hb hg hat))
      go_roundg k1
      case measure => have := HK1.out; omega
      case rel => exact ⟨(y285), (wrap64 (x6_1 + 1)), zq1, H', ⟨zq7⟩, ⟨by refine dR ?_; exact HO287.out⟩, ⟨zq4⟩⟩
     exact zq134
    exact zq132
   rw [if_neg c5] at H; have c5b0 := decide_eq_false c5; clear c5; obtain rfl := Option.some.inj H; go_wp2; go_ret; exact ⟨_, zq5, zq11, zq4⟩

end Go.Proofs.YtoeomljkhabifaaDoor.QFnDiff
