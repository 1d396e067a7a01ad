/- Written by wip/myprint.py of this repo (the kit's print, with additions of this session). -/
import Derived.Test.YtoeomljkhabifaaDoorQFnExactNodeOfx0
import Derived.Test.YtoeomljkhabifaaDoorQFnExactNodeOfx1
import Derived.Test.YtoeomljkhabifaaDoorQFnExactNodeOfx2
import Derived.Test.YtoeomljkhabifaaDoorQFnExactNodeOfx4
set_option maxRecDepth 100000
namespace Go.Proofs.YtoeomljkhabifaaDoor.QFnExactNodeOf
open Go.RowKit Go.Proofs.YtoeomljkhabifaaDoorW.PrintWords Go.Proofs.YtoeomljkhabifaaDoorW.PrintLast Go.Proofs.YtoeomljkhabifaaDoorW.PrintMore
attribute [local go_sem] max2_int min2_int max_two min_two max_three min_three max_four min_four   -- for this text's walks alone
set_option linter.unusedVariables false
set_option linter.unusedSimpArgs false

/-! ### spec_l7Node: function 22 -/
mutual
def spec_l7Node.l0 : Nat → ByteArray → List ByteArray → Int → Option (ByteArray)
 | 0, _, _, _ => none
 | k + 1, x5, x6, x7 => if x7 < (x6.length : Int) then (if 0 ≤ x7 then (if x5.size + (rdOf ByteArray.empty x6 x7).size ≤ 9223372036854775807 then (spec_l7Node.l0 k (x5 ++ (rdOf ByteArray.empty x6 x7)) x6 (wrap64 (x7 + 1))) else (none)) else (none)) else ((spec_Digest.f k x5).bind fun t223 => (some t223))
def spec_l7Node.l1 : Nat → List ByteArray → ByteArray → List ByteArray → Int → Option (ByteArray)
 | 0, _, _, _, _ => none
 | k + 1, x0, x5, x8, x9 => if x9 < 16 then (if 0 ≤ x9 then (if x9 < (x8.length : Int) then ((spec_l7Under.f k x0 (rdOf ByteArray.empty x8 x9)).bind fun t228 => ((spec_l7Node.f k t228 (rdOf ByteArray.empty x8 x9)).bind fun t232 => (if x5.size + t232.size ≤ 9223372036854775807 then (spec_l7Node.l1 k x0 (x5 ++ t232) x8 (wrap64 (x9 + 1))) else (none)))) else (none)) else (none)) else ((spec_Digest.f k x5).bind fun t233 => (some t233))
def spec_l7Node.f : Nat → List ByteArray → ByteArray → Option (ByteArray)
 | 0, _, _ => none
 | k + 1, l0, a1 => if (a1.size : Int) = 2 then ((spec_l7Under.f k l0 a1).bind fun t219 => (spec_l7Node.l0 k (⟨#[]⟩ : ByteArray) t219 0)) else ((spec_l7Below.f k a1).bind fun t224 => (spec_l7Node.l1 k l0 (⟨#[]⟩ : ByteArray) t224 0))
end
theorem spec_l7Node.mono_l : ∀ k, (∀ y0 y1, LeO (spec_l7Node.f k y0 y1) (spec_l7Node.f (k + 1) y0 y1)) ∧ (∀ y0 y1 y2, LeO (spec_l7Node.l0 k y0 y1 y2) (spec_l7Node.l0 (k + 1) y0 y1 y2)) ∧ (∀ y0 y1 y2 y3, LeO (spec_l7Node.l1 k y0 y1 y2 y3) (spec_l7Node.l1 (k + 1) y0 y1 y2 y3))
 | 0 => ⟨fun _ _ r h => by simp [spec_l7Node.f] at h, fun _ _ _ r h => by simp [spec_l7Node.l0] at h, fun _ _ _ _ r h => by simp [spec_l7Node.l1] at h⟩
 | k + 1 => by
  obtain ⟨ih0, ih1, ih2⟩ := spec_l7Node.mono_l k; refine ⟨?_, ?_, ?_⟩
  ·
   intro y0 y1; unfold spec_l7Node.f
   repeat' first
   | (with_reducible apply ih0)
   | (with_reducible apply ih1)
   | (with_reducible apply ih2)
   | (with_reducible apply spec_Digest.mono)
   | (with_reducible apply spec_l7Below.mono)
   | (with_reducible apply spec_l7Under.mono)
   | (with_reducible exact LeO.refl _)
   | (with_reducible exact LeO.none _)
   | (with_reducible refine LeO.ite ?_ ?_)
   | (with_reducible refine LeO.bind ?_ (fun _ => ?_))
   | exact LeO.none _
   | refine LeO.ite ?_ ?_
   | refine LeO.bind ?_ (fun _ => ?_)
  ·
   intro y0 y1 y2; unfold spec_l7Node.l0
   repeat' first
   | (with_reducible apply ih0)
   | (with_reducible apply ih1)
   | (with_reducible apply ih2)
   | (with_reducible apply spec_Digest.mono)
   | (with_reducible apply spec_l7Below.mono)
   | (with_reducible apply spec_l7Under.mono)
   | (with_reducible exact LeO.refl _)
   | (with_reducible exact LeO.none _)
   | (with_reducible refine LeO.ite ?_ ?_)
   | (with_reducible refine LeO.bind ?_ (fun _ => ?_))
   | exact LeO.none _
   | refine LeO.ite ?_ ?_
   | refine LeO.bind ?_ (fun _ => ?_)
  intro y0 y1 y2 y3; unfold spec_l7Node.l1
  repeat' first
  | (with_reducible apply ih0)
  | (with_reducible apply ih1)
  | (with_reducible apply ih2)
  | (with_reducible apply spec_Digest.mono)
  | (with_reducible apply spec_l7Below.mono)
  | (with_reducible apply spec_l7Under.mono)
  | (with_reducible exact LeO.refl _)
  | (with_reducible exact LeO.none _)
  | (with_reducible refine LeO.ite ?_ ?_)
  | (with_reducible refine LeO.bind ?_ (fun _ => ?_))
  | exact LeO.none _
  | refine LeO.ite ?_ ?_
  | refine LeO.bind ?_ (fun _ => ?_)
theorem spec_l7Node.mono : ∀ a0 a1 k, LeO (spec_l7Node.f k a0 a1) (spec_l7Node.f (k + 1) a0 a1) := by
 intro a0 a1 k; obtain ⟨ih0, ih1, ih2⟩ := spec_l7Node.mono_l k; exact ih0 a0 a1
def spec_l7Node.T13 : Bool × List (List Nat × List Nat) := (true, [([], []), ([], []), ([], []), ([], []), ([2, 3], [2, 3]), ([4], [4]), ([1, 5], [1, 5]), ([], []), ([], []), ([7, 8], [7, 8]), ([9], [9]), ([6, 10, 6], [6, 10]), ([0, 11], [0, 11]), ([12, 11, 0, 1, 2, 3, 4, 5, 6, 7, 8, 9, 10, 11, 12], [0, 12])])
def spec_l7Node.B13 : List Nat := [0, 0, 0, 0, 12, 28, 62, 0, 0, 384, 896, 2046, 4095, 8191]
theorem spec_l7Node.tab13 : rtab .any (opsOf Tryd.f22 13) = spec_l7Node.T13 := by kernel_rfl
theorem spec_l7Node.bits13 : waitsOk spec_l7Node.T13.2 spec_l7Node.B13 = true := by kernel_rfl
set_option maxHeartbeats 8000000 in
set_option maxRecDepth 100000 in
theorem spec_l7Node.calls (k : Nat) : ∀ (A0 : Option Addr) (c0 : Nat) (l0 : List ByteArray) (a1 : ByteArray) (r : ByteArray) (w : World) (hr0 : Kd.C Kd.string w A0 l0.length l0) (hc0 : l0.length ≤ c0) (h : spec_l7Node.f k l0 a1 = some r),
  Calls Tryd.prog 22 #[.slice A0 l0.length c0, .string a1] w fun e w' => e = .returned (.string r) ∧ Below w.heap.size w w' := by
 induction k using Nat.strongRecOn with
 | _ k ih =>
 intro A0 c0 l0 a1 r w hr0 hc0 h
 cases k with
 | zero => exact absurd h (by simp [spec_l7Node.f])
 | succ k =>
 simp only [spec_l7Node.f] at h; have HR0 := aM hr0; have HC0 := aM hc0; clear hr0 hc0; have HB := aM (Below.refl w.heap.size w); have H := h; clear h; by_cases c3 : (a1.size : Int) = 2
 ·
  rw [if_pos c3] at H; have c3b0 : ((a1.size : Int) == 2) = true := beq_iff_eq.mpr c3; have c3b1 : ((a1.size : Int) != 2) = false := bne_eq_false_iff_eq.mpr c3; clear c3; replace H := Option.bind_eq_some_iff.mp H; obtain ⟨t219, A40, H⟩ := H; (try dsimp only at H); have A4 := aM A40; clear A40; have H' := aM H; clear H; go_enter Tryd.func22, Tryd.ntmps22
  go_wp2_with (first | ((with_reducible refine gC 26 rfl ?_); refine gL 15 Tryd.func26 #[.slice A0 l0.length c0, .string a1] ?_; (with_reducible refine (spec_l7Under.calls k _ _ l0 a1 t219 _ ?_ ?_ A4.out).mono ?_); exact zq7; exact zq8; rintro e w5 ⟨v220, rfl, ho0, hb⟩; refine ⟨_, rfl, ?_⟩; have HO221 := aM (Kd.R_lower ho0 (below_size zq11)); replace HB := sB zq11 hb; clear hb; (try clear ho0)))
  go_loopg [5, 7] k (fun kq v5 v7 w' => ∃ (x5_1 : ByteArray) (x7_1 : Int), v5 = .string x5_1 ∧ v7 = .int .i64 x7_1 ∧ Aside0 (spec_l7Node.l0 kq x5_1 t219 x7_1 = some r) ∧ Aside0 (kq ≤ k) ∧ Aside0 (Kd.R Kd.string 9 w' w.heap.size (fun _ => True) v220 t219) ∧ Aside0 (Below w.heap.size w w'))
  case atStart => exact ⟨((⟨#[]⟩ : ByteArray)), (0), zq1, zq1, H', ⟨Nat.le_refl _⟩, ⟨by refine dR ?_; exact HO221.out⟩, ⟨zq11⟩⟩
  case round =>
   clear H'; (try clear c2); (try clear p2); (try clear c3); (try clear c3b0); (try clear c3b1); obtain ⟨x5_1, x7_1, rfl, rfl, HA, HK1, HO_6, HB⟩ := hrel
   cases gk with
   | zero => exact absurd HA.out (by simp [spec_l7Node.l0])
   | succ k1 =>
    have H := HA.out; clear HA; simp only [spec_l7Node.l0] at H; by_cases c6 : x7_1 < (t219.length : Int)
    ·
     rw [if_pos c6] at H; have c6b0 := decide_eq_true c6; clear c6; by_cases c7 : 0 ≤ x7_1
     ·
      rw [if_pos c7] at H; have c7b0 := decide_eq_true c7; clear c7; by_cases c8 : x5_1.size + (rdOf ByteArray.empty t219 x7_1).size ≤ 9223372036854775807
      ·
       rw [if_pos c8] at H; have c8b0 := eq_true c8; have c8b1 := decide_eq_true c8
       try have c8b2 : (9223372036854775807 < x5_1.size + (rdOf ByteArray.empty t219 x7_1).size) = False := eq_false (Nat.not_lt.2 c8)
       have H' := aM H; clear H; obtain ⟨Ao9, co9, eo9⟩ := Kd.R_slice HO_6.out; subst eo9; have p222 : 0 ≤ (x7_1 : Int) := of_decide_eq_true zq3; have q222 : x7_1 < (t219.length : Int) := of_decide_eq_true zq3; obtain ⟨ad222, e222, hx222_0⟩ := Kd.at_string (Kd.R_reads' HO_6.out).2.2 x7_1 p222 q222; cases e222; replace p222 := eq_true p222; replace q222 := eq_true q222; go_wp2
       go_roundg k1
       case measure => have := HK1.out; omega
       case rel => exact ⟨(x5_1 ++ (rdOf ByteArray.empty t219 x7_1)), (wrap64 (x7_1 + 1)), zq1, zq1, H', ⟨zq4⟩, ⟨zq30⟩, ⟨zq11⟩⟩
      exact zq59
     exact zq60
    rw [if_neg c6] at H; have c6b0 := decide_eq_false c6; clear c6; replace H := Option.bind_eq_some_iff.mp H; obtain ⟨t223, A100, H⟩ := H; replace H : (some t223) = some r := H; have A10 := aM A100; clear A100; obtain rfl := Option.some.inj H; obtain ⟨Ao11, co11, eo11⟩ := Kd.R_slice HO_6.out; subst eo11
    go_wp2_with (first | ((with_reducible refine gC 40 rfl ?_); refine gL 29 Tryd.func40 #[.string x5_1] ?_; (with_reducible refine (spec_Digest.calls k1 x5_1 t223 _ A10.out).mono ?_); rintro e w12 ⟨rfl, hb⟩; refine ⟨_, rfl, ?_⟩; replace HO_6 := rG HO_6 hb; replace HB := sB zq11 hb; clear hb))
    go_ret; exact ⟨zq14, zq11⟩
 rw [if_neg c3] at H; have c3b0 : ((a1.size : Int) == 2) = false := beq_eq_false_iff_ne.mpr c3; have c3b1 : ((a1.size : Int) != 2) = true := bne_iff_ne.mpr c3; replace H := Option.bind_eq_some_iff.mp H; obtain ⟨t224, A130, H⟩ := H; (try dsimp only at H); have A13 := aM A130; clear A130; have H' := aM H; clear H; go_enter Tryd.func22, Tryd.ntmps22
 go_wp2_with (first | ((with_reducible refine gC 27 rfl ?_); refine gL 31 Tryd.func27 #[.string a1] ?_; (with_reducible refine (spec_l7Below.calls k a1 t224 _ A13.out).mono ?_); rintro e w14 ⟨v225, rfl, ho0, hb⟩; refine ⟨_, rfl, ?_⟩; have HO226 := aM (Kd.R_lower ho0 (below_size zq11)); replace HB := sB zq11 hb; clear hb; (try clear ho0)))
 go_loopg [5, 9] k (fun kq v5 v9 w' => ∃ (x5_1 : ByteArray) (x9_1 : Int), v5 = .string x5_1 ∧ v9 = .int .i64 x9_1 ∧ Aside0 (spec_l7Node.l1 kq l0 x5_1 t224 x9_1 = some r) ∧ Aside0 (kq ≤ k) ∧ Aside0 (Kd.R Kd.string 9 w' w.heap.size (fun _ => True) v225 t224) ∧ Aside0 (Below w.heap.size w w'))
 case atStart => exact ⟨((⟨#[]⟩ : ByteArray)), (0), zq1, zq1, H', ⟨Nat.le_refl _⟩, ⟨by refine dR ?_; exact HO226.out⟩, ⟨zq11⟩⟩
 case round =>
  clear H'; (try clear c2); (try clear p2); (try clear q2); (try clear hx2); (try clear c3); (try clear c3b0); (try clear c3b1); (try clear c4); (try clear c6); (try clear c6b0); (try clear p6); (try clear c7); (try clear c7b0); (try clear c8); (try clear c8b0); (try clear c8b1); (try clear c8b2); (try clear hx222_0); (try clear p2); (try clear p222); (try clear q222); obtain ⟨x5_1, x9_1, rfl, rfl, HA, HK1, HO_8, HB⟩ := hrel
  cases gk with
  | zero => exact absurd HA.out (by simp [spec_l7Node.l1])
  | succ k1 =>
   have H := HA.out; clear HA; simp only [spec_l7Node.l1] at H; by_cases c15 : x9_1 < 16
   ·
    rw [if_pos c15] at H; have c15b0 := decide_eq_true c15; clear c15; by_cases c16 : 0 ≤ x9_1
    ·
     rw [if_pos c16] at H; have c16b0 := decide_eq_true c16; clear c16; by_cases c17 : x9_1 < (t224.length : Int)
     ·
      rw [if_pos c17] at H; have c17b0 := decide_eq_true c17; clear c17; replace H := Option.bind_eq_some_iff.mp H; obtain ⟨t228, A180, H⟩ := H; (try dsimp only at H); have A18 := aM A180; clear A180; replace H := Option.bind_eq_some_iff.mp H; obtain ⟨t232, A190, H⟩ := H; (try dsimp only at H); have A19 := aM A190; clear A190; by_cases c20 : x5_1.size + t232.size ≤ 9223372036854775807
      ·
       rw [if_pos c20] at H; have c20b0 := eq_true c20; have c20b1 := decide_eq_true c20
       try have c20b2 : (9223372036854775807 < x5_1.size + t232.size) = False := eq_false (Nat.not_lt.2 c20)
       have H' := aM H; clear H
       try go_wp2
       replace HO_8 := aM (Kd.R_drew HO_8.out); replace HB := aM (below_drew1 HB.out); obtain ⟨Ao22, co22, eo22⟩ := Kd.R_slice HO_8.out
       (first | subst eo22 | (injection eo22 with f1_ f2_ f3_; have f4_ := f1_.symm; have f5_ := f3_.symm; clear f1_ f2_ f3_; subst f4_; subst f5_))
       have p227 : 0 ≤ (x9_1 : Int) := of_decide_eq_true zq3; have q227 : x9_1 < (t224.length : Int) := of_decide_eq_true zq3; obtain ⟨ad227, e227, hx227_0⟩ := Kd.at_string (Kd.R_reads' HO_8.out).2.2 x9_1 p227 q227; cases e227; replace p227 := eq_true p227; replace q227 := eq_true q227; have p231 : 0 ≤ (x9_1 : Int) := of_decide_eq_true zq3; have q231 : x9_1 < (t224.length : Int) := of_decide_eq_true zq3; obtain ⟨ad231, e231, hx231_0⟩ := Kd.at_string (Kd.R_reads' HO_8.out).2.2 x9_1 p231 q231; obtain rfl : ad227 = ad231 := (by injection e231); replace p231 := eq_true p231; replace q231 := eq_true q231; refine start_ (n := 14) (S := fun w' => w'.cell? (ad227.add (x9_1).toNat) = some (.string (rdOf ByteArray.empty t224 x9_1)) ∧ w'.cell? (ad227.add (x9_1).toNat) = some (.string (rdOf ByteArray.empty t224 x9_1))) (ds := []) (bA 14 0) (by kernel_rfl) rfl rfl ⟨hx227_0, hx231_0⟩ (fun hHeld => ?_); refine with_tabW spec_l7Node.tab13 spec_l7Node.bits13 (fun HT_ HW_ => ?_)
       generalize wr.drew = w21 at HO_8 HB hx227_0 hx231_0 hHeld ⊢; refine pV 0 36 14 1 ?_; refine pV 1 37 14 3 ?_; refine pV 2 38 14 7 ?_; refine pV 3 39 14 15 ?_; refine pV 4 40 14 31 ?_; refine pV 7 43 14 159 ?_; refine pV 8 44 14 415 ?_; refine pV 9 45 14 927 ?_; refine tV 5 41 14 959 rfl zq65 ?_; refine tV 10 46 14 1983 rfl zq65 ?_; refine oE 6 42 14 2047 rfl (fun K hK => ?_); refine goes_ Tryd.func26 (by kernel_rfl) rfl #[.slice A0 l0.length c0, .string (rdOf ByteArray.empty t224 x9_1)] (by rfl) rfl rfl zq5 ?_
       with_reducible refine (spec_l7Under.calls k1 _ _ l0 (rdOf ByteArray.empty t224 x9_1) t228 _ ?side1 ?side2 A18.out).mono ?_
       (case side1 => exact zq21)
       (case side2 => exact zq8)
       rintro e w23 ⟨v229, rfl, ho0, hb⟩; have HS0_ := (hb.cell (World.block_lt_of_cell? _ _ (hHeld.1))).trans (hHeld.1); have HS1_ := (hb.cell (World.block_lt_of_cell? _ _ (hHeld.2))).trans (hHeld.2); refine ⟨_, rfl, ?_⟩; have HO230 := aM (Kd.R_lower (Kd.R_new' ho0 (Kd.R_lt zq31)) (below_size zq11)); replace HO_8 := aM (Kd.R_elder' zq31 (Kd.R_base ho0) hb); replace HB := sB zq11 hb; (try clear hb); (try clear hb2); (try clear hk); (try clear hi); (try clear ho0); obtain ⟨Ao24, co24, eo24⟩ := Kd.R_slice HO230.out
       (first | subst eo24 | (injection eo24 with f1_ f2_ f3_; have f4_ := f1_.symm; have f5_ := f3_.symm; clear f1_ f2_ f3_; subst f4_; subst f5_))
       refine hK.out _ _ ⟨HS0_, HS1_⟩ (fun hHeld => ?_); clear hK K; refine norm_ (a' := ?_) ?_ ?_; rotate_left
       ·
        show Act.put _ (some 42) _ = _
        simp only [Act.put, List.setIfInBounds_toArray, List.set_cons_zero, List.set_cons_succ, i64_w, i32_w]
        rfl
       refine oE 11 47 14 4095 rfl (fun K hK => ?_); refine goes_ Tryd.func22 (by kernel_rfl) rfl #[.slice Ao24 t228.length co24, .string (rdOf ByteArray.empty t224 x9_1)] (by rfl) rfl rfl zq5 ?_
       with_reducible refine (ih k1 zq4 _ _ t228 (rdOf ByteArray.empty t224 x9_1) t232 _ ?side1 ?side2 A19.out).mono ?_
       (case side1 => repeat (first | exact (Kd.R_reads' HO230.out).2.2 | (with_reducible refine Kd.C_alloc ?_ _) | (with_reducible refine Kd.C_drewN ?_ _) | (with_reducible refine Kd.C_drew ?_)))
       (case side2 => exact (Kd.R_reads' HO230.out).2.1)
       rintro e w25 ⟨rfl, hb⟩; have HS0_ := (hb.cell (World.block_lt_of_cell? _ _ (hHeld.1))).trans (hHeld.1); have HS1_ := (hb.cell (World.block_lt_of_cell? _ _ (hHeld.2))).trans (hHeld.2); refine ⟨_, rfl, ?_⟩; replace HO_8 := rG HO_8 hb; replace HO230 := rB (by refine dR ?_; exact HO230.out) hb; replace HB := sB zq11 hb; (try clear hb); (try clear hb2); (try clear hk); (try clear hi); refine hK.out _ _ ⟨HS0_, HS1_⟩ (fun hHeld => ?_); clear hK K; refine norm_ (a' := ?_) ?_ ?_; rotate_left
       ·
        show Act.put _ (some 47) _ = _
        simp only [Act.put, List.setIfInBounds_toArray, List.set_cons_zero, List.set_cons_succ, i64_w, i32_w]
        rfl
       refine pV 12 48 14 8191 ?_; refine pV 13 5 14 16383 ?_; refine dE ?_
       try go_wp2
       go_roundg k1
       case measure => have := HK1.out; omega
       case rel => exact ⟨(x5_1 ++ t232), (wrap64 (x9_1 + 1)), zq1, zq1, H', ⟨zq4⟩, ⟨by refine dR ?_; exact Kd.R_mono HO_8.out (fun _ hk => trivial)⟩, ⟨zq11⟩⟩
      rw [if_neg c20] at H; exact absurd H (by simp)
     rw [if_neg c17] at H; exact absurd H (by simp)
    rw [if_neg c16] at H; exact absurd H (by simp)
   rw [if_neg c15] at H; have c15b0 := decide_eq_false c15; clear c15; replace H := Option.bind_eq_some_iff.mp H; obtain ⟨t233, A260, H⟩ := H; replace H : (some t233) = some r := H; have A26 := aM A260; clear A260; obtain rfl := Option.some.inj H
   go_wp2_with (first | ((with_reducible refine gC 40 rfl ?_); refine gL 50 Tryd.func40 #[.string x5_1] ?_; (with_reducible refine (spec_Digest.calls k1 x5_1 t233 _ A26.out).mono ?_); rintro e w27 ⟨rfl, hb⟩; refine ⟨_, rfl, ?_⟩; replace HO_8 := rG HO_8 hb; replace HB := sB zq11 hb; clear hb))
   go_ret; exact ⟨zq14, zq11⟩

/-! ### spec_NodeOf: function 7 -/
def spec_NodeOf.f (k : Nat) (l0 : List ByteArray) (a1 : ByteArray) : Option (ByteArray × Bool) := (spec_l7Set.f k l0).bind fun t234 => (if t234 = true then ((spec_l7Prefix.f k a1).bind fun t235 => (if t235 = true then ((spec_l7Node.f k l0 a1).bind fun t236 => (some (t236, true))) else (some ((⟨#[]⟩ : ByteArray), false)))) else (some ((⟨#[]⟩ : ByteArray), false)))
theorem spec_NodeOf.mono : ∀ a0 a1 k, LeO (spec_NodeOf.f k a0 a1) (spec_NodeOf.f (k + 1) a0 a1) := by
 intro a0 a1 k; unfold spec_NodeOf.f
 repeat' first
   | (with_reducible apply spec_l7Node.mono)
   | (with_reducible apply spec_l7Prefix.mono)
   | (with_reducible apply spec_l7Set.mono)
   | (with_reducible exact LeO.refl _)
   | (with_reducible exact LeO.none _)
   | (with_reducible refine LeO.ite ?_ ?_)
   | (with_reducible refine LeO.bind ?_ (fun _ => ?_))
   | exact LeO.none _
   | refine LeO.ite ?_ ?_
   | refine LeO.bind ?_ (fun _ => ?_)
set_option maxHeartbeats 8000000 in
set_option maxRecDepth 100000 in
theorem spec_NodeOf.calls (k : Nat) (A0 : Option Addr) (c0 : Nat) (l0 : List ByteArray) (a1 : ByteArray) (r1 : ByteArray) (r2 : Bool) (w : World) (hr0 : Kd.C Kd.string w A0 l0.length l0) (hc0 : l0.length ≤ c0) (h : spec_NodeOf.f k l0 a1 = some (r1, r2)) :
  Calls Tryd.prog 7 #[.slice A0 l0.length c0, .string a1] w fun e w' => e = .returned (.tuple #[.string r1, .bool r2]) ∧ Below w.heap.size w w' := by
 have HR0 := aM hr0; have HC0 := aM hc0; clear hr0 hc0; have HB := aM (Below.refl w.heap.size w); unfold spec_NodeOf.f at h; have H := h; clear h; replace H := Option.bind_eq_some_iff.mp H; obtain ⟨t234, A30, H⟩ := H; (try dsimp only at H); have A3 := aM A30; clear A30; by_cases c4 : t234 = true
 ·
  subst c4; rw [if_pos rfl] at H; replace H := Option.bind_eq_some_iff.mp H; obtain ⟨t235, A50, H⟩ := H; (try dsimp only at H); have A5 := aM A50; clear A50; by_cases c6 : t235 = true
  ·
   subst c6; rw [if_pos rfl] at H; replace H := Option.bind_eq_some_iff.mp H; obtain ⟨t236, A70, H⟩ := H; replace H : (some (t236, true)) = some (r1, r2) := H; have A7 := aM A70; clear A70; simp only [Option.some.injEq, Prod.mk.injEq] at H; obtain ⟨rfl, rfl⟩ := H; go_enter Tryd.func7, Tryd.ntmps7
   go_wp2_with (first | ((with_reducible refine gC 20 rfl ?_); refine gL 7 Tryd.func20 #[.slice A0 l0.length c0] ?_; (with_reducible refine (spec_l7Set.calls k _ _ l0 true _ ?_ ?_ A3.out).mono ?_); exact zq7; exact zq8; rintro e w' ⟨rfl, ⟨nd, rfl⟩⟩; refine ⟨_, rfl, ?_⟩) | (go_at_call 21; (with_reducible refine (spec_l7Prefix.calls k a1 true _ A5.out).mono ?_); rintro e w' ⟨rfl, ⟨nd, rfl⟩⟩) | ((with_reducible refine gC 22 rfl ?_); refine gL 16 Tryd.func22 #[.slice A0 l0.length c0, .string a1] ?_; (with_reducible refine (spec_l7Node.calls k _ _ l0 a1 t236 _ ?_ ?_ A7.out).mono ?_); exact zq7; exact zq8; rintro e w8 ⟨rfl, hb⟩; refine ⟨_, rfl, ?_⟩; replace HB := sB zq11 hb; clear hb))
   go_ret2
   exact ⟨zq14, zq11⟩
  replace c6 := Bool.eq_false_iff.mpr c6; subst c6; rw [if_neg (show ¬ (false = true) by decide)] at H; simp only [Option.some.injEq, Prod.mk.injEq] at H; obtain ⟨rfl, rfl⟩ := H; go_enter Tryd.func7, Tryd.ntmps7
  go_wp2_with (first | ((with_reducible refine gC 20 rfl ?_); refine gL 7 Tryd.func20 #[.slice A0 l0.length c0] ?_; (with_reducible refine (spec_l7Set.calls k _ _ l0 true _ ?_ ?_ A3.out).mono ?_); exact zq7; exact zq8; rintro e w' ⟨rfl, ⟨nd, rfl⟩⟩; refine ⟨_, rfl, ?_⟩) | (go_at_call 21; (with_reducible refine (spec_l7Prefix.calls k a1 false _ A5.out).mono ?_); rintro e w' ⟨rfl, ⟨nd, rfl⟩⟩))
  go_ret2
  exact ⟨zq14, zq11⟩
 replace c4 := Bool.eq_false_iff.mpr c4; subst c4; rw [if_neg (show ¬ (false = true) by decide)] at H; simp only [Option.some.injEq, Prod.mk.injEq] at H; obtain ⟨rfl, rfl⟩ := H; go_enter Tryd.func7, Tryd.ntmps7
 go_wp2_with (first | ((with_reducible refine gC 20 rfl ?_); refine gL 7 Tryd.func20 #[.slice A0 l0.length c0] ?_; (with_reducible refine (spec_l7Set.calls k _ _ l0 false _ ?_ ?_ A3.out).mono ?_); exact zq7; exact zq8; rintro e w' ⟨rfl, ⟨nd, rfl⟩⟩; refine ⟨_, rfl, ?_⟩))
 go_ret2
 exact ⟨zq14, zq11⟩

/-! ### laws_toStringS: function 8 -/
def laws_toStringS.l0 : Nat → List ByteArray → List ByteArray → Int → Option (List ByteArray)
 | 0, _, _, _ => none
 | k + 1, x0, x3, x4 => if x4 < (x0.length : Int) then (if 0 ≤ x4 then (if x4 < (x3.length : Int) then (laws_toStringS.l0 k x0 (x3.set (x4 : Int).toNat (rdOf ByteArray.empty x0 x4)) (wrap64 (x4 + 1))) else (none)) else (none)) else (some x3)
def laws_toStringS.f (k : Nat) (l0 : List ByteArray) : Option (List ByteArray) := if 0 ≤ (l0.length : Int) then (if ((l0.length : Int) : Int).toNat ≤ 17592186044416 then (laws_toStringS.l0 k l0 (List.replicate ((l0.length : Int) : Int).toNat (⟨#[]⟩ : ByteArray)) 0) else (none)) else (none)
theorem laws_toStringS.mono_l : ∀ k, (∀ y0 y1 y2, LeO (laws_toStringS.l0 k y0 y1 y2) (laws_toStringS.l0 (k + 1) y0 y1 y2))
 | 0 => fun _ _ _ r h => by simp [laws_toStringS.l0] at h
 | k + 1 => by
  have ih0 := laws_toStringS.mono_l k
  ·
   intro y0 y1 y2; unfold laws_toStringS.l0
   repeat' first
   | (with_reducible apply ih0)
   | (with_reducible exact LeO.refl _)
   | (with_reducible exact LeO.none _)
   | (with_reducible refine LeO.ite ?_ ?_)
   | (with_reducible refine LeO.bind ?_ (fun _ => ?_))
   | exact LeO.none _
   | refine LeO.ite ?_ ?_
   | refine LeO.bind ?_ (fun _ => ?_)
theorem laws_toStringS.mono : ∀ a0 k, LeO (laws_toStringS.f k a0) (laws_toStringS.f (k + 1) a0) := by
 intro a0 k; have ih0 := laws_toStringS.mono_l k; unfold laws_toStringS.f
 repeat' first
   | (with_reducible apply ih0)
   | (with_reducible exact LeO.refl _)
   | (with_reducible exact LeO.none _)
   | (with_reducible refine LeO.ite ?_ ?_)
   | (with_reducible refine LeO.bind ?_ (fun _ => ?_))
   | exact LeO.none _
   | refine LeO.ite ?_ ?_
   | refine LeO.bind ?_ (fun _ => ?_)
set_option maxHeartbeats 8000000 in
set_option maxRecDepth 100000 in
theorem laws_toStringS.calls (k : Nat) (A0 : Option Addr) (c0 : Nat) (l0 : List ByteArray) (r : List ByteArray) (w : World) (hr0 : Kd.C Kd.string w A0 l0.length l0) (hc0 : l0.length ≤ c0) (h : laws_toStringS.f k l0 = some r) :
  Calls Tryd.prog 8 #[.slice A0 l0.length c0] w fun e w' => ∃ v0_ : Value, e = .returned (v0_) ∧ Kd.R Kd.string 9 w' w.heap.size (fun _ => True) v0_ r ∧ Below w.heap.size w w' := by
 have HR0 := aM hr0; have HC0 := aM hc0; clear hr0 hc0; have HB := aM (Below.refl w.heap.size w); unfold laws_toStringS.f at h; have H := h; clear h; by_cases c2 : 0 ≤ (l0.length : Int)
 ·
  rw [if_pos c2] at H; have c2b0 := eq_true c2; have c2b1 := decide_eq_true c2; clear c2; by_cases c3 : ((l0.length : Int) : Int).toNat ≤ 17592186044416
  ·
   rw [if_pos c3] at H; have c3b0 := eq_true c3; have c3b1 := decide_eq_true c3; clear c3; obtain ⟨y237, hy237⟩ : ∃ y_ : List ByteArray, y_ = (List.replicate ((l0.length : Int) : Int).toNat (⟨#[]⟩ : ByteArray)) := ⟨_, rfl⟩; have hy_ := hy237; replace H : (laws_toStringS.l0 k l0 y237 0) = some r := hyE; clear hy_; have Ny237 := aM hy237; clear hy237; have H' := aM H; clear H; go_enter Tryd.func8, Tryd.ntmps8
   go_wp2_with (first | ((with_reducible refine gD 7 rfl ?_); refine Kd.R_make Kd.string _ 9 rfl (N := 7) rfl 22 _ _ rfl (l0.length : Int) rfl rfl Tryd.underlying22 (.string ⟨#[]⟩) 16 info9 rfl (by decide) (by omega) (⟨#[]⟩ : ByteArray) (ok := fun _ => True) (okp := fun _ => True) rfl (fun _ hk => hk) trivial (of_decide_eq_true zq3) (Nat.le_trans (Nat.mul_le_mul_right _ (of_decide_eq_true zq3 : (l0.length : Int).toNat ≤ 17592186044416)) (by omega)) (Below.refl _ _) (Nat.le_refl _) ?_; intro v238 w4 ho5 hb hg_ hnew_; clear hg_ hnew_; (first | rw [← Ny237.out] at ho5 | (simp only [Int.reduceToNat] at ho5; rw [← Ny237.out] at ho5)); have HO239 := aM (Kd.R_lower ho5 (below_size zq11)); replace HB := sB zq11 hb; clear hb ho5))
   go_loopg [4] k (fun kq v4 w' => ∃ (x3_1 : List ByteArray) (x4_1 : Int), v4 = .int .i64 x4_1 ∧ Aside0 (laws_toStringS.l0 kq l0 x3_1 x4_1 = some r) ∧ Aside0 (kq ≤ k) ∧ Aside0 (Kd.R Kd.string 9 w' w.heap.size (fun _ => True) v238 x3_1) ∧ Aside0 (Below w.heap.size w w'))
   case atStart => exact ⟨(y237), (0), zq1, H', ⟨Nat.le_refl _⟩, ⟨by refine dR ?_; exact HO239.out⟩, ⟨zq11⟩⟩
   case round =>
    clear H'; (try clear c2); (try clear c2b0); (try clear c2b1); (try clear p2); (try clear c3); (try clear c3b0); (try clear c3b1); obtain ⟨x3_1, x4_1, rfl, HA, HK1, HO_3, HB⟩ := hrel
    cases gk with
    | zero => exact absurd HA.out (by simp [laws_toStringS.l0])
    | succ k1 =>
     have H := HA.out; clear HA; simp only [laws_toStringS.l0] at H; by_cases c6 : x4_1 < (l0.length : Int)
     ·
      rw [if_pos c6] at H; have c6b0 := decide_eq_true c6; clear c6; by_cases c7 : 0 ≤ x4_1
      ·
       rw [if_pos c7] at H; have c7b0 := decide_eq_true c7; clear c7; by_cases c8 : x4_1 < (x3_1.length : Int)
       ·
        rw [if_pos c8] at H; have c8b0 := decide_eq_true c8; clear c8; obtain ⟨y241, hy241⟩ : ∃ y_ : List ByteArray, y_ = (x3_1.set (x4_1 : Int).toNat (rdOf ByteArray.empty l0 x4_1)) := ⟨_, rfl⟩; have hy_ := hy241; replace H : (laws_toStringS.l0 k1 l0 y241 (wrap64 (x4_1 + 1))) = some r := hyE; clear hy_; have Ny241 := aM hy241; clear hy241; have H' := aM H; clear H; have p240 : 0 ≤ (x4_1 : Int) := of_decide_eq_true zq3; have q240 : x4_1 < (l0.length : Int) := of_decide_eq_true zq3; obtain ⟨ad240, e240, hx240_0⟩ := Kd.at_string HR0.out x4_1 p240 q240; cases e240; replace hx240_0 := hxB HB hx240_0; replace p240 := eq_true p240; replace q240 := eq_true q240; have p9 : 0 ≤ (x4_1 : Int) := of_decide_eq_true zq3; have q9 : (x4_1 : Int) < ((x3_1.length : Int) : Int) := of_decide_eq_true zq3; obtain ⟨go9, co9, eo9, gb9, gl9, cl9, HG9⟩ := Kd.R_form HO_3.out (by omega)
        (first | cases eo9 | (injection eo9 with ea_ en_ ec_; (first | subst ea_ | (injection ea_ with ea_; subst ea_)); subst ec_; clear en_))
        have GB9 := aM gb9; have GG9 := aM HG9; clear gb9 gl9 HG9; obtain ⟨hx9_0, hf9_0⟩ := Kd.R_celln (⟨#[]⟩ : ByteArray) HO_3.out (x4_1 : Int) p9 q9; replace p9 := eq_true p9; replace q9 := eq_true q9; have HP10 := Kd.R_putg HO_3.out (x4_1 : Int) (rdOf ByteArray.empty l0 x4_1)
        go_wp2_with (first | ((with_reducible refine gate_store (t := 9) (p := 20) rfl ?_); refine store_event (t := 9) (p := 20) (v := ?vo_w11) (w1 := (wr.setCell ⟨go9, (x4_1 : Int).toNat, none⟩ (.string (rdOf ByteArray.empty l0 x4_1)))) ?hg ?ho ?hn ?hr ?_; (case ho => rfl); (case hg => rfl); (case hn => rfl); (case hr => exact zq9); intro w11 hw; have hg : wr.grownBy w11 (some go9) := (by rw [hw]; exact HP10.2); have hp_ : Kd.R Kd.string 9 w11 w.heap.size (fun _ => True) (.slice (some ⟨go9, 0, none⟩) x3_1.length co9) y241 := (by rw [hw, Ny241.out]; exact HP10.1); clear HP10; replace HO_3 := aM hp_; replace HB := aM (by rw [hw]; exact below_set (HB.out) GB9.out : Below w.heap.size w w11); clear hg hw hp_))
        go_roundg k1
        case measure => have := HK1.out; omega
        case rel => exact ⟨(y241), (wrap64 (x4_1 + 1)), zq1, H', ⟨zq4⟩, ⟨zq15⟩, ⟨zq11⟩⟩
       exact zq59
      exact zq60
     rw [if_neg c6] at H; have c6b0 := decide_eq_false c6; clear c6; obtain rfl := Option.some.inj H; go_wp2; go_ret; exact ⟨_, zq14, zq15, zq11⟩
  exact zq56
 rw [if_neg c2] at H; exact absurd H (by simp)

/-! ### strings_Trim: function 42 (given) -/
def strings_Trim.f (a0 : ByteArray) (a1 : ByteArray) : Option ByteArray := if a0.size ≤ 9223372036854775807 ∧ a1.size < 4294967281 ∧ a1.data.toList.all (fun b => decide (b.toNat < 128)) = true then some ⟨(Lib.trimS a0.data.toList a1.data.toList).toArray⟩ else none
theorem strings_Trim.calls (a0 : ByteArray) (a1 : ByteArray) (r : ByteArray) (w : World) (h : strings_Trim.f a0 a1 = some r) :
    Calls Tryd.prog 42 #[.string a0, .string a1] w fun e w' => e = .returned (.string r) ∧ Below w.heap.size w w' := by
  unfold strings_Trim.f at h
  split at h
  · rename_i hg
    injection h with h
    subst h; exact Any.strings_Trim_laid Tryd.lays160 (by kernel_rfl) a0 a1 w hg.1 hg.2.1 (ascii_of_all hg.2.2)
  · exact absurd h (by simp)

/-! ### stringslite_HasPrefix: function 68 -/
def stringslite_HasPrefix.f (a0 : ByteArray) (a1 : ByteArray) : Option (Bool) := if (a0.size : Int) ≥ (a1.size : Int) then (if 0 ≤ (a1.size : Int) then (if (a1.size : Int) ≤ (a0.size : Int) then (some ((a0.extract 0 ((a1.size : Int) : Int).toNat).toList == a1.toList)) else (none)) else (none)) else (some false)
set_option maxHeartbeats 8000000 in
set_option maxRecDepth 100000 in
theorem stringslite_HasPrefix.calls (a0 : ByteArray) (a1 : ByteArray) (r : Bool) (w : World) (h : stringslite_HasPrefix.f a0 a1 = some r) :
  Calls Tryd.prog 68 #[.string a0, .string a1] w fun e w' => e = .returned (.bool r) ∧ Drawn0 w w' := by
 unfold stringslite_HasPrefix.f at h; have H := h; clear h; by_cases c3 : (a0.size : Int) ≥ (a1.size : Int)
 ·
  rw [if_pos c3] at H; have c3b0 : decide ((a1.size : Int) ≤ (a0.size : Int)) = true := decide_eq_true c3; have c3b1 : decide (a1.size ≤ a0.size) = true := decide_eq_true (Int.ofNat_le.mp c3); clear c3; by_cases c4 : 0 ≤ (a1.size : Int)
  ·
   rw [if_pos c4] at H; have c4b0 := eq_true c4; have c4b1 := decide_eq_true c4; clear c4; by_cases c5 : (a1.size : Int) ≤ (a0.size : Int)
   ·
    rw [if_pos c5] at H; have c5b0 := eq_true c5; have c5b1 := decide_eq_true c5; clear c5; obtain rfl := Option.some.inj H; go_enter Tryd.func68, Tryd.ntmps68; go_wp2; go_ret; exact ⟨zq1, zq2⟩
   exact zq54
  exact zq57
 rw [if_neg c3] at H; have c3b0 : decide ((a1.size : Int) ≤ (a0.size : Int)) = false := decide_eq_false c3; have c3b1 : decide (a1.size ≤ a0.size) = false := decide_eq_false (fun h => c3 (Int.ofNat_le.mpr h)); clear c3; obtain rfl := Option.some.inj H; go_enter Tryd.func68, Tryd.ntmps68; go_wp2; go_ret; exact ⟨zq1, zq2⟩

/-! ### stringslite_CutPrefix: function 74 -/
def stringslite_CutPrefix.f (a0 : ByteArray) (a1 : ByteArray) : Option (ByteArray × Bool) := (stringslite_HasPrefix.f a0 a1).bind fun t242 => (if t242 = true then (if 0 ≤ (a1.size : Int) then (if (a1.size : Int) ≤ (a0.size : Int) then (some (a0.extract ((a1.size : Int) : Int).toNat a0.size, true)) else (none)) else (none)) else (some (a0, false)))
set_option maxHeartbeats 8000000 in
set_option maxRecDepth 100000 in
theorem stringslite_CutPrefix.calls (a0 : ByteArray) (a1 : ByteArray) (r1 : ByteArray) (r2 : Bool) (w : World) (h : stringslite_CutPrefix.f a0 a1 = some (r1, r2)) :
  Calls Tryd.prog 74 #[.string a0, .string a1] w fun e w' => e = .returned (.tuple #[.string r1, .bool r2]) ∧ Drawn0 w w' := by
 unfold stringslite_CutPrefix.f at h; have H := h; clear h; replace H := Option.bind_eq_some_iff.mp H; obtain ⟨t242, A30, H⟩ := H; (try dsimp only at H); have A3 := aM A30; clear A30; by_cases c4 : t242 = true
 ·
  subst c4; rw [if_pos rfl] at H; by_cases c5 : 0 ≤ (a1.size : Int)
  ·
   rw [if_pos c5] at H; have c5b0 := eq_true c5; have c5b1 := decide_eq_true c5; clear c5; by_cases c6 : (a1.size : Int) ≤ (a0.size : Int)
   ·
    rw [if_pos c6] at H; have c6b0 := eq_true c6; have c6b1 := decide_eq_true c6; clear c6; simp only [Option.some.injEq, Prod.mk.injEq] at H; obtain ⟨rfl, rfl⟩ := H; go_enter Tryd.func74, Tryd.ntmps74
    go_wp2_with (first | ((with_reducible refine gC 68 rfl ?_); refine gL 8 Tryd.func68 #[.string a0, .string a1] ?_; (with_reducible refine (stringslite_HasPrefix.calls a0 a1 true _ A3.out).mono ?_); rintro e w' ⟨rfl, ⟨nd, rfl⟩⟩; refine ⟨_, rfl, ?_⟩))
    go_ret2
    exact ⟨zq1, zq2⟩
   exact zq55
  exact zq54
 replace c4 := Bool.eq_false_iff.mpr c4; subst c4; rw [if_neg (show ¬ (false = true) by decide)] at H; simp only [Option.some.injEq, Prod.mk.injEq] at H; obtain ⟨rfl, rfl⟩ := H; go_enter Tryd.func74, Tryd.ntmps74
 go_wp2_with (first | ((with_reducible refine gC 68 rfl ?_); refine gL 8 Tryd.func68 #[.string a0, .string a1] ?_; (with_reducible refine (stringslite_HasPrefix.calls a0 a1 false _ A3.out).mono ?_); rintro e w' ⟨rfl, ⟨nd, rfl⟩⟩; refine ⟨_, rfl, ?_⟩))
 go_ret2
 exact ⟨zq1, zq2⟩

/-! ### strings_CutPrefix: function 56 -/
def strings_CutPrefix.f (a0 : ByteArray) (a1 : ByteArray) : Option (ByteArray × Bool) := (stringslite_CutPrefix.f a0 a1).bind fun bt243 => (some (bt243.1, bt243.2))
set_option maxHeartbeats 8000000 in
set_option maxRecDepth 100000 in
theorem strings_CutPrefix.calls (a0 : ByteArray) (a1 : ByteArray) (r1 : ByteArray) (r2 : Bool) (w : World) (h : strings_CutPrefix.f a0 a1 = some (r1, r2)) :
  Calls Tryd.prog 56 #[.string a0, .string a1] w fun e w' => e = .returned (.tuple #[.string r1, .bool r2]) ∧ Drawn0 w w' := by
 unfold strings_CutPrefix.f at h; have H := h; clear h; replace H := Option.bind_eq_some_iff.mp H; obtain ⟨⟨t243, t244⟩, A30, H⟩ := H; replace H : (some (t243, t244)) = some (r1, r2) := H; have A3 := aM A30; clear A30; simp only [Option.some.injEq, Prod.mk.injEq] at H; obtain ⟨rfl, rfl⟩ := H; go_enter Tryd.func56, Tryd.ntmps56
 go_wp2_with (first | ((with_reducible refine gC 74 rfl ?_); refine gL 8 Tryd.func74 #[.string a0, .string a1] ?_; (with_reducible refine (stringslite_CutPrefix.calls a0 a1 t243 t244 _ A3.out).mono ?_); rintro e w' ⟨rfl, ⟨nd, rfl⟩⟩; refine ⟨_, rfl, ?_⟩))
 go_ret2
 exact ⟨zq1, zq2⟩

end Go.Proofs.YtoeomljkhabifaaDoor.QFnExactNodeOf
