/- Written by wip/myprint.py of this repo (the kit's print, with additions of this session). -/
import Derived.Test.YtldpdaifajjaeaaDoorQFnRefsx0
import Derived.Test.YtldpdaifajjaeaaDoorQFnRefsx2
import Derived.Test.YtldpdaifajjaeaaDoorQFnRefsx3
set_option maxRecDepth 100000
namespace Go.Proofs.YtldpdaifajjaeaaDoor.QFnRefs
open Go.RowKit Go.Proofs.YtldpdaifajjaeaaDoorW.PrintWords Go.Proofs.YtldpdaifajjaeaaDoorW.PrintLast Go.Proofs.YtldpdaifajjaeaaDoorW.PrintMore
attribute [local go_sem] max2_int min2_int max_two min_two max_three min_three max_four min_four   -- for this text's walks alone
set_option linter.unusedVariables false
set_option linter.unusedSimpArgs false

/-! ### spec_RepoOk: function 8 -/
def spec_RepoOk.l0 : Nat → List ByteArray → Int → Option (Bool)
 | 0, _, _ => none
 | k + 1, x3, x4 => if x4 < (x3.length : Int) then (if 0 ≤ x4 then ((spec_l3Part.f k (rdOf ByteArray.empty x3 x4)).bind fun t129 => (if t129 = true then (spec_RepoOk.l0 k x3 (wrap64 (x4 + 1))) else (some false))) else (none)) else (some true)
def spec_RepoOk.f (k : Nat) (a0 : ByteArray) : Option (Bool) := if (a0.size : Int) > 100 then (some false) else ((spec_l3Cut.f k a0 47).bind fun t125 => (spec_RepoOk.l0 k t125 0))
theorem spec_RepoOk.mono_l : ∀ k, (∀ y0 y1, LeO (spec_RepoOk.l0 k y0 y1) (spec_RepoOk.l0 (k + 1) y0 y1))
 | 0 => fun _ _ r h => by simp [spec_RepoOk.l0] at h
 | k + 1 => by
  have ih0 := spec_RepoOk.mono_l k
  ·
   intro y0 y1; unfold spec_RepoOk.l0
   repeat' first
   | (with_reducible apply ih0)
   | (with_reducible apply spec_l3Cut.mono)
   | (with_reducible apply spec_l3Part.mono)
   | (with_reducible exact LeO.refl _)
   | (with_reducible exact LeO.none _)
   | (with_reducible refine LeO.ite ?_ ?_)
   | (with_reducible refine LeO.bind ?_ (fun _ => ?_))
   | exact LeO.none _
   | refine LeO.ite ?_ ?_
   | refine LeO.bind ?_ (fun _ => ?_)
theorem spec_RepoOk.mono : ∀ a0 k, LeO (spec_RepoOk.f k a0) (spec_RepoOk.f (k + 1) a0) := by
 intro a0 k; have ih0 := spec_RepoOk.mono_l k; unfold spec_RepoOk.f
 repeat' first
   | (with_reducible apply ih0)
   | (with_reducible apply spec_l3Cut.mono)
   | (with_reducible apply spec_l3Part.mono)
   | (with_reducible exact LeO.refl _)
   | (with_reducible exact LeO.none _)
   | (with_reducible refine LeO.ite ?_ ?_)
   | (with_reducible refine LeO.bind ?_ (fun _ => ?_))
   | exact LeO.none _
   | refine LeO.ite ?_ ?_
   | refine LeO.bind ?_ (fun _ => ?_)
set_option maxHeartbeats 8000000 in
set_option maxRecDepth 100000 in
theorem spec_RepoOk.calls (k : Nat) (a0 : ByteArray) (r : Bool) (w : World) (h : spec_RepoOk.f k a0 = some r) :
  Calls Tryd.prog 8 #[.string a0] w fun e w' => e = .returned (.bool r) ∧ Below w.heap.size w w' := by
 have HB := aM (Below.refl w.heap.size w); unfold spec_RepoOk.f at h; have H := h; clear h; by_cases c2 : (a0.size : Int) > 100
 ·
  rw [if_pos c2] at H; have c2b0 : decide (100 < (a0.size : Int)) = true := decide_eq_true c2; have c2b1 : decide (100 < a0.size) = true := decide_eq_true (by omega); clear c2; obtain rfl := Option.some.inj H; go_enter Tryd.func8, Tryd.ntmps8; go_wp2; go_ret; exact ⟨zq19, zq2⟩
 rw [if_neg c2] at H; have c2b0 : decide (100 < (a0.size : Int)) = false := decide_eq_false c2; have c2b1 : decide (100 < a0.size) = false := decide_eq_false (by omega); clear c2; replace H := Option.bind_eq_some_iff.mp H; obtain ⟨t125, A30, H⟩ := H; replace H : (spec_RepoOk.l0 k t125 0) = some r := H; have A3 := aM A30; clear A30; have H' := aM H; clear H; go_enter Tryd.func8, Tryd.ntmps8
 go_wp2_with (first | ((with_reducible refine gC 26 rfl ?_); refine gL 9 Tryd.func26 #[.string a0, .int .u8 47] ?_; (with_reducible refine (spec_l3Cut.calls k a0 47 t125 _ A3.out).mono ?_); rintro e w4 ⟨v126, rfl, ho0, hb⟩; refine ⟨_, rfl, ?_⟩; have HO127 := aM (Kd.R_lower ho0 (below_size zq2)); replace HB := sB zq2 hb; clear hb; (try clear ho0)))
 go_loopg [4] k (fun kq v4 w' => ∃ (x4_1 : Int), v4 = .int .i64 x4_1 ∧ Aside0 (spec_RepoOk.l0 kq t125 x4_1 = some r) ∧ Aside0 (kq ≤ k) ∧ Aside0 (Kd.R Kd.string 9 w' w.heap.size (fun _ => True) v126 t125) ∧ Aside0 (Below w.heap.size w w'))
 case atStart => exact ⟨(0), zq6, H', ⟨Nat.le_refl _⟩, ⟨by refine dR ?_; exact HO127.out⟩, ⟨zq2⟩⟩
 case round =>
  clear H'; (try clear c2); (try clear c2b0); (try clear c2b1); (try clear p2); obtain ⟨x4_1, rfl, HA, HK1, HO_3, HB⟩ := hrel
  cases gk with
  | zero => exact absurd HA.out (by simp [spec_RepoOk.l0])
  | succ k1 =>
   have H := HA.out; clear HA; simp only [spec_RepoOk.l0] at H; by_cases c5 : x4_1 < (t125.length : Int)
   ·
    rw [if_pos c5] at H; have c5b0 := decide_eq_true c5; clear c5; by_cases c6 : 0 ≤ x4_1
    ·
     rw [if_pos c6] at H; have c6b0 := decide_eq_true c6; clear c6; replace H := Option.bind_eq_some_iff.mp H; obtain ⟨t129, A70, H⟩ := H; (try dsimp only at H); have A7 := aM A70; clear A70; by_cases c8 : t129 = true
     ·
      subst c8; rw [if_pos rfl] at H; have H' := aM H; clear H; obtain ⟨Ao9, co9, eo9⟩ := Kd.R_slice HO_3.out; subst eo9; have p128 : 0 ≤ (x4_1 : Int) := of_decide_eq_true zq11; have q128 : x4_1 < (t125.length : Int) := of_decide_eq_true zq11; obtain ⟨ad128, e128, hx128_0⟩ := Kd.at_string (Kd.R_reads' HO_3.out).2.2 x4_1 p128 q128; cases e128; replace p128 := eq_true p128; replace q128 := eq_true q128
      go_wp2_with (first | ((with_reducible refine gC 27 rfl ?_); refine gL 20 Tryd.func27 #[.string (rdOf ByteArray.empty t125 x4_1)] ?_; (with_reducible refine (spec_l3Part.calls k1 (rdOf ByteArray.empty t125 x4_1) true _ A7.out).mono ?_); rintro e w' ⟨rfl, ⟨nd, rfl⟩⟩; refine ⟨_, rfl, ?_⟩))
      go_roundg k1
      case measure => have := HK1.out; omega
      case rel => exact ⟨(wrap64 (x4_1 + 1)), zq6, H', ⟨zq26⟩, ⟨zq36⟩, ⟨zq2⟩⟩
     replace c8 := Bool.eq_false_iff.mpr c8; subst c8; rw [if_neg (show ¬ (false = true) by decide)] at H; obtain rfl := Option.some.inj H; obtain ⟨Ao10, co10, eo10⟩ := Kd.R_slice HO_3.out; subst eo10; have p128 : 0 ≤ (x4_1 : Int) := of_decide_eq_true zq11; have q128 : x4_1 < (t125.length : Int) := of_decide_eq_true zq11; obtain ⟨ad128, e128, hx128_0⟩ := Kd.at_string (Kd.R_reads' HO_3.out).2.2 x4_1 p128 q128; cases e128; replace p128 := eq_true p128; replace q128 := eq_true q128
     go_wp2_with (first | ((with_reducible refine gC 27 rfl ?_); refine gL 20 Tryd.func27 #[.string (rdOf ByteArray.empty t125 x4_1)] ?_; (with_reducible refine (spec_l3Part.calls k1 (rdOf ByteArray.empty t125 x4_1) false _ A7.out).mono ?_); rintro e w' ⟨rfl, ⟨nd, rfl⟩⟩; refine ⟨_, rfl, ?_⟩))
     go_ret; exact ⟨zq19, zq2⟩
    exact zq127
   rw [if_neg c5] at H; have c5b0 := decide_eq_false c5; clear c5; obtain rfl := Option.some.inj H; obtain ⟨Ao11, co11, eo11⟩ := Kd.R_slice HO_3.out; subst eo11; go_wp2; go_ret; exact ⟨zq19, zq2⟩

/-! ### spec_TagOk: function 33 -/
mutual
def spec_TagOk.j0 : Nat → ByteArray → Bool → Option (Bool)
 | 0, _, _ => none
 | k + 1, x0, x22 => if x22 = true then (some false) else (spec_TagOk.l0 k x0 0)
def spec_TagOk.l0 : Nat → ByteArray → Int → Option (Bool)
 | 0, _, _ => none
 | k + 1, x0, x3 => if x3 < (x0.size : Int) then (if 0 ≤ x3 then ((spec_l3Low.f (bt x0 x3)).bind fun t130 => (if t130 = true then (spec_TagOk.l0 k x0 (wrap64 (x3 + 1))) else (if (bt x0 x3) < 65 then (if (bt x0 x3) = 95 then (spec_TagOk.l0 k x0 (wrap64 (x3 + 1))) else (if (bt x0 x3) = 46 then (spec_TagOk.l0 k x0 (wrap64 (x3 + 1))) else (if (bt x0 x3) = 45 then (spec_TagOk.l0 k x0 (wrap64 (x3 + 1))) else (some false)))) else (if (bt x0 x3) > 90 then (if (bt x0 x3) = 95 then (spec_TagOk.l0 k x0 (wrap64 (x3 + 1))) else (if (bt x0 x3) = 46 then (spec_TagOk.l0 k x0 (wrap64 (x3 + 1))) else (if (bt x0 x3) = 45 then (spec_TagOk.l0 k x0 (wrap64 (x3 + 1))) else (some false)))) else (spec_TagOk.l0 k x0 (wrap64 (x3 + 1))))))) else (none)) else (some true)
end
def spec_TagOk.f (k : Nat) (a0 : ByteArray) : Option (Bool) := if (a0.size : Int) < 1 then (spec_TagOk.j0 k a0 true) else (if (a0.size : Int) > 128 then (spec_TagOk.j0 k a0 true) else (if 0 < (a0.size : Int) then (if (bt a0 0) = 46 then (spec_TagOk.j0 k a0 true) else (spec_TagOk.j0 k a0 ((bt a0 0) == 45))) else (none)))
theorem spec_TagOk.mono_l : ∀ k, (∀ y0 y1, LeO (spec_TagOk.j0 k y0 y1) (spec_TagOk.j0 (k + 1) y0 y1)) ∧ (∀ y0 y1, LeO (spec_TagOk.l0 k y0 y1) (spec_TagOk.l0 (k + 1) y0 y1))
 | 0 => ⟨fun _ _ r h => by simp [spec_TagOk.j0] at h, fun _ _ r h => by simp [spec_TagOk.l0] at h⟩
 | k + 1 => by
  obtain ⟨ih0, ih1⟩ := spec_TagOk.mono_l k; refine ⟨?_, ?_⟩
  ·
   intro y0 y1; unfold spec_TagOk.j0
   repeat' first
   | (with_reducible apply ih0)
   | (with_reducible apply ih1)
   | (with_reducible exact LeO.refl _)
   | (with_reducible exact LeO.none _)
   | (with_reducible refine LeO.ite ?_ ?_)
   | (with_reducible refine LeO.bind ?_ (fun _ => ?_))
   | exact LeO.none _
   | refine LeO.ite ?_ ?_
   | refine LeO.bind ?_ (fun _ => ?_)
  intro y0 y1; unfold spec_TagOk.l0
  repeat' first
  | (with_reducible apply ih0)
  | (with_reducible apply ih1)
  | (with_reducible exact LeO.refl _)
  | (with_reducible exact LeO.none _)
  | (with_reducible refine LeO.ite ?_ ?_)
  | (with_reducible refine LeO.bind ?_ (fun _ => ?_))
  | exact LeO.none _
  | refine LeO.ite ?_ ?_
  | refine LeO.bind ?_ (fun _ => ?_)
theorem spec_TagOk.mono : ∀ a0 k, LeO (spec_TagOk.f k a0) (spec_TagOk.f (k + 1) a0) := by
 intro a0 k; obtain ⟨ih0, ih1⟩ := spec_TagOk.mono_l k; unfold spec_TagOk.f
 repeat' first
   | (with_reducible apply ih0)
   | (with_reducible apply ih1)
   | (with_reducible exact LeO.refl _)
   | (with_reducible exact LeO.none _)
   | (with_reducible refine LeO.ite ?_ ?_)
   | (with_reducible refine LeO.bind ?_ (fun _ => ?_))
   | exact LeO.none _
   | refine LeO.ite ?_ ?_
   | refine LeO.bind ?_ (fun _ => ?_)
set_option maxHeartbeats 8000000 in
set_option maxRecDepth 100000 in
theorem spec_TagOk.calls (k : Nat) (a0 : ByteArray) (r : Bool) (w : World) (h : spec_TagOk.f k a0 = some r) :
  Calls Tryd.prog 33 #[.string a0] w fun e w' => e = .returned (.bool r) ∧ Drawn0 w w' := by
 unfold spec_TagOk.f at h; have H := h; clear h; have HC2 := aM H; clear H; go_enter Tryd.func33, Tryd.ntmps33
 go_upto_region 1 with (fail)
 go_cut [22] (fun v22 wc => ∃ (kq : Nat) (x22_1 : Bool), v22 = .bool x22_1 ∧ Aside0 (spec_TagOk.j0 kq a0 x22_1 = some r) ∧ Aside0 (kq ≤ k) ∧ Drawn0 w wc)
 case first =>
  have H := HC2.out; clear HC2; by_cases c3 : (a0.size : Int) < 1
  ·
   rw [if_pos c3] at H; have c3b0 := decide_eq_true c3; have c3b1 : decide (a0.size < 1) = true := decide_eq_true (by omega); clear c3
   (first | rw [c3b0] | (simp only [i64_w, i32_w]; rw [c3b0]) | skip)
   have H' := aM H; clear H; go_wp2
   go_meet
   case rel => exact ⟨_, (true), zq6, H', ⟨zq7⟩, zq20⟩
  rw [if_neg c3] at H; have c3b0 := decide_eq_false c3; have c3b1 : decide (a0.size < 1) = false := decide_eq_false (by omega); clear c3
  (first | rw [c3b0] | (simp only [i64_w, i32_w]; rw [c3b0]) | skip)
  by_cases c4 : (a0.size : Int) > 128
  ·
   rw [if_pos c4] at H; have c4b0 : decide (128 < (a0.size : Int)) = true := decide_eq_true c4; have c4b1 : decide (128 < a0.size) = true := decide_eq_true (by omega); clear c4; have H' := aM H; clear H; go_wp2
   go_meet
   case rel => exact ⟨_, (true), zq6, H', ⟨zq7⟩, zq20⟩
  rw [if_neg c4] at H; have c4b0 : decide (128 < (a0.size : Int)) = false := decide_eq_false c4; have c4b1 : decide (128 < a0.size) = false := decide_eq_false (by omega); clear c4; by_cases c5 : 0 < (a0.size : Int)
  ·
   rw [if_pos c5] at H; have c5b0 := decide_eq_true c5; have c5b1 : decide (0 < a0.size) = true := decide_eq_true (by omega); clear c5; by_cases c7 : (bt a0 0) = 46
   ·
    rw [if_pos c7] at H; have c7b0 : ((bt a0 0) == 46) = true := beq_iff_eq.mpr c7; have c7b1 : ((bt a0 0) != 46) = false := bne_eq_false_iff_eq.mpr c7; clear c7; have H' := aM H; clear H; have p6 : 0 ≤ (0 : Int) := (by omega); have q6 : 0 < a0.size := zq115; have hx6 : ∀ h : 0 < a0.size, ((a0[0]'h).toNat : Int) = bt a0 0 := bt_at a0 0; clear p6; have qi6 : (0 < (a0.size : Int)) = True := eq_true (of_decide_eq_true zq11); replace q6 := eq_true q6; go_wp2
    go_meet
    case rel => exact ⟨_, (true), zq6, H', ⟨zq7⟩, zq20⟩
   rw [if_neg c7] at H; have c7b0 : ((bt a0 0) == 46) = false := beq_eq_false_iff_ne.mpr c7; have c7b1 : ((bt a0 0) != 46) = true := bne_iff_ne.mpr c7; have H' := aM H; clear H; have p6 : 0 ≤ (0 : Int) := (by omega); have q6 : 0 < a0.size := zq115; have hx6 : ∀ h : 0 < a0.size, ((a0[0]'h).toNat : Int) = bt a0 0 := bt_at a0 0; clear p6; have qi6 : (0 < (a0.size : Int)) = True := eq_true (of_decide_eq_true zq11); replace q6 := eq_true q6; have p8 : 0 ≤ (0 : Int) := (by omega); have q8 : 0 < a0.size := zq115; have hx8 : ∀ h : 0 < a0.size, ((a0[0]'h).toNat : Int) = bt a0 0 := bt_at a0 0; clear p8; have qi8 : (0 < (a0.size : Int)) = True := eq_true (of_decide_eq_true zq11); replace q8 := eq_true q8; go_wp2
   go_meet
   case rel => exact ⟨_, (((bt a0 0) == 45)), zq6, H', ⟨zq7⟩, zq20⟩
  exact zq128
 case rest =>
  clear HC2; (try clear p2); (try clear c3); (try clear c3b0); (try clear c3b1); (try clear c4); (try clear c4b0); (try clear c4b1); (try clear c5); (try clear c5b0); (try clear c5b1); (try clear p6); (try clear q6); (try clear hx6); (try clear qi6); (try clear c7); (try clear c7b0); (try clear c7b1); (try clear p8); (try clear q8); (try clear hx8); (try clear qi8); (try clear p6); (try clear p8); (try clear q6); (try clear q8); obtain ⟨kq, x22_1, rfl, HA, HJ1, ⟨mc1, rfl⟩⟩ := hcut
  cases kq with
  | zero => exact absurd HA.out (by simp [spec_TagOk.j0])
  | succ kj1 =>
   have H := HA.out; clear HA; simp only [spec_TagOk.j0] at H; by_cases c9 : x22_1 = true
   ·
    subst c9; rw [if_pos rfl] at H; obtain rfl := Option.some.inj H; go_wp2; go_ret; exact ⟨zq6, zq20⟩
   replace c9 := Bool.eq_false_iff.mpr c9; subst c9; rw [if_neg (show ¬ (false = true) by decide)] at H; have H' := aM H; clear H; go_wp2
   go_loopg [3] kj1 (fun kq v3 w' => ∃ (x3_2 : Int), v3 = .int .i64 x3_2 ∧ Aside0 (spec_TagOk.l0 kq a0 x3_2 = some r) ∧ Aside0 (kq ≤ kj1) ∧ Drawn0 w w')
   case atStart => exact ⟨(0), zq6, H', ⟨Nat.le_refl _⟩, zq20⟩
   case round =>
    clear H'; (try clear c1); (try clear p2); (try clear c3); (try clear c3b0); (try clear c3b1); (try clear c4); (try clear c4b0); (try clear c4b1); (try clear c5); (try clear c5b0); (try clear c5b1); (try clear p6); (try clear q6); (try clear hx6); (try clear qi6); (try clear c7); (try clear c7b0); (try clear c7b1); (try clear p8); (try clear q8); (try clear hx8); (try clear qi8); (try clear c9); (try clear p2); (try clear p6); (try clear p8); (try clear q6); (try clear q8); obtain ⟨x3_2, rfl, HA, HK2, ⟨m2, rfl⟩⟩ := hrel
    cases gk with
    | zero => exact absurd HA.out (by simp [spec_TagOk.l0])
    | succ k2 =>
     have H := HA.out; clear HA; simp only [spec_TagOk.l0] at H; by_cases c10 : x3_2 < (a0.size : Int)
     ·
      rw [if_pos c10] at H; have c10b0 := decide_eq_true c10; clear c10; by_cases c11 : 0 ≤ x3_2
      ·
       rw [if_pos c11] at H; have c11b0 := decide_eq_true c11; clear c11; replace H := Option.bind_eq_some_iff.mp H; obtain ⟨t130, A130, H⟩ := H; (try dsimp only at H); have A13 := aM A130; clear A130; by_cases c14 : t130 = true
       ·
        subst c14; rw [if_pos rfl] at H; have H' := aM H; clear H; have p12 : 0 ≤ (x3_2 : Int) := of_decide_eq_true zq11; have q12 : x3_2 < (a0.size : Int) := of_decide_eq_true zq11; have hx12 := bt_at a0 x3_2; replace p12 := eq_true p12; replace q12 := eq_true q12
        go_wp2_with (first | ((with_reducible refine gC 47 rfl ?_); refine gL 33 Tryd.func47 #[.int .u8 (bt a0 x3_2)] ?_; (with_reducible refine (spec_l3Low.calls (bt a0 x3_2) true _ A13.out).mono ?_); rintro e w' ⟨rfl, ⟨nd, rfl⟩⟩; refine ⟨_, rfl, ?_⟩))
        go_roundg k2
        case measure => have := HJ1.out; have := HK2.out; omega
        case rel => exact ⟨(wrap64 (x3_2 + 1)), zq6, H', ⟨zq78⟩, zq20⟩
       replace c14 := Bool.eq_false_iff.mpr c14; subst c14; rw [if_neg (show ¬ (false = true) by decide)] at H; by_cases c15 : (bt a0 x3_2) < 65
       ·
        rw [if_pos c15] at H; have c15b0 := decide_eq_true c15; clear c15; by_cases c16 : (bt a0 x3_2) = 95
        ·
         rw [if_pos c16] at H; have c16b0 : ((bt a0 x3_2) == 95) = true := beq_iff_eq.mpr c16; have c16b1 : ((bt a0 x3_2) != 95) = false := bne_eq_false_iff_eq.mpr c16; clear c16; have H' := aM H; clear H; have p12 : 0 ≤ (x3_2 : Int) := of_decide_eq_true zq11; have q12 : x3_2 < (a0.size : Int) := of_decide_eq_true zq11; have hx12 := bt_at a0 x3_2; replace p12 := eq_true p12; replace q12 := eq_true q12
         go_wp2_with (first | ((with_reducible refine gC 47 rfl ?_); refine gL 33 Tryd.func47 #[.int .u8 (bt a0 x3_2)] ?_; (with_reducible refine (spec_l3Low.calls (bt a0 x3_2) false _ A13.out).mono ?_); rintro e w' ⟨rfl, ⟨nd, rfl⟩⟩; refine ⟨_, rfl, ?_⟩))
         go_roundg k2
         case measure => have := HJ1.out; have := HK2.out; omega
         case rel => exact ⟨(wrap64 (x3_2 + 1)), zq6, H', ⟨zq78⟩, zq20⟩
        rw [if_neg c16] at H; have c16b0 : ((bt a0 x3_2) == 95) = false := beq_eq_false_iff_ne.mpr c16; have c16b1 : ((bt a0 x3_2) != 95) = true := bne_iff_ne.mpr c16; by_cases c17 : (bt a0 x3_2) = 46
        ·
         rw [if_pos c17] at H; have c17b0 : ((bt a0 x3_2) == 46) = true := beq_iff_eq.mpr c17; have c17b1 : ((bt a0 x3_2) != 46) = false := bne_eq_false_iff_eq.mpr c17; clear c17; have H' := aM H; clear H; have p12 : 0 ≤ (x3_2 : Int) := of_decide_eq_true zq11; have q12 : x3_2 < (a0.size : Int) := of_decide_eq_true zq11; have hx12 := bt_at a0 x3_2; replace p12 := eq_true p12; replace q12 := eq_true q12
         go_wp2_with (first | ((with_reducible refine gC 47 rfl ?_); refine gL 33 Tryd.func47 #[.int .u8 (bt a0 x3_2)] ?_; (with_reducible refine (spec_l3Low.calls (bt a0 x3_2) false _ A13.out).mono ?_); rintro e w' ⟨rfl, ⟨nd, rfl⟩⟩; refine ⟨_, rfl, ?_⟩))
         go_roundg k2
         case measure => have := HJ1.out; have := HK2.out; omega
         case rel => exact ⟨(wrap64 (x3_2 + 1)), zq6, H', ⟨zq78⟩, zq20⟩
        rw [if_neg c17] at H; have c17b0 : ((bt a0 x3_2) == 46) = false := beq_eq_false_iff_ne.mpr c17; have c17b1 : ((bt a0 x3_2) != 46) = true := bne_iff_ne.mpr c17; by_cases c18 : (bt a0 x3_2) = 45
        ·
         rw [if_pos c18] at H; have c18b0 : ((bt a0 x3_2) == 45) = true := beq_iff_eq.mpr c18; have c18b1 : ((bt a0 x3_2) != 45) = false := bne_eq_false_iff_eq.mpr c18; clear c18; have H' := aM H; clear H; have p12 : 0 ≤ (x3_2 : Int) := of_decide_eq_true zq11; have q12 : x3_2 < (a0.size : Int) := of_decide_eq_true zq11; have hx12 := bt_at a0 x3_2; replace p12 := eq_true p12; replace q12 := eq_true q12
         go_wp2_with (first | ((with_reducible refine gC 47 rfl ?_); refine gL 33 Tryd.func47 #[.int .u8 (bt a0 x3_2)] ?_; (with_reducible refine (spec_l3Low.calls (bt a0 x3_2) false _ A13.out).mono ?_); rintro e w' ⟨rfl, ⟨nd, rfl⟩⟩; refine ⟨_, rfl, ?_⟩))
         go_roundg k2
         case measure => have := HJ1.out; have := HK2.out; omega
         case rel => exact ⟨(wrap64 (x3_2 + 1)), zq6, H', ⟨zq78⟩, zq20⟩
        rw [if_neg c18] at H; have c18b0 : ((bt a0 x3_2) == 45) = false := beq_eq_false_iff_ne.mpr c18; have c18b1 : ((bt a0 x3_2) != 45) = true := bne_iff_ne.mpr c18; obtain rfl := Option.some.inj H; have p12 : 0 ≤ (x3_2 : Int) := of_decide_eq_true zq11; have q12 : x3_2 < (a0.size : Int) := of_decide_eq_true zq11; have hx12 := bt_at a0 x3_2; replace p12 := eq_true p12; replace q12 := eq_true q12
        go_wp2_with (first | ((with_reducible refine gC 47 rfl ?_); refine gL 33 Tryd.func47 #[.int .u8 (bt a0 x3_2)] ?_; (with_reducible refine (spec_l3Low.calls (bt a0 x3_2) false _ A13.out).mono ?_); rintro e w' ⟨rfl, ⟨nd, rfl⟩⟩; refine ⟨_, rfl, ?_⟩))
        go_ret; exact ⟨zq6, zq20⟩
       rw [if_neg c15] at H; have c15b0 := decide_eq_false c15; clear c15; by_cases c19 : (bt a0 x3_2) > 90
       ·
        rw [if_pos c19] at H; have c19b0 : decide (90 < (bt a0 x3_2)) = true := decide_eq_true c19; clear c19; by_cases c20 : (bt a0 x3_2) = 95
        ·
         rw [if_pos c20] at H; have c20b0 : ((bt a0 x3_2) == 95) = true := beq_iff_eq.mpr c20; have c20b1 : ((bt a0 x3_2) != 95) = false := bne_eq_false_iff_eq.mpr c20; clear c20; have H' := aM H; clear H; have p12 : 0 ≤ (x3_2 : Int) := of_decide_eq_true zq11; have q12 : x3_2 < (a0.size : Int) := of_decide_eq_true zq11; have hx12 := bt_at a0 x3_2; replace p12 := eq_true p12; replace q12 := eq_true q12
         go_wp2_with (first | ((with_reducible refine gC 47 rfl ?_); refine gL 33 Tryd.func47 #[.int .u8 (bt a0 x3_2)] ?_; (with_reducible refine (spec_l3Low.calls (bt a0 x3_2) false _ A13.out).mono ?_); rintro e w' ⟨rfl, ⟨nd, rfl⟩⟩; refine ⟨_, rfl, ?_⟩))
         go_roundg k2
         case measure => have := HJ1.out; have := HK2.out; omega
         case rel => exact ⟨(wrap64 (x3_2 + 1)), zq6, H', ⟨zq78⟩, zq20⟩
        rw [if_neg c20] at H; have c20b0 : ((bt a0 x3_2) == 95) = false := beq_eq_false_iff_ne.mpr c20; have c20b1 : ((bt a0 x3_2) != 95) = true := bne_iff_ne.mpr c20; by_cases c21 : (bt a0 x3_2) = 46
        ·
         rw [if_pos c21] at H; have c21b0 : ((bt a0 x3_2) == 46) = true := beq_iff_eq.mpr c21; have c21b1 : ((bt a0 x3_2) != 46) = false := bne_eq_false_iff_eq.mpr c21; clear c21; have H' := aM H; clear H; have p12 : 0 ≤ (x3_2 : Int) := of_decide_eq_true zq11; have q12 : x3_2 < (a0.size : Int) := of_decide_eq_true zq11; have hx12 := bt_at a0 x3_2; replace p12 := eq_true p12; replace q12 := eq_true q12
         go_wp2_with (first | ((with_reducible refine gC 47 rfl ?_); refine gL 33 Tryd.func47 #[.int .u8 (bt a0 x3_2)] ?_; (with_reducible refine (spec_l3Low.calls (bt a0 x3_2) false _ A13.out).mono ?_); rintro e w' ⟨rfl, ⟨nd, rfl⟩⟩; refine ⟨_, rfl, ?_⟩))
         go_roundg k2
         case measure => have := HJ1.out; have := HK2.out; omega
         case rel => exact ⟨(wrap64 (x3_2 + 1)), zq6, H', ⟨zq78⟩, zq20⟩
        rw [if_neg c21] at H; have c21b0 : ((bt a0 x3_2) == 46) = false := beq_eq_false_iff_ne.mpr c21; have c21b1 : ((bt a0 x3_2) != 46) = true := bne_iff_ne.mpr c21; by_cases c22 : (bt a0 x3_2) = 45
        ·
         rw [if_pos c22] at H; have c22b0 : ((bt a0 x3_2) == 45) = true := beq_iff_eq.mpr c22; have c22b1 : ((bt a0 x3_2) != 45) = false := bne_eq_false_iff_eq.mpr c22; clear c22; have H' := aM H; clear H; have p12 : 0 ≤ (x3_2 : Int) := of_decide_eq_true zq11; have q12 : x3_2 < (a0.size : Int) := of_decide_eq_true zq11; have hx12 := bt_at a0 x3_2; replace p12 := eq_true p12; replace q12 := eq_true q12
         go_wp2_with (first | ((with_reducible refine gC 47 rfl ?_); refine gL 33 Tryd.func47 #[.int .u8 (bt a0 x3_2)] ?_; (with_reducible refine (spec_l3Low.calls (bt a0 x3_2) false _ A13.out).mono ?_); rintro e w' ⟨rfl, ⟨nd, rfl⟩⟩; refine ⟨_, rfl, ?_⟩))
         go_roundg k2
         case measure => have := HJ1.out; have := HK2.out; omega
         case rel => exact ⟨(wrap64 (x3_2 + 1)), zq6, H', ⟨zq78⟩, zq20⟩
        rw [if_neg c22] at H; have c22b0 : ((bt a0 x3_2) == 45) = false := beq_eq_false_iff_ne.mpr c22; have c22b1 : ((bt a0 x3_2) != 45) = true := bne_iff_ne.mpr c22; obtain rfl := Option.some.inj H; have p12 : 0 ≤ (x3_2 : Int) := of_decide_eq_true zq11; have q12 : x3_2 < (a0.size : Int) := of_decide_eq_true zq11; have hx12 := bt_at a0 x3_2; replace p12 := eq_true p12; replace q12 := eq_true q12
        go_wp2_with (first | ((with_reducible refine gC 47 rfl ?_); refine gL 33 Tryd.func47 #[.int .u8 (bt a0 x3_2)] ?_; (with_reducible refine (spec_l3Low.calls (bt a0 x3_2) false _ A13.out).mono ?_); rintro e w' ⟨rfl, ⟨nd, rfl⟩⟩; refine ⟨_, rfl, ?_⟩))
        go_ret; exact ⟨zq6, zq20⟩
       rw [if_neg c19] at H; have c19b0 : decide (90 < (bt a0 x3_2)) = false := decide_eq_false c19; clear c19; have H' := aM H; clear H; have p12 : 0 ≤ (x3_2 : Int) := of_decide_eq_true zq11; have q12 : x3_2 < (a0.size : Int) := of_decide_eq_true zq11; have hx12 := bt_at a0 x3_2; replace p12 := eq_true p12; replace q12 := eq_true q12
       go_wp2_with (first | ((with_reducible refine gC 47 rfl ?_); refine gL 33 Tryd.func47 #[.int .u8 (bt a0 x3_2)] ?_; (with_reducible refine (spec_l3Low.calls (bt a0 x3_2) false _ A13.out).mono ?_); rintro e w' ⟨rfl, ⟨nd, rfl⟩⟩; refine ⟨_, rfl, ?_⟩))
       go_roundg k2
       case measure => have := HJ1.out; have := HK2.out; omega
       case rel => exact ⟨(wrap64 (x3_2 + 1)), zq6, H', ⟨zq78⟩, zq20⟩
      exact zq136
     rw [if_neg c10] at H; have c10b0 := decide_eq_false c10; clear c10; obtain rfl := Option.some.inj H; go_wp2; go_ret; exact ⟨zq6, zq20⟩

/-! ### spec_l1Hexit: function 54 -/
def spec_l1Hexit.f (a0 : Int) : Option (Int) := (spec_l1Digit.f a0).bind fun t131 => (if t131 = true then (some ((a0 - 48) % 256)) else (if a0 ≥ 97 then (if a0 ≤ 102 then (some (((a0 - 97) % 256) + 10)) else (some (-1))) else (some (-1))))
set_option maxHeartbeats 8000000 in
set_option maxRecDepth 100000 in
theorem spec_l1Hexit.calls (a0 : Int) (r : Int) (w : World) (h : spec_l1Hexit.f a0 = some r) :
  Calls Tryd.prog 54 #[.int .u8 a0] w fun e w' => e = .returned (.int .i64 r) ∧ Drawn0 w w' := by
 unfold spec_l1Hexit.f at h; have H := h; clear h; replace H := Option.bind_eq_some_iff.mp H; obtain ⟨t131, A20, H⟩ := H; (try dsimp only at H); have A2 := aM A20; clear A20; by_cases c3 : t131 = true
 ·
  subst c3; rw [if_pos rfl] at H; obtain rfl := Option.some.inj H; go_enter Tryd.func54, Tryd.ntmps54
  go_wp2_with (first | ((with_reducible refine gC 67 rfl ?_); refine gL 4 Tryd.func67 #[.int .u8 a0] ?_; (with_reducible refine (spec_l1Digit.calls a0 true _ A2.out).mono ?_); rintro e w' ⟨rfl, ⟨nd, rfl⟩⟩; refine ⟨_, rfl, ?_⟩))
  go_ret; exact ⟨zq6, zq20⟩
 replace c3 := Bool.eq_false_iff.mpr c3; subst c3; rw [if_neg (show ¬ (false = true) by decide)] at H; by_cases c4 : a0 ≥ 97
 ·
  rw [if_pos c4] at H; have c4b0 : decide (97 ≤ a0) = true := decide_eq_true c4; clear c4; by_cases c5 : a0 ≤ 102
  ·
   rw [if_pos c5] at H; have c5b0 := decide_eq_true c5; clear c5; obtain rfl := Option.some.inj H; go_enter Tryd.func54, Tryd.ntmps54
   go_wp2_with (first | ((with_reducible refine gC 67 rfl ?_); refine gL 4 Tryd.func67 #[.int .u8 a0] ?_; (with_reducible refine (spec_l1Digit.calls a0 false _ A2.out).mono ?_); rintro e w' ⟨rfl, ⟨nd, rfl⟩⟩; refine ⟨_, rfl, ?_⟩))
   go_ret; exact ⟨zq6, zq20⟩
  rw [if_neg c5] at H; have c5b0 := decide_eq_false c5; clear c5; obtain rfl := Option.some.inj H; go_enter Tryd.func54, Tryd.ntmps54
  go_wp2_with (first | ((with_reducible refine gC 67 rfl ?_); refine gL 4 Tryd.func67 #[.int .u8 a0] ?_; (with_reducible refine (spec_l1Digit.calls a0 false _ A2.out).mono ?_); rintro e w' ⟨rfl, ⟨nd, rfl⟩⟩; refine ⟨_, rfl, ?_⟩))
  go_ret; exact ⟨zq6, zq20⟩
 rw [if_neg c4] at H; have c4b0 : decide (97 ≤ a0) = false := decide_eq_false c4; clear c4; obtain rfl := Option.some.inj H; go_enter Tryd.func54, Tryd.ntmps54
 go_wp2_with (first | ((with_reducible refine gC 67 rfl ?_); refine gL 4 Tryd.func67 #[.int .u8 a0] ?_; (with_reducible refine (spec_l1Digit.calls a0 false _ A2.out).mono ?_); rintro e w' ⟨rfl, ⟨nd, rfl⟩⟩; refine ⟨_, rfl, ?_⟩))
 go_ret; exact ⟨zq6, zq20⟩

end Go.Proofs.YtldpdaifajjaeaaDoor.QFnRefs
