/- Written by wip/myprint.py of this repo (the kit's print, with additions of this session). -/
import Derived.Test.YtldpdaifajjaeaaDoorQFnExactReadManifestx0
set_option maxRecDepth 100000
namespace Go.Proofs.YtldpdaifajjaeaaDoor.QFnExactReadManifest
open Go.RowKit Go.Proofs.YtldpdaifajjaeaaDoorW.PrintWords Go.Proofs.YtldpdaifajjaeaaDoorW.PrintLast Go.Proofs.YtldpdaifajjaeaaDoorW.PrintMore
attribute [local go_sem] max2_int min2_int max_two min_two max_three min_three max_four min_four   -- for this text's walks alone
set_option linter.unusedVariables false
set_option linter.unusedSimpArgs false

/-! ### spec_l3Cut: function 26 -/
def spec_l3Cut.l0 : Nat → ByteArray → Int → List ByteArray → Int → Int → Option (List ByteArray)
 | 0, _, _, _, _, _ => none
 | k + 1, x0, x1, x5, x6, x7 => if x7 ≤ (x0.size : Int) then (if x7 = (x0.size : Int) then (if 0 ≤ x6 then (if x6 ≤ x7 then (if x5.length < 8796093022208 then (spec_l3Cut.l0 k x0 x1 (x5 ++ [x0.extract (x6 : Int).toNat (x7 : Int).toNat]) (wrap64 (x7 + 1)) (wrap64 (x7 + 1))) else (none)) else (none)) else (none)) else (if 0 ≤ x7 then (if x7 < (x0.size : Int) then (if (bt x0 x7) = x1 then (if 0 ≤ x6 then (if x6 ≤ x7 then (if x5.length < 8796093022208 then (spec_l3Cut.l0 k x0 x1 (x5 ++ [x0.extract (x6 : Int).toNat (x7 : Int).toNat]) (wrap64 (x7 + 1)) (wrap64 (x7 + 1))) else (none)) else (none)) else (none)) else (spec_l3Cut.l0 k x0 x1 x5 x6 (wrap64 (x7 + 1)))) else (none)) else (none))) else (some x5)
def spec_l3Cut.f (k : Nat) (a0 : ByteArray) (a1 : Int) : Option (List ByteArray) := spec_l3Cut.l0 k a0 a1 (([] : List ByteArray)) 0 0
theorem spec_l3Cut.mono_l : ∀ k, (∀ y0 y1 y2 y3 y4, LeO (spec_l3Cut.l0 k y0 y1 y2 y3 y4) (spec_l3Cut.l0 (k + 1) y0 y1 y2 y3 y4))
 | 0 => fun _ _ _ _ _ r h => by simp [spec_l3Cut.l0] at h
 | k + 1 => by
  have ih0 := spec_l3Cut.mono_l k
  ·
   intro y0 y1 y2 y3 y4; unfold spec_l3Cut.l0
   repeat' first
   | (with_reducible apply ih0)
   | (with_reducible exact LeO.refl _)
   | (with_reducible exact LeO.none _)
   | (with_reducible refine LeO.ite ?_ ?_)
   | (with_reducible refine LeO.bind ?_ (fun _ => ?_))
   | exact LeO.none _
   | refine LeO.ite ?_ ?_
   | refine LeO.bind ?_ (fun _ => ?_)
theorem spec_l3Cut.mono : ∀ a0 a1 k, LeO (spec_l3Cut.f k a0 a1) (spec_l3Cut.f (k + 1) a0 a1) := by
 intro a0 a1 k; have ih0 := spec_l3Cut.mono_l k; unfold spec_l3Cut.f
 repeat' first
   | (with_reducible apply ih0)
   | (with_reducible exact LeO.refl _)
   | (with_reducible exact LeO.none _)
   | (with_reducible refine LeO.ite ?_ ?_)
   | (with_reducible refine LeO.bind ?_ (fun _ => ?_))
   | exact LeO.none _
   | refine LeO.ite ?_ ?_
   | refine LeO.bind ?_ (fun _ => ?_)
set_option maxHeartbeats 8000000 in
set_option maxRecDepth 100000 in
theorem spec_l3Cut.calls (k : Nat) (a0 : ByteArray) (a1 : Int) (r : List ByteArray) (w : World) (h : spec_l3Cut.f k a0 a1 = some r) :
  Calls Tryd.prog 26 #[.string a0, .int .u8 a1] w fun e w' => ∃ v0_ : Value, e = .returned (v0_) ∧ Kd.R Kd.string 9 w' w.heap.size (fun _ => True) v0_ r ∧ Below w.heap.size w w' := by
 have HB := aM (Below.refl w.heap.size w); unfold spec_l3Cut.f at h; have H := h; clear h; obtain ⟨y101, hy101⟩ : ∃ y_ : List ByteArray, y_ = (([] : List ByteArray)) := ⟨_, rfl⟩; have hy_ := hy101; replace H : (spec_l3Cut.l0 k a0 a1 y101 0 0) = some r := hyE; clear hy_; have Ny101 := aM hy101; clear hy101; have H' := aM H; clear H; go_enter Tryd.func26, Tryd.ntmps26
 go_wp2_with (first | ((with_reducible refine gD 8 rfl ?_); refine Kd.R_lit Kd.string _ 9 ?hg (N := 8) ?hd (xs := ([] : List ByteArray)) (inner := []) (ok := fun _ => True) (okp := fun _ => True) ?hr ?hp (fun _ hk => hk) trivial (Below.refl _ _) (Nat.le_refl _) (by simp) ?_; (case hd => rfl); (case hg => rfl); (case hr => exact zq1); (case hp => exact (Reps.none _ _)); intro v102 w3 ho4 hb hg_ hnew_; clear hg_ hnew_; (first | rw [← Ny101.out] at ho4 | (simp only [Int.reduceToNat] at ho4; rw [← Ny101.out] at ho4)); have HO103 := aM (Kd.R_lower ho4 (below_size zq2)); replace HB := sB zq2 hb; clear hb ho4))
 go_loopg [5, 6, 7] k (fun kq v5 v6 v7 w' => ∃ (x5_1 : List ByteArray) (x6_1 : Int) (x7_1 : Int), v6 = .int .i64 x6_1 ∧ v7 = .int .i64 x7_1 ∧ Aside0 (spec_l3Cut.l0 kq a0 a1 x5_1 x6_1 x7_1 = some r) ∧ Aside0 (kq ≤ k) ∧ Aside0 (Kd.R Kd.string 9 w' w.heap.size (fun _ => True) v5 x5_1) ∧ Aside0 (Below w.heap.size w w'))
 case atStart => exact ⟨(y101), (0), (0), zq3, zq3, H', ⟨Nat.le_refl _⟩, ⟨by refine dR ?_; exact HO103.out⟩, ⟨zq2⟩⟩
 case round =>
  clear H'; (try clear c2); (try clear p2); obtain ⟨x5_1, x6_1, x7_1, rfl, rfl, HA, HK1, HO_5, HB⟩ := hrel
  cases gk with
  | zero => exact absurd HA.out (by simp [spec_l3Cut.l0])
  | succ k1 =>
   have H := HA.out; clear HA; simp only [spec_l3Cut.l0] at H; by_cases c5 : x7_1 ≤ (a0.size : Int)
   ·
    rw [if_pos c5] at H; have c5b0 := decide_eq_true c5; clear c5; by_cases c6 : x7_1 = (a0.size : Int)
    ·
     rw [if_pos c6] at H; have c6b0 : (x7_1 == (a0.size : Int)) = true := beq_iff_eq.mpr c6; have c6b1 : (x7_1 != (a0.size : Int)) = false := bne_eq_false_iff_eq.mpr c6; clear c6; by_cases c7 : 0 ≤ x6_1
     ·
      rw [if_pos c7] at H; have c7b0 := eq_true c7; have c7b1 := decide_eq_true c7; clear c7; by_cases c8 : x6_1 ≤ x7_1
      ·
       rw [if_pos c8] at H; have c8b0 := eq_true c8; have c8b1 := decide_eq_true c8; clear c8; have c9b0 := eq_true (of_decide_eq_true zq4 : x7_1 ≤ (a0.size : Int)); by_cases c10 : x5_1.length < 8796093022208
       ·
        rw [if_pos c10] at H; have LMc10 := aM c10; clear c10; obtain ⟨y104, hy104⟩ : ∃ y_ : List ByteArray, y_ = (x5_1 ++ [a0.extract (x6_1 : Int).toNat (x7_1 : Int).toNat]) := ⟨_, rfl⟩; have hy_ := hy104; replace H : (spec_l3Cut.l0 k1 a0 a1 y104 (wrap64 (x7_1 + 1)) (wrap64 (x7_1 + 1))) = some r := hyE; clear hy_; have Ny104 := aM hy104; clear hy104; have H' := aM H; clear H
        go_wp2_with (first | ((with_reducible refine gate_builtin (b := .append) (xs := #[.tmp 26, .tmp 31]) rfl ?_); at_builtin; refine Kd.R_append Kd.string (w0 := w) w.heap.size rfl (.tmp 26) (.tmp 31) 33 9 (.string ⟨#[]⟩) 16 rfl Tryd.underlying33 info9 rfl (by decide) (by omega) u5 x5_1 (a0.extract (x6_1 : Int).toNat (x7_1 : Int).toNat) [.string (a0.extract (x6_1 : Int).toNat (x7_1 : Int).toNat)] (fun _ => True) (fun _ => False) rfl rfl ?aP (fun _ hk => hk.elim) ?aF ?aO ?aB ?aS ?aL ?_; (case aP => exact rfl); (case aB => exact zq2); (case aF => exact (fun _ _ => trivial)); (case aO => exact zq5); (case aS => exact (below_size zq2)); (case aL => have := LMc10.out; omega); intro v105 w11 ho hb hg hat; rw [← Ny104.out] at ho; have n0_ := aM (hb); have n1_ := aM (ho); clear HB; clear HO_5; have HB := n0_; have HO106 := n1_; clear n0_ n1_; clear ho hb hg hat))
        go_roundg k1
        case measure => have := HK1.out; omega
        case rel => exact ⟨(y104), (wrap64 (x7_1 + 1)), (wrap64 (x7_1 + 1)), zq3, zq3, H', ⟨zq6⟩, ⟨by refine dR ?_; exact HO106.out⟩, ⟨zq2⟩⟩
       rw [if_neg c10] at H; exact absurd H (by simp)
      rw [if_neg c8] at H; exact absurd H (by simp)
     rw [if_neg c7] at H; exact absurd H (by simp)
    rw [if_neg c6] at H; have c6b0 : (x7_1 == (a0.size : Int)) = false := beq_eq_false_iff_ne.mpr c6; have c6b1 : (x7_1 != (a0.size : Int)) = true := bne_iff_ne.mpr c6; by_cases c12 : 0 ≤ x7_1
    ·
     rw [if_pos c12] at H; have c12b0 := decide_eq_true c12; clear c12; by_cases c13 : x7_1 < (a0.size : Int)
     ·
      rw [if_pos c13] at H; have c13b0 := decide_eq_true c13; clear c13; by_cases c15 : (bt a0 x7_1) = a1
      ·
       rw [if_pos c15] at H; have c15b0 : ((bt a0 x7_1) == a1) = true := beq_iff_eq.mpr c15; have c15b1 : ((bt a0 x7_1) != a1) = false := bne_eq_false_iff_eq.mpr c15; clear c15; by_cases c16 : 0 ≤ x6_1
       ·
        rw [if_pos c16] at H; have c16b0 := eq_true c16; have c16b1 := decide_eq_true c16; clear c16; by_cases c17 : x6_1 ≤ x7_1
        ·
         rw [if_pos c17] at H; have c17b0 := eq_true c17; have c17b1 := decide_eq_true c17; clear c17; have c18b0 := eq_true (of_decide_eq_true zq4 : x7_1 ≤ (a0.size : Int)); by_cases c19 : x5_1.length < 8796093022208
         ·
          rw [if_pos c19] at H; have LMc19 := aM c19; clear c19; obtain ⟨y107, hy107⟩ : ∃ y_ : List ByteArray, y_ = (x5_1 ++ [a0.extract (x6_1 : Int).toNat (x7_1 : Int).toNat]) := ⟨_, rfl⟩; have hy_ := hy107; replace H : (spec_l3Cut.l0 k1 a0 a1 y107 (wrap64 (x7_1 + 1)) (wrap64 (x7_1 + 1))) = some r := hyE; clear hy_; have Ny107 := aM hy107; clear hy107; have H' := aM H; clear H; have p14 : 0 ≤ (x7_1 : Int) := of_decide_eq_true zq4; have q14 : x7_1 < (a0.size : Int) := of_decide_eq_true zq4; have hx14 := bt_at a0 x7_1; replace p14 := eq_true p14; replace q14 := eq_true q14
          go_wp2_with (first | ((with_reducible refine gate_builtin (b := .append) (xs := #[.tmp 26, .tmp 31]) rfl ?_); at_builtin; refine Kd.R_append Kd.string (w0 := w) w.heap.size rfl (.tmp 26) (.tmp 31) 33 9 (.string ⟨#[]⟩) 16 rfl Tryd.underlying33 info9 rfl (by decide) (by omega) u5 x5_1 (a0.extract (x6_1 : Int).toNat (x7_1 : Int).toNat) [.string (a0.extract (x6_1 : Int).toNat (x7_1 : Int).toNat)] (fun _ => True) (fun _ => False) rfl rfl ?aP (fun _ hk => hk.elim) ?aF ?aO ?aB ?aS ?aL ?_; (case aP => exact rfl); (case aB => exact zq2); (case aF => exact (fun _ _ => trivial)); (case aO => exact zq5); (case aS => exact (below_size zq2)); (case aL => have := LMc19.out; omega); intro v108 w20 ho hb hg hat; rw [← Ny107.out] at ho; have n0_ := aM (hb); have n1_ := aM (ho); clear HB; clear HO_5; have HB := n0_; have HO109 := n1_; clear n0_ n1_; clear ho hb hg hat))
          go_roundg k1
          case measure => have := HK1.out; omega
          case rel => exact ⟨(y107), (wrap64 (x7_1 + 1)), (wrap64 (x7_1 + 1)), zq3, zq3, H', ⟨zq6⟩, ⟨by refine dR ?_; exact HO109.out⟩, ⟨zq2⟩⟩
         rw [if_neg c19] at H; exact absurd H (by simp)
        rw [if_neg c17] at H; exact absurd H (by simp)
       rw [if_neg c16] at H; exact absurd H (by simp)
      rw [if_neg c15] at H; have c15b0 : ((bt a0 x7_1) == a1) = false := beq_eq_false_iff_ne.mpr c15; have c15b1 : ((bt a0 x7_1) != a1) = true := bne_iff_ne.mpr c15; have H' := aM H; clear H; have p14 : 0 ≤ (x7_1 : Int) := of_decide_eq_true zq4; have q14 : x7_1 < (a0.size : Int) := of_decide_eq_true zq4; have hx14 := bt_at a0 x7_1; replace p14 := eq_true p14; replace q14 := eq_true q14; go_wp2
      go_roundg k1
      case measure => have := HK1.out; omega
      case rel => exact ⟨(x5_1), (x6_1), (wrap64 (x7_1 + 1)), zq3, zq3, H', ⟨zq6⟩, ⟨zq5⟩, ⟨zq2⟩⟩
     rw [if_neg c13] at H; exact absurd H (by simp)
    exact zq98
   rw [if_neg c5] at H; have c5b0 := decide_eq_false c5; clear c5; obtain rfl := Option.some.inj H; go_wp2; go_ret; exact ⟨_, zq7, zq5, zq2⟩

/-! ### spec_l1Digit: function 67 -/
def spec_l1Digit.f (a0 : Int) : Option (Bool) := if a0 ≥ 48 then (some (decide (a0 ≤ 57))) else (some false)
set_option maxHeartbeats 8000000 in
set_option maxRecDepth 100000 in
theorem spec_l1Digit.calls (a0 : Int) (r : Bool) (w : World) (h : spec_l1Digit.f a0 = some r) :
  Calls Tryd.prog 67 #[.int .u8 a0] w fun e w' => e = .returned (.bool r) ∧ Drawn0 w w' := by
 unfold spec_l1Digit.f at h; have H := h; clear h; by_cases c2 : a0 ≥ 48
 ·
  rw [if_pos c2] at H; have c2b0 : decide (48 ≤ a0) = true := decide_eq_true c2; clear c2; obtain rfl := Option.some.inj H; go_enter Tryd.func67, Tryd.ntmps67; go_wp2; go_ret; exact ⟨zq3, zq8⟩
 rw [if_neg c2] at H; have c2b0 : decide (48 ≤ a0) = false := decide_eq_false c2; clear c2; obtain rfl := Option.some.inj H; go_enter Tryd.func67, Tryd.ntmps67; go_wp2; go_ret; exact ⟨zq3, zq8⟩

/-! ### spec_l1Hexit: function 54 -/
def spec_l1Hexit.f (a0 : Int) : Option (Int) := (spec_l1Digit.f a0).bind fun t110 => (if t110 = true then (some ((a0 - 48) % 256)) else (if a0 ≥ 97 then (if a0 ≤ 102 then (some (((a0 - 97) % 256) + 10)) else (some (-1))) else (some (-1))))
set_option maxHeartbeats 8000000 in
set_option maxRecDepth 100000 in
theorem spec_l1Hexit.calls (a0 : Int) (r : Int) (w : World) (h : spec_l1Hexit.f a0 = some r) :
  Calls Tryd.prog 54 #[.int .u8 a0] w fun e w' => e = .returned (.int .i64 r) ∧ Drawn0 w w' := by
 unfold spec_l1Hexit.f at h; have H := h; clear h; replace H := Option.bind_eq_some_iff.mp H; obtain ⟨t110, A20, H⟩ := H; (try dsimp only at H); have A2 := aM A20; clear A20; by_cases c3 : t110 = true
 ·
  subst c3; rw [if_pos rfl] at H; obtain rfl := Option.some.inj H; go_enter Tryd.func54, Tryd.ntmps54
  go_wp2_with (first | ((with_reducible refine gC 67 rfl ?_); refine gL 4 Tryd.func67 #[.int .u8 a0] ?_; (with_reducible refine (spec_l1Digit.calls a0 true _ A2.out).mono ?_); rintro e w' ⟨rfl, ⟨nd, rfl⟩⟩; refine ⟨_, rfl, ?_⟩))
  go_ret; exact ⟨zq3, zq8⟩
 replace c3 := Bool.eq_false_iff.mpr c3; subst c3; rw [if_neg (show ¬ (false = true) by decide)] at H; by_cases c4 : a0 ≥ 97
 ·
  rw [if_pos c4] at H; have c4b0 : decide (97 ≤ a0) = true := decide_eq_true c4; clear c4; by_cases c5 : a0 ≤ 102
  ·
   rw [if_pos c5] at H; have c5b0 := decide_eq_true c5; clear c5; obtain rfl := Option.some.inj H; go_enter Tryd.func54, Tryd.ntmps54
   go_wp2_with (first | ((with_reducible refine gC 67 rfl ?_); refine gL 4 Tryd.func67 #[.int .u8 a0] ?_; (with_reducible refine (spec_l1Digit.calls a0 false _ A2.out).mono ?_); rintro e w' ⟨rfl, ⟨nd, rfl⟩⟩; refine ⟨_, rfl, ?_⟩))
   go_ret; exact ⟨zq3, zq8⟩
  rw [if_neg c5] at H; have c5b0 := decide_eq_false c5; clear c5; obtain rfl := Option.some.inj H; go_enter Tryd.func54, Tryd.ntmps54
  go_wp2_with (first | ((with_reducible refine gC 67 rfl ?_); refine gL 4 Tryd.func67 #[.int .u8 a0] ?_; (with_reducible refine (spec_l1Digit.calls a0 false _ A2.out).mono ?_); rintro e w' ⟨rfl, ⟨nd, rfl⟩⟩; refine ⟨_, rfl, ?_⟩))
  go_ret; exact ⟨zq3, zq8⟩
 rw [if_neg c4] at H; have c4b0 : decide (97 ≤ a0) = false := decide_eq_false c4; clear c4; obtain rfl := Option.some.inj H; go_enter Tryd.func54, Tryd.ntmps54
 go_wp2_with (first | ((with_reducible refine gC 67 rfl ?_); refine gL 4 Tryd.func67 #[.int .u8 a0] ?_; (with_reducible refine (spec_l1Digit.calls a0 false _ A2.out).mono ?_); rintro e w' ⟨rfl, ⟨nd, rfl⟩⟩; refine ⟨_, rfl, ?_⟩))
 go_ret; exact ⟨zq3, zq8⟩

/-! ### spec_DigestOk: function 34 -/
mutual
def spec_DigestOk.j0 : Nat → ByteArray → Bool → Option (Bool)
 | 0, _, _ => none
 | k + 1, x0, x11 => if x11 = true then (some false) else (spec_DigestOk.l0 k x0 7)
def spec_DigestOk.l0 : Nat → ByteArray → Int → Option (Bool)
 | 0, _, _ => none
 | k + 1, x0, x3 => if x3 < 71 then (if 0 ≤ x3 then (if x3 < (x0.size : Int) then ((spec_l1Hexit.f (bt x0 x3)).bind fun t111 => (if t111 < 0 then (some false) else (spec_DigestOk.l0 k x0 (wrap64 (x3 + 1))))) else (none)) else (none)) else (some true)
end
def spec_DigestOk.f (k : Nat) (a0 : ByteArray) : Option (Bool) := if (a0.size : Int) = 71 then (if 0 ≤ 7 then (if 7 ≤ (a0.size : Int) then (spec_DigestOk.j0 k a0 ((a0.extract 0 7).toList != ([115, 104, 97, 50, 53, 54, 58] : List UInt8))) else (none)) else (none)) else (spec_DigestOk.j0 k a0 true)
theorem spec_DigestOk.mono_l : ∀ k, (∀ y0 y1, LeO (spec_DigestOk.j0 k y0 y1) (spec_DigestOk.j0 (k + 1) y0 y1)) ∧ (∀ y0 y1, LeO (spec_DigestOk.l0 k y0 y1) (spec_DigestOk.l0 (k + 1) y0 y1))
 | 0 => ⟨fun _ _ r h => by simp [spec_DigestOk.j0] at h, fun _ _ r h => by simp [spec_DigestOk.l0] at h⟩
 | k + 1 => by
  obtain ⟨ih0, ih1⟩ := spec_DigestOk.mono_l k; refine ⟨?_, ?_⟩
  ·
   intro y0 y1; unfold spec_DigestOk.j0
   repeat' first
   | (with_reducible apply ih0)
   | (with_reducible apply ih1)
   | (with_reducible exact LeO.refl _)
   | (with_reducible exact LeO.none _)
   | (with_reducible refine LeO.ite ?_ ?_)
   | (with_reducible refine LeO.bind ?_ (fun _ => ?_))
   | exact LeO.none _
   | refine LeO.ite ?_ ?_
   | refine LeO.bind ?_ (fun _ => ?_)
  intro y0 y1; unfold spec_DigestOk.l0
  repeat' first
  | (with_reducible apply ih0)
  | (with_reducible apply ih1)
  | (with_reducible exact LeO.refl _)
  | (with_reducible exact LeO.none _)
  | (with_reducible refine LeO.ite ?_ ?_)
  | (with_reducible refine LeO.bind ?_ (fun _ => ?_))
  | exact LeO.none _
  | refine LeO.ite ?_ ?_
  | refine LeO.bind ?_ (fun _ => ?_)
theorem spec_DigestOk.mono : ∀ a0 k, LeO (spec_DigestOk.f k a0) (spec_DigestOk.f (k + 1) a0) := by
 intro a0 k; obtain ⟨ih0, ih1⟩ := spec_DigestOk.mono_l k; unfold spec_DigestOk.f
 repeat' first
   | (with_reducible apply ih0)
   | (with_reducible apply ih1)
   | (with_reducible exact LeO.refl _)
   | (with_reducible exact LeO.none _)
   | (with_reducible refine LeO.ite ?_ ?_)
   | (with_reducible refine LeO.bind ?_ (fun _ => ?_))
   | exact LeO.none _
   | refine LeO.ite ?_ ?_
   | refine LeO.bind ?_ (fun _ => ?_)
set_option maxHeartbeats 8000000 in
set_option maxRecDepth 100000 in
theorem spec_DigestOk.calls (k : Nat) (a0 : ByteArray) (r : Bool) (w : World) (h : spec_DigestOk.f k a0 = some r) :
  Calls Tryd.prog 34 #[.string a0] w fun e w' => e = .returned (.bool r) ∧ Drawn0 w w' := by
 unfold spec_DigestOk.f at h; have H := h; clear h; have HC2 := aM H; clear H; go_enter Tryd.func34, Tryd.ntmps34
 go_upto_region 1 with (fail)
 go_cut [11] (fun v11 wc => ∃ (kq : Nat) (x11_1 : Bool), v11 = .bool x11_1 ∧ Aside0 (spec_DigestOk.j0 kq a0 x11_1 = some r) ∧ Aside0 (kq ≤ k) ∧ Drawn0 w wc)
 case first =>
  have H := HC2.out; clear HC2; by_cases c3 : (a0.size : Int) = 71
  ·
   rw [if_pos c3] at H; have c3b0 : ((a0.size : Int) == 71) = true := beq_iff_eq.mpr c3; have c3b1 : ((a0.size : Int) != 71) = false := bne_eq_false_iff_eq.mpr c3; clear c3
   (first | rw [c3b0] | (simp only [i64_w, i32_w]; rw [c3b0]) | skip)
   by_cases c4 : 0 ≤ 7
   ·
    rw [if_pos c4] at H; have c4b0 := eq_true c4; have c4b1 := decide_eq_true c4; clear c4; by_cases c5 : 7 ≤ (a0.size : Int)
    ·
     rw [if_pos c5] at H; have c5b0 := eq_true c5; have c5b1 := decide_eq_true c5; clear c5; have H' := aM H; clear H; go_wp2
     go_meet
     case rel => exact ⟨_, (((a0.extract 0 7).toList != ([115, 104, 97, 50, 53, 54, 58] : List UInt8))), zq3, H', ⟨zq10⟩, zq8⟩
    exact zq99
   exact zq100
  rw [if_neg c3] at H; have c3b0 : ((a0.size : Int) == 71) = false := beq_eq_false_iff_ne.mpr c3; have c3b1 : ((a0.size : Int) != 71) = true := bne_iff_ne.mpr c3
  (first | rw [c3b0] | (simp only [i64_w, i32_w]; rw [c3b0]) | skip)
  have H' := aM H; clear H; go_wp2
  go_meet
  case rel => exact ⟨_, (true), zq3, H', ⟨zq10⟩, zq8⟩
 case rest =>
  clear HC2; (try clear p2); (try clear c3); (try clear c3b0); (try clear c3b1); (try clear c4); (try clear c4b0); (try clear c4b1); (try clear c5); (try clear c5b0); (try clear c5b1); obtain ⟨kq, x11_1, rfl, HA, HJ1, ⟨mc1, rfl⟩⟩ := hcut
  cases kq with
  | zero => exact absurd HA.out (by simp [spec_DigestOk.j0])
  | succ kj1 =>
   have H := HA.out; clear HA; simp only [spec_DigestOk.j0] at H; by_cases c6 : x11_1 = true
   ·
    subst c6; rw [if_pos rfl] at H; obtain rfl := Option.some.inj H; go_wp2; go_ret; exact ⟨zq3, zq8⟩
   replace c6 := Bool.eq_false_iff.mpr c6; subst c6; rw [if_neg (show ¬ (false = true) by decide)] at H; have H' := aM H; clear H; go_wp2
   go_loopg [3] kj1 (fun kq v3 w' => ∃ (x3_2 : Int), v3 = .int .i64 x3_2 ∧ Aside0 (spec_DigestOk.l0 kq a0 x3_2 = some r) ∧ Aside0 (kq ≤ kj1) ∧ Drawn0 w w')
   case atStart => exact ⟨(7), zq3, H', ⟨Nat.le_refl _⟩, zq8⟩
   case round =>
    clear H'; (try clear c1); (try clear p2); (try clear c3); (try clear c3b0); (try clear c3b1); (try clear c4); (try clear c4b0); (try clear c4b1); (try clear c5); (try clear c5b0); (try clear c5b1); (try clear c6); (try clear p2); obtain ⟨x3_2, rfl, HA, HK2, ⟨m2, rfl⟩⟩ := hrel
    cases gk with
    | zero => exact absurd HA.out (by simp [spec_DigestOk.l0])
    | succ k2 =>
     have H := HA.out; clear HA; simp only [spec_DigestOk.l0] at H; by_cases c7 : x3_2 < 71
     ·
      rw [if_pos c7] at H; have c7b0 := decide_eq_true c7; clear c7; by_cases c8 : 0 ≤ x3_2
      ·
       rw [if_pos c8] at H; have c8b0 := decide_eq_true c8; clear c8; by_cases c9 : x3_2 < (a0.size : Int)
       ·
        rw [if_pos c9] at H; have c9b0 := decide_eq_true c9; clear c9; replace H := Option.bind_eq_some_iff.mp H; obtain ⟨t111, A110, H⟩ := H; (try dsimp only at H); have A11 := aM A110; clear A110; by_cases c12 : t111 < 0
        ·
         rw [if_pos c12] at H; have c12b0 := decide_eq_true c12; clear c12; obtain rfl := Option.some.inj H; have p10 : 0 ≤ (x3_2 : Int) := of_decide_eq_true zq4; have q10 : x3_2 < (a0.size : Int) := of_decide_eq_true zq4; have hx10 := bt_at a0 x3_2; replace p10 := eq_true p10; replace q10 := eq_true q10
         go_wp2_with (first | ((with_reducible refine gC 54 rfl ?_); refine gL 19 Tryd.func54 #[.int .u8 (bt a0 x3_2)] ?_; (with_reducible refine (spec_l1Hexit.calls (bt a0 x3_2) t111 _ A11.out).mono ?_); rintro e w' ⟨rfl, ⟨nd, rfl⟩⟩; refine ⟨_, rfl, ?_⟩))
         go_ret; exact ⟨zq3, zq8⟩
        rw [if_neg c12] at H; have c12b0 := decide_eq_false c12; clear c12; have H' := aM H; clear H; have p10 : 0 ≤ (x3_2 : Int) := of_decide_eq_true zq4; have q10 : x3_2 < (a0.size : Int) := of_decide_eq_true zq4; have hx10 := bt_at a0 x3_2; replace p10 := eq_true p10; replace q10 := eq_true q10
        go_wp2_with (first | ((with_reducible refine gC 54 rfl ?_); refine gL 19 Tryd.func54 #[.int .u8 (bt a0 x3_2)] ?_; (with_reducible refine (spec_l1Hexit.calls (bt a0 x3_2) t111 _ A11.out).mono ?_); rintro e w' ⟨rfl, ⟨nd, rfl⟩⟩; refine ⟨_, rfl, ?_⟩))
        go_roundg k2
        case measure => have := HJ1.out; have := HK2.out; omega
        case rel => exact ⟨(wrap64 (x3_2 + 1)), zq3, H', ⟨by have := HJ1.out; have := HK2.out; omega⟩, zq8⟩
       rw [if_neg c9] at H; exact absurd H (by simp)
      rw [if_neg c8] at H; exact absurd H (by simp)
     rw [if_neg c7] at H; have c7b0 := decide_eq_false c7; clear c7; obtain rfl := Option.some.inj H; go_wp2; go_ret; exact ⟨zq3, zq8⟩

/-! ### spec_l3Manifest: function 37 -/
mutual
def spec_l3Manifest.j0 : Nat → Bool → ByteArray → List ByteArray → Option (Bool)
 | 0, _, _, _ => none
 | k + 1, x19, x113000, x113001 => if x19 = true then (some false) else (spec_l3Manifest.l0 k 0 x113000 x113001)
def spec_l3Manifest.l0 : Nat → Int → ByteArray → List ByteArray → Option (Bool)
 | 0, _, _, _ => none
 | k + 1, x3, x113000, x113001 => if x3 < (x113001.length : Int) then (if 0 ≤ x3 then ((spec_DigestOk.f k (rdOf ByteArray.empty x113001 x3)).bind fun t115 => (if t115 = true then (spec_l3Manifest.l0 k (wrap64 (x3 + 1)) x113000 x113001) else (some false))) else (none)) else (some true)
end
def spec_l3Manifest.f (k : Nat) (a0_0 : ByteArray) (l0_1 : List ByteArray) : Option (Bool) := (spec_DigestOk.f k a0_0).bind fun t113 => (if t113 = true then (if (l0_1.length : Int) < 1 then (spec_l3Manifest.j0 k true a0_0 l0_1) else (spec_l3Manifest.j0 k (decide ((l0_1.length : Int) > 40)) a0_0 l0_1)) else (spec_l3Manifest.j0 k true a0_0 l0_1))
theorem spec_l3Manifest.mono_l : ∀ k, (∀ y0 y1 y2, LeO (spec_l3Manifest.j0 k y0 y1 y2) (spec_l3Manifest.j0 (k + 1) y0 y1 y2)) ∧ (∀ y0 y1 y2, LeO (spec_l3Manifest.l0 k y0 y1 y2) (spec_l3Manifest.l0 (k + 1) y0 y1 y2))
 | 0 => ⟨fun _ _ _ r h => by simp [spec_l3Manifest.j0] at h, fun _ _ _ r h => by simp [spec_l3Manifest.l0] at h⟩
 | k + 1 => by
  obtain ⟨ih0, ih1⟩ := spec_l3Manifest.mono_l k; refine ⟨?_, ?_⟩
  ·
   intro y0 y1 y2; unfold spec_l3Manifest.j0
   repeat' first
   | (with_reducible apply ih0)
   | (with_reducible apply ih1)
   | (with_reducible apply spec_DigestOk.mono)
   | (with_reducible exact LeO.refl _)
   | (with_reducible exact LeO.none _)
   | (with_reducible refine LeO.ite ?_ ?_)
   | (with_reducible refine LeO.bind ?_ (fun _ => ?_))
   | exact LeO.none _
   | refine LeO.ite ?_ ?_
   | refine LeO.bind ?_ (fun _ => ?_)
  intro y0 y1 y2; unfold spec_l3Manifest.l0
  repeat' first
  | (with_reducible apply ih0)
  | (with_reducible apply ih1)
  | (with_reducible apply spec_DigestOk.mono)
  | (with_reducible exact LeO.refl _)
  | (with_reducible exact LeO.none _)
  | (with_reducible refine LeO.ite ?_ ?_)
  | (with_reducible refine LeO.bind ?_ (fun _ => ?_))
  | exact LeO.none _
  | refine LeO.ite ?_ ?_
  | refine LeO.bind ?_ (fun _ => ?_)
theorem spec_l3Manifest.mono : ∀ a0 a1 k, LeO (spec_l3Manifest.f k a0 a1) (spec_l3Manifest.f (k + 1) a0 a1) := by
 intro a0 a1 k; obtain ⟨ih0, ih1⟩ := spec_l3Manifest.mono_l k; unfold spec_l3Manifest.f
 repeat' first
   | (with_reducible apply ih0)
   | (with_reducible apply ih1)
   | (with_reducible apply spec_DigestOk.mono)
   | (with_reducible exact LeO.refl _)
   | (with_reducible exact LeO.none _)
   | (with_reducible refine LeO.ite ?_ ?_)
   | (with_reducible refine LeO.bind ?_ (fun _ => ?_))
   | exact LeO.none _
   | refine LeO.ite ?_ ?_
   | refine LeO.bind ?_ (fun _ => ?_)
set_option maxHeartbeats 8000000 in
set_option maxRecDepth 100000 in
theorem spec_l3Manifest.calls (k : Nat) (a0_0 : ByteArray) (A0_1 : Option Addr) (c0_1 : Nat) (l0_1 : List ByteArray) (r : Bool) (w : World) (hr0_1 : Kd.C Kd.string w A0_1 l0_1.length l0_1) (hc0_1 : l0_1.length ≤ c0_1) (h : spec_l3Manifest.f k a0_0 l0_1 = some r) :
  Calls Tryd.prog 37 #[.agg #[.string a0_0, .slice A0_1 l0_1.length c0_1]] w fun e w' => e = .returned (.bool r) ∧ Below w.heap.size w w' := by
 have hu35 := Tryd.underlying35; have HR0_1 := aM hr0_1; have HC0_1 := aM hc0_1; clear hr0_1 hc0_1; have HB := aM (Below.refl w.heap.size w); unfold spec_l3Manifest.f at h; have H := h; clear h; have HC2 := aM H; clear H; go_enter Tryd.func37, Tryd.ntmps37
 go_upto_region 1 with (first | ((with_reducible refine gD 1 rfl ?_); (try (refine gate_guard (by rfl) ?_; dsimp only)); refine box_event ?hg (N := 1) ?hd (cs := #[.string a0_0, .slice A0_1 l0_1.length c0_1]) (t := 35) ?hr ?_; (case hd => rfl); (case hg => rfl); (case hr => exact zq1); intro gb112 hg w3 hbox hb; have BK112 := aM hbox; have GW112 := aM (zq86 : w.heap.size ≤ gb112); have GE112 := GW112; replace HB := sB zq2 hb; clear hb hbox hg))
 (try simp only [Act.put, List.setIfInBounds_toArray, List.set_cons_zero, List.set_cons_succ])
 go_cut [19] (fun v19 wc => ∃ (kq : Nat) (x19_1 : Bool), v19 = .bool x19_1 ∧ Aside0 (spec_l3Manifest.j0 kq x19_1 a0_0 l0_1 = some r) ∧ Aside0 (kq ≤ k) ∧ Aside0 (wc.heap[gb112]? = some (.cells #[.string a0_0, (.slice A0_1 l0_1.length c0_1)] 35 (0, 0))) ∧ Aside0 (Below w.heap.size w wc))
 case first =>
  have H := HC2.out; clear HC2; replace H := Option.bind_eq_some_iff.mp H; obtain ⟨t113, A40, H⟩ := H; (try dsimp only at H); have A4 := aM A40; clear A40; by_cases c5 : t113 = true
  ·
   subst c5; rw [if_pos rfl] at H; by_cases c6 : (l0_1.length : Int) < 1
   ·
    rw [if_pos c6] at H; have c6b0 := decide_eq_true c6; have c6b1 : decide (l0_1.length < 1) = true := decide_eq_true (by omega); clear c6
    (first | rw [c6b0] | (simp only [i64_w, i32_w]; rw [c6b0]) | skip)
    have H' := aM H; clear H; obtain ⟨hcz7_0, hcz7_1, hfz7_0, hfz7_1⟩ := cells2_ (w := w3) BK112
    go_wp2_with (first | ((with_reducible refine gC 34 rfl ?_); refine gL 6 Tryd.func34 #[.string a0_0] ?_; (with_reducible refine (spec_DigestOk.calls k a0_0 true _ A4.out).mono ?_); rintro e w' ⟨rfl, ⟨nd, rfl⟩⟩; refine ⟨_, rfl, ?_⟩))
    go_meet
    case rel => exact ⟨_, (true), zq3, H', ⟨zq10⟩, ⟨zq11⟩, ⟨zq12⟩⟩
   rw [if_neg c6] at H; have c6b0 := decide_eq_false c6; have c6b1 : decide (l0_1.length < 1) = false := decide_eq_false (by omega); clear c6
   (first | rw [c6b0] | (simp only [i64_w, i32_w]; rw [c6b0]) | skip)
   have H' := aM H; clear H; obtain ⟨hcz8_0, hcz8_1, hfz8_0, hfz8_1⟩ := cells2_ (w := w3) BK112
   go_wp2_with (first | ((with_reducible refine gC 34 rfl ?_); refine gL 6 Tryd.func34 #[.string a0_0] ?_; (with_reducible refine (spec_DigestOk.calls k a0_0 true _ A4.out).mono ?_); rintro e w' ⟨rfl, ⟨nd, rfl⟩⟩; refine ⟨_, rfl, ?_⟩))
   go_meet
   case rel => exact ⟨_, (decide ((l0_1.length : Int) > 40)), zq3, H', ⟨zq10⟩, ⟨zq11⟩, ⟨zq12⟩⟩
  replace c5 := Bool.eq_false_iff.mpr c5; subst c5; rw [if_neg (show ¬ (false = true) by decide)] at H; have H' := aM H; clear H; obtain ⟨hcz9_0, hcz9_1, hfz9_0, hfz9_1⟩ := cells2_ (w := w3) BK112
  go_wp2_with (first | ((with_reducible refine gC 34 rfl ?_); refine gL 6 Tryd.func34 #[.string a0_0] ?_; (with_reducible refine (spec_DigestOk.calls k a0_0 false _ A4.out).mono ?_); rintro e w' ⟨rfl, ⟨nd, rfl⟩⟩; refine ⟨_, rfl, ?_⟩))
  go_meet
  case rel => exact ⟨_, (true), zq3, H', ⟨zq10⟩, ⟨zq11⟩, ⟨zq12⟩⟩
 case rest =>
  clear HC2; (try clear p2); (try clear c3); (try clear c5); (try clear c6); (try clear c6b0); (try clear c6b1); (try clear hcz7_0); (try clear hcz7_1); (try clear hcz8_0); (try clear hcz8_1); (try clear hcz9_0); (try clear hcz9_1); (try clear hfz7_0); (try clear hfz7_1); (try clear hfz8_0); (try clear hfz8_1); (try clear hfz9_0); (try clear hfz9_1); obtain ⟨kq, x19_1, rfl, HA, HJ1, BK112, HB⟩ := hcut
  cases kq with
  | zero => exact absurd HA.out (by simp [spec_l3Manifest.j0])
  | succ kj1 =>
   have H := HA.out; clear HA; simp only [spec_l3Manifest.j0] at H; by_cases c10 : x19_1 = true
   ·
    subst c10; rw [if_pos rfl] at H; obtain rfl := Option.some.inj H; go_wp2; go_ret; exact ⟨zq7, zq12⟩
   replace c10 := Bool.eq_false_iff.mpr c10; subst c10; rw [if_neg (show ¬ (false = true) by decide)] at H; have H' := aM H; clear H; go_wp2
   go_loopg [3] kj1 (fun kq v3 w' => ∃ (x3_2 : Int), v3 = .int .i64 x3_2 ∧ Aside0 (spec_l3Manifest.l0 kq x3_2 a0_0 l0_1 = some r) ∧ Aside0 (kq ≤ kj1) ∧ Aside0 (w'.heap[gb112]? = some (.cells #[.string a0_0, (.slice A0_1 l0_1.length c0_1)] 35 (0, 0))) ∧ Aside0 (Below w.heap.size w w'))
   case atStart => exact ⟨(0), zq3, H', ⟨Nat.le_refl _⟩, ⟨zq11⟩, ⟨zq12⟩⟩
   case round =>
    clear H'; (try clear c1); (try clear p2); (try clear c3); (try clear c5); (try clear c6); (try clear c6b0); (try clear c6b1); (try clear c10); (try clear hcz7_0); (try clear hcz7_1); (try clear hcz8_0); (try clear hcz8_1); (try clear hcz9_0); (try clear hcz9_1); (try clear hfz7_0); (try clear hfz7_1); (try clear hfz8_0); (try clear hfz8_1); (try clear hfz9_0); (try clear hfz9_1); (try clear p2); obtain ⟨x3_2, rfl, HA, HK2, BK112, HB⟩ := hrel
    cases gk with
    | zero => exact absurd HA.out (by simp [spec_l3Manifest.l0])
    | succ k2 =>
     have H := HA.out; clear HA; simp only [spec_l3Manifest.l0] at H; by_cases c11 : x3_2 < (l0_1.length : Int)
     ·
      rw [if_pos c11] at H; have c11b0 := decide_eq_true c11; clear c11; by_cases c12 : 0 ≤ x3_2
      ·
       rw [if_pos c12] at H; have c12b0 := decide_eq_true c12; clear c12; replace H := Option.bind_eq_some_iff.mp H; obtain ⟨t115, A130, H⟩ := H; (try dsimp only at H); have A13 := aM A130; clear A130; by_cases c14 : t115 = true
       ·
        subst c14; rw [if_pos rfl] at H; have H' := aM H; clear H; obtain ⟨hcz15_0, hcz15_1, hfz15_0, hfz15_1⟩ := cells2_ (w := wr) BK112; have p114 : 0 ≤ (x3_2 : Int) := of_decide_eq_true zq4; have q114 : x3_2 < (l0_1.length : Int) := of_decide_eq_true zq4; obtain ⟨ad114, e114, hx114_0⟩ := Kd.at_string HR0_1.out x3_2 p114 q114; cases e114; replace hx114_0 := hxB HB hx114_0; replace p114 := eq_true p114; replace q114 := eq_true q114
        go_wp2_with (first | ((with_reducible refine gC 34 rfl ?_); refine gL 32 Tryd.func34 #[.string (rdOf ByteArray.empty l0_1 x3_2)] ?_; (with_reducible refine (spec_DigestOk.calls k2 (rdOf ByteArray.empty l0_1 x3_2) true _ A13.out).mono ?_); rintro e w' ⟨rfl, ⟨nd, rfl⟩⟩; refine ⟨_, rfl, ?_⟩))
        go_roundg k2
        case measure => have := HJ1.out; have := HK2.out; omega
        case rel => exact ⟨(wrap64 (x3_2 + 1)), zq3, H', ⟨by have := HJ1.out; have := HK2.out; omega⟩, ⟨zq11⟩, ⟨zq12⟩⟩
       replace c14 := Bool.eq_false_iff.mpr c14; subst c14; rw [if_neg (show ¬ (false = true) by decide)] at H; obtain rfl := Option.some.inj H; obtain ⟨hcz16_0, hcz16_1, hfz16_0, hfz16_1⟩ := cells2_ (w := wr) BK112; have p114 : 0 ≤ (x3_2 : Int) := of_decide_eq_true zq4; have q114 : x3_2 < (l0_1.length : Int) := of_decide_eq_true zq4; obtain ⟨ad114, e114, hx114_0⟩ := Kd.at_string HR0_1.out x3_2 p114 q114; cases e114; replace hx114_0 := hxB HB hx114_0; replace p114 := eq_true p114; replace q114 := eq_true q114
       go_wp2_with (first | ((with_reducible refine gC 34 rfl ?_); refine gL 32 Tryd.func34 #[.string (rdOf ByteArray.empty l0_1 x3_2)] ?_; (with_reducible refine (spec_DigestOk.calls k2 (rdOf ByteArray.empty l0_1 x3_2) false _ A13.out).mono ?_); rintro e w' ⟨rfl, ⟨nd, rfl⟩⟩; refine ⟨_, rfl, ?_⟩))
       go_ret; exact ⟨zq7, zq12⟩
      exact zq98
     rw [if_neg c11] at H; have c11b0 := decide_eq_false c11; clear c11; obtain rfl := Option.some.inj H; obtain ⟨hcz17_0, hcz17_1, hfz17_0, hfz17_1⟩ := cells2_ (w := wr) BK112; go_wp2; go_ret; exact ⟨zq7, zq12⟩

end Go.Proofs.YtldpdaifajjaeaaDoor.QFnExactReadManifest
