/- Written by wip/myprint.py of this repo (the kit's print, with additions of this session). -/
import Derived.Test.YtldpdaifajjaeaaDoorQFnExactReadRefx0
set_option maxRecDepth 100000
namespace Go.Proofs.YtldpdaifajjaeaaDoor.QFnExactReadRef
open Go.RowKit Go.Proofs.YtldpdaifajjaeaaDoorW.PrintWords Go.Proofs.YtldpdaifajjaeaaDoorW.PrintLast Go.Proofs.YtldpdaifajjaeaaDoorW.PrintMore
attribute [local go_sem] max2_int min2_int max_two min_two max_three min_three max_four min_four   -- for this text's walks alone
set_option linter.unusedVariables false
set_option linter.unusedSimpArgs false

/-! ### spec_l3Cut: function 26 -/
def spec_l3Cut.l0 : Nat → ByteArray → Int → List ByteArray → Int → Int → Option (List ByteArray)
 | 0, _, _, _, _, _ => none
 | k + 1, x0, x1, x5, x6, x7 => if x7 ≤ (x0.size : Int) then (if x7 = (x0.size : Int) then (if 0 ≤ x6 then (if x6 ≤ x7 then (if x5.length < 8796093022208 then (spec_l3Cut.l0 k x0 x1 (x5 ++ [x0.extract (x6 : Int).toNat (x7 : Int).toNat]) (wrap64 (x7 + 1)) (wrap64 (x7 + 1))) else (none)) else (none)) else (none)) else (if 0 ≤ x7 then (if x7 < (x0.size : Int) then (if (bt x0 x7) = x1 then (if 0 ≤ x6 then (if x6 ≤ x7 then (if x5.length < 8796093022208 then (spec_l3Cut.l0 k x0 x1 (x5 ++ [x0.extract (x6 : Int).toNat (x7 : Int).toNat]) (wrap64 (x7 + 1)) (wrap64 (x7 + 1))) else (none)) else (none)) else (none)) else (spec_l3Cut.l0 k x0 x1 x5 x6 (wrap64 (x7 + 1)))) else (none)) else (none))) else (some x5)
def spec_l3Cut.f (k : Nat) (a0 : ByteArray) (a1 : Int) : Option (List ByteArray) := spec_l3Cut.l0 k a0 a1 (([] : List ByteArray)) 0 0
theorem spec_l3Cut.mono_l : ∀ k, (∀ y0 y1 y2 y3 y4, LeO (spec_l3Cut.l0 k y0 y1 y2 y3 y4) (spec_l3Cut.l0 (k + 1) y0 y1 y2 y3 y4))
 | 0 => fun _ _ _ _ _ r h => by simp [spec_l3Cut.l0] at h
 | k + 1 => by
  have ih0 := spec_l3Cut.mono_l k
  ·
   intro y0 y1 y2 y3 y4; unfold spec_l3Cut.l0
   repeat' first
   | (with_reducible apply ih0)
   | (with_reducible exact LeO.refl _)
   | (with_reducible exact LeO.none _)
   | (with_reducible refine LeO.ite ?_ ?_)
   | (with_reducible refine LeO.bind ?_ (fun _ => ?_))
   | exact LeO.none _
   | refine LeO.ite ?_ ?_
   | refine LeO.bind ?_ (fun _ => ?_)
theorem spec_l3Cut.mono : ∀ a0 a1 k, LeO (spec_l3Cut.f k a0 a1) (spec_l3Cut.f (k + 1) a0 a1) := by
 intro a0 a1 k; have ih0 := spec_l3Cut.mono_l k; unfold spec_l3Cut.f
 repeat' first
   | (with_reducible apply ih0)
   | (with_reducible exact LeO.refl _)
   | (with_reducible exact LeO.none _)
   | (with_reducible refine LeO.ite ?_ ?_)
   | (with_reducible refine LeO.bind ?_ (fun _ => ?_))
   | exact LeO.none _
   | refine LeO.ite ?_ ?_
   | refine LeO.bind ?_ (fun _ => ?_)
set_option maxHeartbeats 8000000 in
set_option maxRecDepth 100000 in
theorem spec_l3Cut.calls (k : Nat) (a0 : ByteArray) (a1 : Int) (r : List ByteArray) (w : World) (h : spec_l3Cut.f k a0 a1 = some r) :
  Calls Tryd.prog 26 #[.string a0, .int .u8 a1] w fun e w' => ∃ v0_ : Value, e = .returned (v0_) ∧ Kd.R Kd.string 9 w' w.heap.size (fun _ => True) v0_ r ∧ Below w.heap.size w w' := by
 have HB := aM (Below.refl w.heap.size w); unfold spec_l3Cut.f at h; have H := h; clear h; obtain ⟨y101, hy101⟩ : ∃ y_ : List ByteArray, y_ = (([] : List ByteArray)) := ⟨_, rfl⟩; have hy_ := hy101; replace H : (spec_l3Cut.l0 k a0 a1 y101 0 0) = some r := hyE; clear hy_; have Ny101 := aM hy101; clear hy101; have H' := aM H; clear H; go_enter Tryd.func26, Tryd.ntmps26
 go_wp2_with (first | ((with_reducible refine gD 8 rfl ?_); refine Kd.R_lit Kd.string _ 9 ?hg (N := 8) ?hd (xs := ([] : List ByteArray)) (inner := []) (ok := fun _ => True) (okp := fun _ => True) ?hr ?hp (fun _ hk => hk) trivial (Below.refl _ _) (Nat.le_refl _) (by simp) ?_; (case hd => rfl); (case hg => rfl); (case hr => exact zq1); (case hp => exact (Reps.none _ _)); intro v102 w3 ho4 hb hg_ hnew_; clear hg_ hnew_; (first | rw [← Ny101.out] at ho4 | (simp only [Int.reduceToNat] at ho4; rw [← Ny101.out] at ho4)); have HO103 := aM (Kd.R_lower ho4 (below_size zq2)); replace HB := sB zq2 hb; clear hb ho4))
 go_loopg [5, 6, 7] k (fun kq v5 v6 v7 w' => ∃ (x5_1 : List ByteArray) (x6_1 : Int) (x7_1 : Int), v6 = .int .i64 x6_1 ∧ v7 = .int .i64 x7_1 ∧ Aside0 (spec_l3Cut.l0 kq a0 a1 x5_1 x6_1 x7_1 = some r) ∧ Aside0 (kq ≤ k) ∧ Aside0 (Kd.R Kd.string 9 w' w.heap.size (fun _ => True) v5 x5_1) ∧ Aside0 (Below w.heap.size w w'))
 case atStart => exact ⟨(y101), (0), (0), zq3, zq3, H', ⟨Nat.le_refl _⟩, ⟨by refine dR ?_; exact HO103.out⟩, ⟨zq2⟩⟩
 case round =>
  clear H'; (try clear c2); (try clear p2); obtain ⟨x5_1, x6_1, x7_1, rfl, rfl, HA, HK1, HO_5, HB⟩ := hrel
  cases gk with
  | zero => exact absurd HA.out (by simp [spec_l3Cut.l0])
  | succ k1 =>
   have H := HA.out; clear HA; simp only [spec_l3Cut.l0] at H; by_cases c5 : x7_1 ≤ (a0.size : Int)
   ·
    rw [if_pos c5] at H; have c5b0 := decide_eq_true c5; clear c5; by_cases c6 : x7_1 = (a0.size : Int)
    ·
     rw [if_pos c6] at H; have c6b0 : (x7_1 == (a0.size : Int)) = true := beq_iff_eq.mpr c6; have c6b1 : (x7_1 != (a0.size : Int)) = false := bne_eq_false_iff_eq.mpr c6; clear c6; by_cases c7 : 0 ≤ x6_1
     ·
      rw [if_pos c7] at H; have c7b0 := eq_true c7; have c7b1 := decide_eq_true c7; clear c7; by_cases c8 : x6_1 ≤ x7_1
      ·
       rw [if_pos c8] at H; have c8b0 := eq_true c8; have c8b1 := decide_eq_true c8; clear c8; have c9b0 := eq_true (of_decide_eq_true zq4 : x7_1 ≤ (a0.size : Int)); by_cases c10 : x5_1.length < 8796093022208
       ·
        rw [if_pos c10] at H; have LMc10 := aM c10; clear c10; obtain ⟨y104, hy104⟩ : ∃ y_ : List ByteArray, y_ = (x5_1 ++ [a0.extract (x6_1 : Int).toNat (x7_1 : Int).toNat]) := ⟨_, rfl⟩; have hy_ := hy104; replace H : (spec_l3Cut.l0 k1 a0 a1 y104 (wrap64 (x7_1 + 1)) (wrap64 (x7_1 + 1))) = some r := hyE; clear hy_; have Ny104 := aM hy104; clear hy104; have H' := aM H; clear H
        go_wp2_with (first | ((with_reducible refine gate_builtin (b := .append) (xs := #[.tmp 26, .tmp 31]) rfl ?_); at_builtin; refine Kd.R_append Kd.string (w0 := w) w.heap.size rfl (.tmp 26) (.tmp 31) 33 9 (.string ⟨#[]⟩) 16 rfl Tryd.underlying33 info9 rfl (by decide) (by omega) u5 x5_1 (a0.extract (x6_1 : Int).toNat (x7_1 : Int).toNat) [.string (a0.extract (x6_1 : Int).toNat (x7_1 : Int).toNat)] (fun _ => True) (fun _ => False) rfl rfl ?aP (fun _ hk => hk.elim) ?aF ?aO ?aB ?aS ?aL ?_; (case aP => exact rfl); (case aB => exact zq2); (case aF => exact (fun _ _ => trivial)); (case aO => exact zq5); (case aS => exact (below_size zq2)); (case aL => have := LMc10.out; omega); intro v105 w11 ho hb hg hat; rw [← Ny104.out] at ho; have n0_ := aM (hb); have n1_ := aM (ho); clear HB; clear HO_5; have HB := n0_; have HO106 := n1_; clear n0_ n1_; clear ho hb hg hat))
        go_roundg k1
        case measure => have := HK1.out; omega
        case rel => exact ⟨(y104), (wrap64 (x7_1 + 1)), (wrap64 (x7_1 + 1)), zq3, zq3, H', ⟨zq6⟩, ⟨by refine dR ?_; exact HO106.out⟩, ⟨zq2⟩⟩
       rw [if_neg c10] at H; exact absurd H (by simp)
      exact zq65
     exact zq66
    rw [if_neg c6] at H; have c6b0 : (x7_1 == (a0.size : Int)) = false := beq_eq_false_iff_ne.mpr c6; have c6b1 : (x7_1 != (a0.size : Int)) = true := bne_iff_ne.mpr c6; by_cases c12 : 0 ≤ x7_1
    ·
     rw [if_pos c12] at H; have c12b0 := decide_eq_true c12; clear c12; by_cases c13 : x7_1 < (a0.size : Int)
     ·
      rw [if_pos c13] at H; have c13b0 := decide_eq_true c13; clear c13; by_cases c15 : (bt a0 x7_1) = a1
      ·
       rw [if_pos c15] at H; have c15b0 : ((bt a0 x7_1) == a1) = true := beq_iff_eq.mpr c15; have c15b1 : ((bt a0 x7_1) != a1) = false := bne_eq_false_iff_eq.mpr c15; clear c15; by_cases c16 : 0 ≤ x6_1
       ·
        rw [if_pos c16] at H; have c16b0 := eq_true c16; have c16b1 := decide_eq_true c16; clear c16; by_cases c17 : x6_1 ≤ x7_1
        ·
         rw [if_pos c17] at H; have c17b0 := eq_true c17; have c17b1 := decide_eq_true c17; clear c17; have c18b0 := eq_true (of_decide_eq_true zq4 : x7_1 ≤ (a0.size : Int)); by_cases c19 : x5_1.length < 8796093022208
         ·
          rw [if_pos c19] at H; have LMc19 := aM c19; clear c19; obtain ⟨y107, hy107⟩ : ∃ y_ : List ByteArray, y_ = (x5_1 ++ [a0.extract (x6_1 : Int).toNat (x7_1 : Int).toNat]) := ⟨_, rfl⟩; have hy_ := hy107; replace H : (spec_l3Cut.l0 k1 a0 a1 y107 (wrap64 (x7_1 + 1)) (wrap64 (x7_1 + 1))) = some r := hyE; clear hy_; have Ny107 := aM hy107; clear hy107; have H' := aM H; clear H; have p14 : 0 ≤ (x7_1 : Int) := of_decide_eq_true zq4; have q14 : x7_1 < (a0.size : Int) := of_decide_eq_true zq4; have hx14 := bt_at a0 x7_1; replace p14 := eq_true p14; replace q14 := eq_true q14
          go_wp2_with (first | ((with_reducible refine gate_builtin (b := .append) (xs := #[.tmp 26, .tmp 31]) rfl ?_); at_builtin; refine Kd.R_append Kd.string (w0 := w) w.heap.size rfl (.tmp 26) (.tmp 31) 33 9 (.string ⟨#[]⟩) 16 rfl Tryd.underlying33 info9 rfl (by decide) (by omega) u5 x5_1 (a0.extract (x6_1 : Int).toNat (x7_1 : Int).toNat) [.string (a0.extract (x6_1 : Int).toNat (x7_1 : Int).toNat)] (fun _ => True) (fun _ => False) rfl rfl ?aP (fun _ hk => hk.elim) ?aF ?aO ?aB ?aS ?aL ?_; (case aP => exact rfl); (case aB => exact zq2); (case aF => exact (fun _ _ => trivial)); (case aO => exact zq5); (case aS => exact (below_size zq2)); (case aL => have := LMc19.out; omega); intro v108 w20 ho hb hg hat; rw [← Ny107.out] at ho; have n0_ := aM (hb); have n1_ := aM (ho); clear HB; clear HO_5; have HB := n0_; have HO109 := n1_; clear n0_ n1_; clear ho hb hg hat))
          go_roundg k1
          case measure => have := HK1.out; omega
          case rel => exact ⟨(y107), (wrap64 (x7_1 + 1)), (wrap64 (x7_1 + 1)), zq3, zq3, H', ⟨zq6⟩, ⟨by refine dR ?_; exact HO109.out⟩, ⟨zq2⟩⟩
         rw [if_neg c19] at H; exact absurd H (by simp)
        rw [if_neg c17] at H; exact absurd H (by simp)
       rw [if_neg c16] at H; exact absurd H (by simp)
      rw [if_neg c15] at H; have c15b0 : ((bt a0 x7_1) == a1) = false := beq_eq_false_iff_ne.mpr c15; have c15b1 : ((bt a0 x7_1) != a1) = true := bne_iff_ne.mpr c15; have H' := aM H; clear H; have p14 : 0 ≤ (x7_1 : Int) := of_decide_eq_true zq4; have q14 : x7_1 < (a0.size : Int) := of_decide_eq_true zq4; have hx14 := bt_at a0 x7_1; replace p14 := eq_true p14; replace q14 := eq_true q14; go_wp2
      go_roundg k1
      case measure => have := HK1.out; omega
      case rel => exact ⟨(x5_1), (x6_1), (wrap64 (x7_1 + 1)), zq3, zq3, H', ⟨zq6⟩, ⟨zq5⟩, ⟨zq2⟩⟩
     rw [if_neg c13] at H; exact absurd H (by simp)
    rw [if_neg c12] at H; exact absurd H (by simp)
   rw [if_neg c5] at H; have c5b0 := decide_eq_false c5; clear c5; obtain rfl := Option.some.inj H; go_wp2; go_ret; exact ⟨_, zq7, zq5, zq2⟩

/-! ### spec_l1Digit: function 67 -/
def spec_l1Digit.f (a0 : Int) : Option (Bool) := if a0 ≥ 48 then (some (decide (a0 ≤ 57))) else (some false)
set_option maxHeartbeats 8000000 in
set_option maxRecDepth 100000 in
theorem spec_l1Digit.calls (a0 : Int) (r : Bool) (w : World) (h : spec_l1Digit.f a0 = some r) :
  Calls Tryd.prog 67 #[.int .u8 a0] w fun e w' => e = .returned (.bool r) ∧ Drawn0 w w' := by
 unfold spec_l1Digit.f at h; have H := h; clear h; by_cases c2 : a0 ≥ 48
 ·
  rw [if_pos c2] at H; have c2b0 : decide (48 ≤ a0) = true := decide_eq_true c2; clear c2; obtain rfl := Option.some.inj H; go_enter Tryd.func67, Tryd.ntmps67; go_wp2; go_ret; exact ⟨zq3, zq8⟩
 rw [if_neg c2] at H; have c2b0 : decide (48 ≤ a0) = false := decide_eq_false c2; clear c2; obtain rfl := Option.some.inj H; go_enter Tryd.func67, Tryd.ntmps67; go_wp2; go_ret; exact ⟨zq3, zq8⟩

/-! ### spec_l3Low: function 47 -/
def spec_l3Low.f (a0 : Int) : Option (Bool) := (spec_l1Digit.f a0).bind fun t110 => (if t110 = true then (some true) else (if a0 ≥ 97 then (some (decide (a0 ≤ 122))) else (some false)))
set_option maxHeartbeats 8000000 in
set_option maxRecDepth 100000 in
theorem spec_l3Low.calls (a0 : Int) (r : Bool) (w : World) (h : spec_l3Low.f a0 = some r) :
  Calls Tryd.prog 47 #[.int .u8 a0] w fun e w' => e = .returned (.bool r) ∧ Drawn0 w w' := by
 unfold spec_l3Low.f at h; have H := h; clear h; replace H := Option.bind_eq_some_iff.mp H; obtain ⟨t110, A20, H⟩ := H; (try dsimp only at H); have A2 := aM A20; clear A20; by_cases c3 : t110 = true
 ·
  subst c3; rw [if_pos rfl] at H; obtain rfl := Option.some.inj H; go_enter Tryd.func47, Tryd.ntmps47
  go_wp2_with (first | ((with_reducible refine gC 67 rfl ?_); refine gL 4 Tryd.func67 #[.int .u8 a0] ?_; (with_reducible refine (spec_l1Digit.calls a0 true _ A2.out).mono ?_); rintro e w' ⟨rfl, ⟨nd, rfl⟩⟩; refine ⟨_, rfl, ?_⟩))
  go_ret; exact ⟨zq3, zq8⟩
 replace c3 := Bool.eq_false_iff.mpr c3; subst c3; rw [if_neg (show ¬ (false = true) by decide)] at H; by_cases c4 : a0 ≥ 97
 ·
  rw [if_pos c4] at H; have c4b0 : decide (97 ≤ a0) = true := decide_eq_true c4; clear c4; obtain rfl := Option.some.inj H; go_enter Tryd.func47, Tryd.ntmps47
  go_wp2_with (first | ((with_reducible refine gC 67 rfl ?_); refine gL 4 Tryd.func67 #[.int .u8 a0] ?_; (with_reducible refine (spec_l1Digit.calls a0 false _ A2.out).mono ?_); rintro e w' ⟨rfl, ⟨nd, rfl⟩⟩; refine ⟨_, rfl, ?_⟩))
  go_ret; exact ⟨zq3, zq8⟩
 rw [if_neg c4] at H; have c4b0 : decide (97 ≤ a0) = false := decide_eq_false c4; clear c4; obtain rfl := Option.some.inj H; go_enter Tryd.func47, Tryd.ntmps47
 go_wp2_with (first | ((with_reducible refine gC 67 rfl ?_); refine gL 4 Tryd.func67 #[.int .u8 a0] ?_; (with_reducible refine (spec_l1Digit.calls a0 false _ A2.out).mono ?_); rintro e w' ⟨rfl, ⟨nd, rfl⟩⟩; refine ⟨_, rfl, ?_⟩))
 go_ret; exact ⟨zq3, zq8⟩

/-! ### spec_l3Mark: function 48 -/
mutual
def spec_l3Mark.j0 : Nat → ByteArray → Bool → Option (Bool)
 | 0, _, _ => none
 | k + 1, x0, x13 => if x13 = true then (some true) else (spec_l3Mark.l0 k x0 0)
def spec_l3Mark.l0 : Nat → ByteArray → Int → Option (Bool)
 | 0, _, _ => none
 | k + 1, x0, x3 => if x3 < (x0.size : Int) then (if 0 ≤ x3 then (if (bt x0 x3) = 45 then (spec_l3Mark.l0 k x0 (wrap64 (x3 + 1))) else (some false)) else (none)) else (some (decide ((x0.size : Int) > 0)))
end
def spec_l3Mark.f (k : Nat) (a0 : ByteArray) : Option (Bool) := if a0.toList = ([46] : List UInt8) then (spec_l3Mark.j0 k a0 true) else (if a0.toList = ([95] : List UInt8) then (spec_l3Mark.j0 k a0 true) else (spec_l3Mark.j0 k a0 (a0.toList == ([95, 95] : List UInt8))))
theorem spec_l3Mark.mono_l : ∀ k, (∀ y0 y1, LeO (spec_l3Mark.j0 k y0 y1) (spec_l3Mark.j0 (k + 1) y0 y1)) ∧ (∀ y0 y1, LeO (spec_l3Mark.l0 k y0 y1) (spec_l3Mark.l0 (k + 1) y0 y1))
 | 0 => ⟨fun _ _ r h => by simp [spec_l3Mark.j0] at h, fun _ _ r h => by simp [spec_l3Mark.l0] at h⟩
 | k + 1 => by
  obtain ⟨ih0, ih1⟩ := spec_l3Mark.mono_l k; refine ⟨?_, ?_⟩
  ·
   intro y0 y1; unfold spec_l3Mark.j0
   repeat' first
   | (with_reducible apply ih0)
   | (with_reducible apply ih1)
   | (with_reducible exact LeO.refl _)
   | (with_reducible exact LeO.none _)
   | (with_reducible refine LeO.ite ?_ ?_)
   | (with_reducible refine LeO.bind ?_ (fun _ => ?_))
   | exact LeO.none _
   | refine LeO.ite ?_ ?_
   | refine LeO.bind ?_ (fun _ => ?_)
  intro y0 y1; unfold spec_l3Mark.l0
  repeat' first
  | (with_reducible apply ih0)
  | (with_reducible apply ih1)
  | (with_reducible exact LeO.refl _)
  | (with_reducible exact LeO.none _)
  | (with_reducible refine LeO.ite ?_ ?_)
  | (with_reducible refine LeO.bind ?_ (fun _ => ?_))
  | exact LeO.none _
  | refine LeO.ite ?_ ?_
  | refine LeO.bind ?_ (fun _ => ?_)
theorem spec_l3Mark.mono : ∀ a0 k, LeO (spec_l3Mark.f k a0) (spec_l3Mark.f (k + 1) a0) := by
 intro a0 k; obtain ⟨ih0, ih1⟩ := spec_l3Mark.mono_l k; unfold spec_l3Mark.f
 repeat' first
   | (with_reducible apply ih0)
   | (with_reducible apply ih1)
   | (with_reducible exact LeO.refl _)
   | (with_reducible exact LeO.none _)
   | (with_reducible refine LeO.ite ?_ ?_)
   | (with_reducible refine LeO.bind ?_ (fun _ => ?_))
   | exact LeO.none _
   | refine LeO.ite ?_ ?_
   | refine LeO.bind ?_ (fun _ => ?_)
set_option maxHeartbeats 8000000 in
set_option maxRecDepth 100000 in
theorem spec_l3Mark.calls (k : Nat) (a0 : ByteArray) (r : Bool) (w : World) (h : spec_l3Mark.f k a0 = some r) :
  Calls Tryd.prog 48 #[.string a0] w fun e w' => e = .returned (.bool r) ∧ Drawn0 w w' := by
 unfold spec_l3Mark.f at h; have H := h; clear h; have HC2 := aM H; clear H; go_enter Tryd.func48, Tryd.ntmps48
 go_upto_region 1 with (fail)
 go_cut [13] (fun v13 wc => ∃ (kq : Nat) (x13_1 : Bool), v13 = .bool x13_1 ∧ Aside0 (spec_l3Mark.j0 kq a0 x13_1 = some r) ∧ Aside0 (kq ≤ k) ∧ Drawn0 w wc)
 case first =>
  have H := HC2.out; clear HC2; by_cases c3 : a0.toList = ([46] : List UInt8)
  ·
   rw [if_pos c3] at H; have c3b0 : (a0.toList == ([46] : List UInt8)) = true := beq_iff_eq.mpr c3; have c3b1 : (a0.toList != ([46] : List UInt8)) = false := bne_eq_false_iff_eq.mpr c3; clear c3
   (first | rw [c3b0] | (simp only [i64_w, i32_w]; rw [c3b0]) | skip)
   have H' := aM H; clear H; go_wp2
   go_meet
   case rel => exact ⟨_, (true), zq3, H', ⟨zq10⟩, zq8⟩
  rw [if_neg c3] at H; have c3b0 : (a0.toList == ([46] : List UInt8)) = false := beq_eq_false_iff_ne.mpr c3; have c3b1 : (a0.toList != ([46] : List UInt8)) = true := bne_iff_ne.mpr c3
  (first | rw [c3b0] | (simp only [i64_w, i32_w]; rw [c3b0]) | skip)
  by_cases c4 : a0.toList = ([95] : List UInt8)
  ·
   rw [if_pos c4] at H; have c4b0 : (a0.toList == ([95] : List UInt8)) = true := beq_iff_eq.mpr c4; have c4b1 : (a0.toList != ([95] : List UInt8)) = false := bne_eq_false_iff_eq.mpr c4; clear c4; have H' := aM H; clear H; go_wp2
   go_meet
   case rel => exact ⟨_, (true), zq3, H', ⟨zq10⟩, zq8⟩
  rw [if_neg c4] at H; have c4b0 : (a0.toList == ([95] : List UInt8)) = false := beq_eq_false_iff_ne.mpr c4; have c4b1 : (a0.toList != ([95] : List UInt8)) = true := bne_iff_ne.mpr c4; have H' := aM H; clear H; go_wp2
  go_meet
  case rel => exact ⟨_, ((a0.toList == ([95, 95] : List UInt8))), zq3, H', ⟨zq10⟩, zq8⟩
 case rest =>
  clear HC2; (try clear p2); (try clear c3); (try clear c3b0); (try clear c3b1); (try clear c4); (try clear c4b0); (try clear c4b1); obtain ⟨kq, x13_1, rfl, HA, HJ1, ⟨mc1, rfl⟩⟩ := hcut
  cases kq with
  | zero => exact absurd HA.out (by simp [spec_l3Mark.j0])
  | succ kj1 =>
   have H := HA.out; clear HA; simp only [spec_l3Mark.j0] at H; by_cases c5 : x13_1 = true
   ·
    subst c5; rw [if_pos rfl] at H; obtain rfl := Option.some.inj H; go_wp2; go_ret; exact ⟨zq3, zq8⟩
   replace c5 := Bool.eq_false_iff.mpr c5; subst c5; rw [if_neg (show ¬ (false = true) by decide)] at H; have H' := aM H; clear H; go_wp2
   go_loopg [3] kj1 (fun kq v3 w' => ∃ (x3_2 : Int), v3 = .int .i64 x3_2 ∧ Aside0 (spec_l3Mark.l0 kq a0 x3_2 = some r) ∧ Aside0 (kq ≤ kj1) ∧ Drawn0 w w')
   case atStart => exact ⟨(0), zq3, H', ⟨Nat.le_refl _⟩, zq8⟩
   case round =>
    clear H'; (try clear c1); (try clear p2); (try clear c3); (try clear c3b0); (try clear c3b1); (try clear c4); (try clear c4b0); (try clear c4b1); (try clear c5); (try clear p2); obtain ⟨x3_2, rfl, HA, HK2, ⟨m2, rfl⟩⟩ := hrel
    cases gk with
    | zero => exact absurd HA.out (by simp [spec_l3Mark.l0])
    | succ k2 =>
     have H := HA.out; clear HA; simp only [spec_l3Mark.l0] at H; by_cases c6 : x3_2 < (a0.size : Int)
     ·
      rw [if_pos c6] at H; have c6b0 := decide_eq_true c6; clear c6; by_cases c7 : 0 ≤ x3_2
      ·
       rw [if_pos c7] at H; have c7b0 := decide_eq_true c7; clear c7; by_cases c9 : (bt a0 x3_2) = 45
       ·
        rw [if_pos c9] at H; have c9b0 : ((bt a0 x3_2) == 45) = true := beq_iff_eq.mpr c9; have c9b1 : ((bt a0 x3_2) != 45) = false := bne_eq_false_iff_eq.mpr c9; clear c9; have H' := aM H; clear H; have p8 : 0 ≤ (x3_2 : Int) := of_decide_eq_true zq4; have q8 : x3_2 < (a0.size : Int) := of_decide_eq_true zq4; have hx8 := bt_at a0 x3_2; replace p8 := eq_true p8; replace q8 := eq_true q8; go_wp2
        go_roundg k2
        case measure => have := HJ1.out; have := HK2.out; omega
        case rel => exact ⟨(wrap64 (x3_2 + 1)), zq3, H', ⟨zq11⟩, zq8⟩
       rw [if_neg c9] at H; have c9b0 : ((bt a0 x3_2) == 45) = false := beq_eq_false_iff_ne.mpr c9; have c9b1 : ((bt a0 x3_2) != 45) = true := bne_iff_ne.mpr c9; obtain rfl := Option.some.inj H; have p8 : 0 ≤ (x3_2 : Int) := of_decide_eq_true zq4; have q8 : x3_2 < (a0.size : Int) := of_decide_eq_true zq4; have hx8 := bt_at a0 x3_2; replace p8 := eq_true p8; replace q8 := eq_true q8; go_wp2; go_ret; exact ⟨zq3, zq8⟩
      exact zq66
     rw [if_neg c6] at H; have c6b0 := decide_eq_false c6; clear c6; obtain rfl := Option.some.inj H; go_wp2; go_ret; exact ⟨zq3, zq8⟩

end Go.Proofs.YtldpdaifajjaeaaDoor.QFnExactReadRef
