/- Written by wip/myprint.py of this repo (the kit's print, with additions of this session). -/
import Derived.Test.YtldpdaifajjaeaaDoorQFnRefsx0
import Derived.Test.YtldpdaifajjaeaaDoorQFnRefsx4
set_option maxRecDepth 100000
namespace Go.Proofs.YtldpdaifajjaeaaDoor.QFnRefs
open Go.RowKit Go.Proofs.YtldpdaifajjaeaaDoorW.PrintWords Go.Proofs.YtldpdaifajjaeaaDoorW.PrintLast Go.Proofs.YtldpdaifajjaeaaDoorW.PrintMore
attribute [local go_sem] max2_int min2_int max_two min_two max_three min_three max_four min_four   -- for this text's walks alone
set_option linter.unusedVariables false
set_option linter.unusedSimpArgs false

/-! ### spec_DigestOk: function 34 -/
mutual
def spec_DigestOk.j0 : Nat → ByteArray → Bool → Option (Bool)
 | 0, _, _ => none
 | k + 1, x0, x11 => if x11 = true then (some false) else (spec_DigestOk.l0 k x0 7)
def spec_DigestOk.l0 : Nat → ByteArray → Int → Option (Bool)
 | 0, _, _ => none
 | k + 1, x0, x3 => if x3 < 71 then (if 0 ≤ x3 then (if x3 < (x0.size : Int) then ((spec_l1Hexit.f (bt x0 x3)).bind fun t132 => (if t132 < 0 then (some false) else (spec_DigestOk.l0 k x0 (wrap64 (x3 + 1))))) else (none)) else (none)) else (some true)
end
def spec_DigestOk.f (k : Nat) (a0 : ByteArray) : Option (Bool) := if (a0.size : Int) = 71 then (if 0 ≤ 7 then (if 7 ≤ (a0.size : Int) then (spec_DigestOk.j0 k a0 ((a0.extract 0 7).toList != ([115, 104, 97, 50, 53, 54, 58] : List UInt8))) else (none)) else (none)) else (spec_DigestOk.j0 k a0 true)
theorem spec_DigestOk.mono_l : ∀ k, (∀ y0 y1, LeO (spec_DigestOk.j0 k y0 y1) (spec_DigestOk.j0 (k + 1) y0 y1)) ∧ (∀ y0 y1, LeO (spec_DigestOk.l0 k y0 y1) (spec_DigestOk.l0 (k + 1) y0 y1))
 | 0 => ⟨fun _ _ r h => by simp [spec_DigestOk.j0] at h, fun _ _ r h => by simp [spec_DigestOk.l0] at h⟩
 | k + 1 => by
  obtain ⟨ih0, ih1⟩ := spec_DigestOk.mono_l k; refine ⟨?_, ?_⟩
  ·
   intro y0 y1; unfold spec_DigestOk.j0
   repeat' first
   | (with_reducible apply ih0)
   | (with_reducible apply ih1)
   | (with_reducible exact LeO.refl _)
   | (with_reducible exact LeO.none _)
   | (with_reducible refine LeO.ite ?_ ?_)
   | (with_reducible refine LeO.bind ?_ (fun _ => ?_))
   | exact LeO.none _
   | refine LeO.ite ?_ ?_
   | refine LeO.bind ?_ (fun _ => ?_)
  intro y0 y1; unfold spec_DigestOk.l0
  repeat' first
  | (with_reducible apply ih0)
  | (with_reducible apply ih1)
  | (with_reducible exact LeO.refl _)
  | (with_reducible exact LeO.none _)
  | (with_reducible refine LeO.ite ?_ ?_)
  | (with_reducible refine LeO.bind ?_ (fun _ => ?_))
  | exact LeO.none _
  | refine LeO.ite ?_ ?_
  | refine LeO.bind ?_ (fun _ => ?_)
theorem spec_DigestOk.mono : ∀ a0 k, LeO (spec_DigestOk.f k a0) (spec_DigestOk.f (k + 1) a0) := by
 intro a0 k; obtain ⟨ih0, ih1⟩ := spec_DigestOk.mono_l k; unfold spec_DigestOk.f
 repeat' first
   | (with_reducible apply ih0)
   | (with_reducible apply ih1)
   | (with_reducible exact LeO.refl _)
   | (with_reducible exact LeO.none _)
   | (with_reducible refine LeO.ite ?_ ?_)
   | (with_reducible refine LeO.bind ?_ (fun _ => ?_))
   | exact LeO.none _
   | refine LeO.ite ?_ ?_
   | refine LeO.bind ?_ (fun _ => ?_)
set_option maxHeartbeats 8000000 in
set_option maxRecDepth 100000 in
theorem spec_DigestOk.calls (k : Nat) (a0 : ByteArray) (r : Bool) (w : World) (h : spec_DigestOk.f k a0 = some r) :
  Calls Tryd.prog 34 #[.string a0] w fun e w' => e = .returned (.bool r) ∧ Drawn0 w w' := by
 unfold spec_DigestOk.f at h; have H := h; clear h; have HC2 := aM H; clear H; go_enter Tryd.func34, Tryd.ntmps34
 go_upto_region 1 with (fail)
 go_cut [11] (fun v11 wc => ∃ (kq : Nat) (x11_1 : Bool), v11 = .bool x11_1 ∧ Aside0 (spec_DigestOk.j0 kq a0 x11_1 = some r) ∧ Aside0 (kq ≤ k) ∧ Drawn0 w wc)
 case first =>
  have H := HC2.out; clear HC2; by_cases c3 : (a0.size : Int) = 71
  ·
   rw [if_pos c3] at H; have c3b0 : ((a0.size : Int) == 71) = true := beq_iff_eq.mpr c3; have c3b1 : ((a0.size : Int) != 71) = false := bne_eq_false_iff_eq.mpr c3; clear c3
   (first | rw [c3b0] | (simp only [i64_w, i32_w]; rw [c3b0]) | skip)
   by_cases c4 : 0 ≤ 7
   ·
    rw [if_pos c4] at H; have c4b0 := eq_true c4; have c4b1 := decide_eq_true c4; clear c4; by_cases c5 : 7 ≤ (a0.size : Int)
    ·
     rw [if_pos c5] at H; have c5b0 := eq_true c5; have c5b1 := decide_eq_true c5; clear c5; have H' := aM H; clear H; go_wp2
     go_meet
     case rel => exact ⟨_, (((a0.extract 0 7).toList != ([115, 104, 97, 50, 53, 54, 58] : List UInt8))), zq6, H', ⟨zq7⟩, zq20⟩
    exact zq128
   exact zq129
  rw [if_neg c3] at H; have c3b0 : ((a0.size : Int) == 71) = false := beq_eq_false_iff_ne.mpr c3; have c3b1 : ((a0.size : Int) != 71) = true := bne_iff_ne.mpr c3
  (first | rw [c3b0] | (simp only [i64_w, i32_w]; rw [c3b0]) | skip)
  have H' := aM H; clear H; go_wp2
  go_meet
  case rel => exact ⟨_, (true), zq6, H', ⟨zq7⟩, zq20⟩
 case rest =>
  clear HC2; (try clear p2); (try clear c3); (try clear c3b0); (try clear c3b1); (try clear c4); (try clear c4b0); (try clear c4b1); (try clear c5); (try clear c5b0); (try clear c5b1); obtain ⟨kq, x11_1, rfl, HA, HJ1, ⟨mc1, rfl⟩⟩ := hcut
  cases kq with
  | zero => exact absurd HA.out (by simp [spec_DigestOk.j0])
  | succ kj1 =>
   have H := HA.out; clear HA; simp only [spec_DigestOk.j0] at H; by_cases c6 : x11_1 = true
   ·
    subst c6; rw [if_pos rfl] at H; obtain rfl := Option.some.inj H; go_wp2; go_ret; exact ⟨zq6, zq20⟩
   replace c6 := Bool.eq_false_iff.mpr c6; subst c6; rw [if_neg (show ¬ (false = true) by decide)] at H; have H' := aM H; clear H; go_wp2
   go_loopg [3] kj1 (fun kq v3 w' => ∃ (x3_2 : Int), v3 = .int .i64 x3_2 ∧ Aside0 (spec_DigestOk.l0 kq a0 x3_2 = some r) ∧ Aside0 (kq ≤ kj1) ∧ Drawn0 w w')
   case atStart => exact ⟨(7), zq6, H', ⟨Nat.le_refl _⟩, zq20⟩
   case round =>
    clear H'; (try clear c1); (try clear p2); (try clear c3); (try clear c3b0); (try clear c3b1); (try clear c4); (try clear c4b0); (try clear c4b1); (try clear c5); (try clear c5b0); (try clear c5b1); (try clear c6); (try clear p2); obtain ⟨x3_2, rfl, HA, HK2, ⟨m2, rfl⟩⟩ := hrel
    cases gk with
    | zero => exact absurd HA.out (by simp [spec_DigestOk.l0])
    | succ k2 =>
     have H := HA.out; clear HA; simp only [spec_DigestOk.l0] at H; by_cases c7 : x3_2 < 71
     ·
      rw [if_pos c7] at H; have c7b0 := decide_eq_true c7; clear c7; by_cases c8 : 0 ≤ x3_2
      ·
       rw [if_pos c8] at H; have c8b0 := decide_eq_true c8; clear c8; by_cases c9 : x3_2 < (a0.size : Int)
       ·
        rw [if_pos c9] at H; have c9b0 := decide_eq_true c9; clear c9; replace H := Option.bind_eq_some_iff.mp H; obtain ⟨t132, A110, H⟩ := H; (try dsimp only at H); have A11 := aM A110; clear A110; by_cases c12 : t132 < 0
        ·
         rw [if_pos c12] at H; have c12b0 := decide_eq_true c12; clear c12; obtain rfl := Option.some.inj H; have p10 : 0 ≤ (x3_2 : Int) := of_decide_eq_true zq11; have q10 : x3_2 < (a0.size : Int) := of_decide_eq_true zq11; have hx10 := bt_at a0 x3_2; replace p10 := eq_true p10; replace q10 := eq_true q10
         go_wp2_with (first | ((with_reducible refine gC 54 rfl ?_); refine gL 19 Tryd.func54 #[.int .u8 (bt a0 x3_2)] ?_; (with_reducible refine (spec_l1Hexit.calls (bt a0 x3_2) t132 _ A11.out).mono ?_); rintro e w' ⟨rfl, ⟨nd, rfl⟩⟩; refine ⟨_, rfl, ?_⟩))
         go_ret; exact ⟨zq6, zq20⟩
        rw [if_neg c12] at H; have c12b0 := decide_eq_false c12; clear c12; have H' := aM H; clear H; have p10 : 0 ≤ (x3_2 : Int) := of_decide_eq_true zq11; have q10 : x3_2 < (a0.size : Int) := of_decide_eq_true zq11; have hx10 := bt_at a0 x3_2; replace p10 := eq_true p10; replace q10 := eq_true q10
        go_wp2_with (first | ((with_reducible refine gC 54 rfl ?_); refine gL 19 Tryd.func54 #[.int .u8 (bt a0 x3_2)] ?_; (with_reducible refine (spec_l1Hexit.calls (bt a0 x3_2) t132 _ A11.out).mono ?_); rintro e w' ⟨rfl, ⟨nd, rfl⟩⟩; refine ⟨_, rfl, ?_⟩))
        go_roundg k2
        case measure => have := HJ1.out; have := HK2.out; omega
        case rel => exact ⟨(wrap64 (x3_2 + 1)), zq6, H', ⟨zq78⟩, zq20⟩
       exact zq140
      exact zq125
     rw [if_neg c7] at H; have c7b0 := decide_eq_false c7; clear c7; obtain rfl := Option.some.inj H; go_wp2; go_ret; exact ⟨zq6, zq20⟩

/-! ### spec_l3Ref: function 29 -/
def spec_l3Ref.f (k : Nat) (a0_0 : ByteArray) (a0_1 : ByteArray) (a0_2 : ByteArray) : Option (Bool) := (spec_RepoOk.f k a0_0).bind fun t134 => (if t134 = true then (if a0_1.toList = ([] : List UInt8) then (if a0_2.toList = ([] : List UInt8) then (some true) else ((spec_DigestOk.f k a0_2).bind fun t135 => (some t135))) else ((spec_TagOk.f k a0_1).bind fun t136 => (if t136 = true then (if a0_2.toList = ([] : List UInt8) then (some true) else ((spec_DigestOk.f k a0_2).bind fun t137 => (some t137))) else (some false)))) else (some false))
theorem spec_l3Ref.mono : ∀ a0 a1 a2 k, LeO (spec_l3Ref.f k a0 a1 a2) (spec_l3Ref.f (k + 1) a0 a1 a2) := by
 intro a0 a1 a2 k; unfold spec_l3Ref.f
 repeat' first
   | (with_reducible apply spec_DigestOk.mono)
   | (with_reducible apply spec_RepoOk.mono)
   | (with_reducible apply spec_TagOk.mono)
   | (with_reducible exact LeO.refl _)
   | (with_reducible exact LeO.none _)
   | (with_reducible refine LeO.ite ?_ ?_)
   | (with_reducible refine LeO.bind ?_ (fun _ => ?_))
   | exact LeO.none _
   | refine LeO.ite ?_ ?_
   | refine LeO.bind ?_ (fun _ => ?_)
set_option maxHeartbeats 8000000 in
set_option maxRecDepth 100000 in
theorem spec_l3Ref.calls (k : Nat) (a0_0 : ByteArray) (a0_1 : ByteArray) (a0_2 : ByteArray) (r : Bool) (w : World) (h : spec_l3Ref.f k a0_0 a0_1 a0_2 = some r) :
  Calls Tryd.prog 29 #[.agg #[.string a0_0, .string a0_1, .string a0_2]] w fun e w' => e = .returned (.bool r) ∧ Below w.heap.size w w' := by
 have hu27 := Tryd.underlying27; have HB := aM (Below.refl w.heap.size w); unfold spec_l3Ref.f at h; have H := h; clear h; replace H := Option.bind_eq_some_iff.mp H; obtain ⟨t134, A20, H⟩ := H; (try dsimp only at H); have A2 := aM A20; clear A20; by_cases c3 : t134 = true
 ·
  subst c3; rw [if_pos rfl] at H; by_cases c4 : a0_1.toList = ([] : List UInt8)
  ·
   rw [if_pos c4] at H; have c4b0 : (a0_1.toList == ([] : List UInt8)) = true := beq_iff_eq.mpr c4; have c4b1 : (a0_1.toList != ([] : List UInt8)) = false := bne_eq_false_iff_eq.mpr c4; have c4b2 : a0_1.toList.isEmpty = true := by simpa using c4
   clear c4; by_cases c5 : a0_2.toList = ([] : List UInt8)
   ·
    rw [if_pos c5] at H; have c5b0 : (a0_2.toList == ([] : List UInt8)) = true := beq_iff_eq.mpr c5; have c5b1 : (a0_2.toList != ([] : List UInt8)) = false := bne_eq_false_iff_eq.mpr c5; have c5b2 : a0_2.toList.isEmpty = true := by simpa using c5
    clear c5; obtain rfl := Option.some.inj H; go_enter Tryd.func29, Tryd.ntmps29
    go_wp2_with (first | ((with_reducible refine gD 1 rfl ?_); refine bE 1 #[.string a0_0, .string a0_1, .string a0_2] 27 ?_; intro gb133 hg w6 hbox hb; have BK133 := aM hbox; have GW133 := aM (zq97 : w.heap.size ≤ gb133); have GE133 := GW133; replace HB := sB zq2 hb; clear hb hbox hg; obtain ⟨hcz7_0, hcz7_1, hcz7_2, hfz7_0, hfz7_1, hfz7_2⟩ := cells3_ (w := w6) BK133) | ((with_reducible refine gC 8 rfl ?_); refine gL 5 Tryd.func8 #[.string a0_0] ?_; (with_reducible refine (spec_RepoOk.calls k a0_0 true _ A2.out).mono ?_); rintro e w8 ⟨rfl, hb⟩; refine ⟨_, rfl, ?_⟩; replace BK133 := bG BK133 hb; replace HB := sB zq81 hb; clear hb; obtain ⟨hcz9_0, hcz9_1, hcz9_2, hfz9_0, hfz9_1, hfz9_2⟩ := cells3_ (w := w8) BK133))
    go_ret; exact ⟨zq19, zq81⟩
   rw [if_neg c5] at H; have c5b0 : (a0_2.toList == ([] : List UInt8)) = false := beq_eq_false_iff_ne.mpr c5; have c5b1 : (a0_2.toList != ([] : List UInt8)) = true := bne_iff_ne.mpr c5; have c5b2 : a0_2.toList.isEmpty = false := by simpa using c5
   replace H := Option.bind_eq_some_iff.mp H; obtain ⟨t135, A100, H⟩ := H; replace H : (some t135) = some r := H; have A10 := aM A100; clear A100; obtain rfl := Option.some.inj H; go_enter Tryd.func29, Tryd.ntmps29
   go_wp2_with (first | ((with_reducible refine gD 1 rfl ?_); refine bE 1 #[.string a0_0, .string a0_1, .string a0_2] 27 ?_; intro gb133 hg w11 hbox hb; have BK133 := aM hbox; have GW133 := aM (zq97 : w.heap.size ≤ gb133); have GE133 := GW133; replace HB := sB zq2 hb; clear hb hbox hg; obtain ⟨hcz12_0, hcz12_1, hcz12_2, hfz12_0, hfz12_1, hfz12_2⟩ := cells3_ (w := w11) BK133) | ((with_reducible refine gC 8 rfl ?_); refine gL 5 Tryd.func8 #[.string a0_0] ?_; (with_reducible refine (spec_RepoOk.calls k a0_0 true _ A2.out).mono ?_); rintro e w13 ⟨rfl, hb⟩; refine ⟨_, rfl, ?_⟩; replace BK133 := bG BK133 hb; replace HB := sB zq81 hb; clear hb; obtain ⟨hcz14_0, hcz14_1, hcz14_2, hfz14_0, hfz14_1, hfz14_2⟩ := cells3_ (w := w13) BK133) | (go_at_call 34; (with_reducible refine (spec_DigestOk.calls k a0_2 t135 _ A10.out).mono ?_); rintro e w' ⟨rfl, ⟨nd, rfl⟩⟩))
   go_ret; exact ⟨zq19, zq81⟩
  rw [if_neg c4] at H; have c4b0 : (a0_1.toList == ([] : List UInt8)) = false := beq_eq_false_iff_ne.mpr c4; have c4b1 : (a0_1.toList != ([] : List UInt8)) = true := bne_iff_ne.mpr c4; have c4b2 : a0_1.toList.isEmpty = false := by simpa using c4
  replace H := Option.bind_eq_some_iff.mp H; obtain ⟨t136, A150, H⟩ := H; (try dsimp only at H); have A15 := aM A150; clear A150; by_cases c16 : t136 = true
  ·
   subst c16; rw [if_pos rfl] at H; by_cases c17 : a0_2.toList = ([] : List UInt8)
   ·
    rw [if_pos c17] at H; have c17b0 : (a0_2.toList == ([] : List UInt8)) = true := beq_iff_eq.mpr c17; have c17b1 : (a0_2.toList != ([] : List UInt8)) = false := bne_eq_false_iff_eq.mpr c17; have c17b2 : a0_2.toList.isEmpty = true := by simpa using c17
    clear c17; obtain rfl := Option.some.inj H; go_enter Tryd.func29, Tryd.ntmps29
    go_wp2_with (first | ((with_reducible refine gD 1 rfl ?_); refine bE 1 #[.string a0_0, .string a0_1, .string a0_2] 27 ?_; intro gb133 hg w18 hbox hb; have BK133 := aM hbox; have GW133 := aM (zq97 : w.heap.size ≤ gb133); have GE133 := GW133; replace HB := sB zq2 hb; clear hb hbox hg; obtain ⟨hcz19_0, hcz19_1, hcz19_2, hfz19_0, hfz19_1, hfz19_2⟩ := cells3_ (w := w18) BK133) | ((with_reducible refine gC 8 rfl ?_); refine gL 5 Tryd.func8 #[.string a0_0] ?_; (with_reducible refine (spec_RepoOk.calls k a0_0 true _ A2.out).mono ?_); rintro e w20 ⟨rfl, hb⟩; refine ⟨_, rfl, ?_⟩; replace BK133 := bG BK133 hb; replace HB := sB zq81 hb; clear hb; obtain ⟨hcz21_0, hcz21_1, hcz21_2, hfz21_0, hfz21_1, hfz21_2⟩ := cells3_ (w := w20) BK133) | (go_at_call 33; (with_reducible refine (spec_TagOk.calls k a0_1 true _ A15.out).mono ?_); rintro e w' ⟨rfl, ⟨nd, rfl⟩⟩))
    go_ret; exact ⟨zq19, zq81⟩
   rw [if_neg c17] at H; have c17b0 : (a0_2.toList == ([] : List UInt8)) = false := beq_eq_false_iff_ne.mpr c17; have c17b1 : (a0_2.toList != ([] : List UInt8)) = true := bne_iff_ne.mpr c17; have c17b2 : a0_2.toList.isEmpty = false := by simpa using c17
   replace H := Option.bind_eq_some_iff.mp H; obtain ⟨t137, A220, H⟩ := H; replace H : (some t137) = some r := H; have A22 := aM A220; clear A220; obtain rfl := Option.some.inj H; go_enter Tryd.func29, Tryd.ntmps29
   go_wp2_with (first | ((with_reducible refine gD 1 rfl ?_); refine bE 1 #[.string a0_0, .string a0_1, .string a0_2] 27 ?_; intro gb133 hg w23 hbox hb; have BK133 := aM hbox; have GW133 := aM (zq97 : w.heap.size ≤ gb133); have GE133 := GW133; replace HB := sB zq2 hb; clear hb hbox hg; obtain ⟨hcz24_0, hcz24_1, hcz24_2, hfz24_0, hfz24_1, hfz24_2⟩ := cells3_ (w := w23) BK133) | ((with_reducible refine gC 8 rfl ?_); refine gL 5 Tryd.func8 #[.string a0_0] ?_; (with_reducible refine (spec_RepoOk.calls k a0_0 true _ A2.out).mono ?_); rintro e w25 ⟨rfl, hb⟩; refine ⟨_, rfl, ?_⟩; replace BK133 := bG BK133 hb; replace HB := sB zq81 hb; clear hb; obtain ⟨hcz26_0, hcz26_1, hcz26_2, hfz26_0, hfz26_1, hfz26_2⟩ := cells3_ (w := w25) BK133) | (go_at_call 33; (with_reducible refine (spec_TagOk.calls k a0_1 true _ A15.out).mono ?_); rintro e w' ⟨rfl, ⟨nd, rfl⟩⟩) | (go_at_call 34; (with_reducible refine (spec_DigestOk.calls k a0_2 t137 _ A22.out).mono ?_); rintro e w' ⟨rfl, ⟨nd, rfl⟩⟩))
   go_ret; exact ⟨zq19, zq81⟩
  replace c16 := Bool.eq_false_iff.mpr c16; subst c16; rw [if_neg (show ¬ (false = true) by decide)] at H; obtain rfl := Option.some.inj H; go_enter Tryd.func29, Tryd.ntmps29
  go_wp2_with (first | ((with_reducible refine gD 1 rfl ?_); refine bE 1 #[.string a0_0, .string a0_1, .string a0_2] 27 ?_; intro gb133 hg w27 hbox hb; have BK133 := aM hbox; have GW133 := aM (zq97 : w.heap.size ≤ gb133); have GE133 := GW133; replace HB := sB zq2 hb; clear hb hbox hg; obtain ⟨hcz28_0, hcz28_1, hcz28_2, hfz28_0, hfz28_1, hfz28_2⟩ := cells3_ (w := w27) BK133) | ((with_reducible refine gC 8 rfl ?_); refine gL 5 Tryd.func8 #[.string a0_0] ?_; (with_reducible refine (spec_RepoOk.calls k a0_0 true _ A2.out).mono ?_); rintro e w29 ⟨rfl, hb⟩; refine ⟨_, rfl, ?_⟩; replace BK133 := bG BK133 hb; replace HB := sB zq81 hb; clear hb; obtain ⟨hcz30_0, hcz30_1, hcz30_2, hfz30_0, hfz30_1, hfz30_2⟩ := cells3_ (w := w29) BK133) | (go_at_call 33; (with_reducible refine (spec_TagOk.calls k a0_1 false _ A15.out).mono ?_); rintro e w' ⟨rfl, ⟨nd, rfl⟩⟩))
  go_ret; exact ⟨zq19, zq81⟩
 replace c3 := Bool.eq_false_iff.mpr c3; subst c3; rw [if_neg (show ¬ (false = true) by decide)] at H; obtain rfl := Option.some.inj H; go_enter Tryd.func29, Tryd.ntmps29
 go_wp2_with (first | ((with_reducible refine gD 1 rfl ?_); refine bE 1 #[.string a0_0, .string a0_1, .string a0_2] 27 ?_; intro gb133 hg w31 hbox hb; have BK133 := aM hbox; have GW133 := aM (zq97 : w.heap.size ≤ gb133); have GE133 := GW133; replace HB := sB zq2 hb; clear hb hbox hg; obtain ⟨hcz32_0, hcz32_1, hcz32_2, hfz32_0, hfz32_1, hfz32_2⟩ := cells3_ (w := w31) BK133) | ((with_reducible refine gC 8 rfl ?_); refine gL 5 Tryd.func8 #[.string a0_0] ?_; (with_reducible refine (spec_RepoOk.calls k a0_0 false _ A2.out).mono ?_); rintro e w33 ⟨rfl, hb⟩; refine ⟨_, rfl, ?_⟩; replace BK133 := bG BK133 hb; replace HB := sB zq81 hb; clear hb))
 go_ret; exact ⟨zq19, zq81⟩

/-! ### spec_WriteRef: function 11 -/
def spec_WriteRef.f (k : Nat) (a0_0 : ByteArray) (a0_1 : ByteArray) (a0_2 : ByteArray) : Option (ByteArray) := (spec_l3Ref.f k a0_0 a0_1 a0_2).bind fun t139 => (if t139 = true then (if a0_1.toList = ([] : List UInt8) then (if a0_2.toList = ([] : List UInt8) then (some a0_0) else (if a0_0.size + 1 ≤ 9223372036854775807 then (if a0_0.size + 1 + a0_2.size ≤ 9223372036854775807 then (some ((a0_0 ++ (⟨#[64]⟩ : ByteArray)) ++ a0_2)) else (none)) else (none))) else (if a0_0.size + 1 ≤ 9223372036854775807 then (if a0_0.size + 1 + a0_1.size ≤ 9223372036854775807 then (if a0_2.toList = ([] : List UInt8) then (some ((a0_0 ++ (⟨#[58]⟩ : ByteArray)) ++ a0_1)) else (if a0_0.size + 1 + a0_1.size + 1 ≤ 9223372036854775807 then (if a0_0.size + 1 + a0_1.size + 1 + a0_2.size ≤ 9223372036854775807 then (some ((((a0_0 ++ (⟨#[58]⟩ : ByteArray)) ++ a0_1) ++ (⟨#[64]⟩ : ByteArray)) ++ a0_2)) else (none)) else (none))) else (none)) else (none))) else (some (⟨#[]⟩ : ByteArray)))
theorem spec_WriteRef.mono : ∀ a0 a1 a2 k, LeO (spec_WriteRef.f k a0 a1 a2) (spec_WriteRef.f (k + 1) a0 a1 a2) := by
 intro a0 a1 a2 k; unfold spec_WriteRef.f
 repeat' first
   | (with_reducible apply spec_l3Ref.mono)
   | (with_reducible exact LeO.refl _)
   | (with_reducible exact LeO.none _)
   | (with_reducible refine LeO.ite ?_ ?_)
   | (with_reducible refine LeO.bind ?_ (fun _ => ?_))
   | exact LeO.none _
   | refine LeO.ite ?_ ?_
   | refine LeO.bind ?_ (fun _ => ?_)
set_option maxHeartbeats 8000000 in
set_option maxRecDepth 100000 in
theorem spec_WriteRef.calls (k : Nat) (a0_0 : ByteArray) (a0_1 : ByteArray) (a0_2 : ByteArray) (r : ByteArray) (w : World) (h : spec_WriteRef.f k a0_0 a0_1 a0_2 = some r) :
  Calls Tryd.prog 11 #[.agg #[.string a0_0, .string a0_1, .string a0_2]] w fun e w' => e = .returned (.string r) ∧ Below w.heap.size w w' := by
 have hu27 := Tryd.underlying27; have HB := aM (Below.refl w.heap.size w); unfold spec_WriteRef.f at h; have H := h; clear h; replace H := Option.bind_eq_some_iff.mp H; obtain ⟨t139, A20, H⟩ := H; (try dsimp only at H); have A2 := aM A20; clear A20; by_cases c3 : t139 = true
 ·
  subst c3; rw [if_pos rfl] at H; by_cases c4 : a0_1.toList = ([] : List UInt8)
  ·
   rw [if_pos c4] at H; have c4b0 : (a0_1.toList == ([] : List UInt8)) = true := beq_iff_eq.mpr c4; have c4b1 : (a0_1.toList != ([] : List UInt8)) = false := bne_eq_false_iff_eq.mpr c4; have c4b2 : a0_1.toList.isEmpty = true := by simpa using c4
   clear c4; by_cases c5 : a0_2.toList = ([] : List UInt8)
   ·
    rw [if_pos c5] at H; have c5b0 : (a0_2.toList == ([] : List UInt8)) = true := beq_iff_eq.mpr c5; have c5b1 : (a0_2.toList != ([] : List UInt8)) = false := bne_eq_false_iff_eq.mpr c5; have c5b2 : a0_2.toList.isEmpty = true := by simpa using c5
    clear c5; obtain rfl := Option.some.inj H; go_enter Tryd.func11, Tryd.ntmps11
    go_wp2_with (first | ((with_reducible refine gD 1 rfl ?_); refine bE 1 #[.string a0_0, .string a0_1, .string a0_2] 27 ?_; intro gb138 hg w6 hbox hb; have BK138 := aM hbox; have GW138 := aM (zq97 : w.heap.size ≤ gb138); have GE138 := GW138; replace HB := sB zq2 hb; clear hb hbox hg; obtain ⟨hcz7_0, hcz7_1, hcz7_2, hfz7_0, hfz7_1, hfz7_2⟩ := cells3_ (w := w6) BK138) | ((with_reducible refine gC 29 rfl ?_); refine gL 5 Tryd.func29 #[.agg #[.string a0_0, .string a0_1, .string a0_2]] ?_; (with_reducible refine (spec_l3Ref.calls k a0_0 a0_1 a0_2 true _ A2.out).mono ?_); rintro e w8 ⟨rfl, hb⟩; refine ⟨_, rfl, ?_⟩; replace BK138 := bG BK138 hb; replace HB := sB zq83 hb; clear hb; obtain ⟨hcz9_0, hcz9_1, hcz9_2, hfz9_0, hfz9_1, hfz9_2⟩ := cells3_ (w := w8) BK138))
    go_ret; exact ⟨zq19, zq83⟩
   rw [if_neg c5] at H; have c5b0 : (a0_2.toList == ([] : List UInt8)) = false := beq_eq_false_iff_ne.mpr c5; have c5b1 : (a0_2.toList != ([] : List UInt8)) = true := bne_iff_ne.mpr c5; have c5b2 : a0_2.toList.isEmpty = false := by simpa using c5
   by_cases c10 : a0_0.size + 1 ≤ 9223372036854775807
   ·
    rw [if_pos c10] at H; have c10b0 := eq_true c10; have c10b1 := decide_eq_true c10
    try have c10b2 : (9223372036854775807 < a0_0.size + 1) = False := eq_false (Nat.not_lt.2 c10)
    by_cases c11 : a0_0.size + 1 + a0_2.size ≤ 9223372036854775807
    ·
     rw [if_pos c11] at H; have c11b0 := eq_true c11; have c11b1 := decide_eq_true c11
     try have c11b2 : (9223372036854775807 < a0_0.size + 1 + a0_2.size) = False := eq_false (Nat.not_lt.2 c11)
     obtain rfl := Option.some.inj H; go_enter Tryd.func11, Tryd.ntmps11
     go_wp2_with (first | ((with_reducible refine gD 1 rfl ?_); refine bE 1 #[.string a0_0, .string a0_1, .string a0_2] 27 ?_; intro gb138 hg w12 hbox hb; have BK138 := aM hbox; have GW138 := aM (zq97 : w.heap.size ≤ gb138); have GE138 := GW138; replace HB := sB zq2 hb; clear hb hbox hg; obtain ⟨hcz13_0, hcz13_1, hcz13_2, hfz13_0, hfz13_1, hfz13_2⟩ := cells3_ (w := w12) BK138) | ((with_reducible refine gC 29 rfl ?_); refine gL 5 Tryd.func29 #[.agg #[.string a0_0, .string a0_1, .string a0_2]] ?_; (with_reducible refine (spec_l3Ref.calls k a0_0 a0_1 a0_2 true _ A2.out).mono ?_); rintro e w14 ⟨rfl, hb⟩; refine ⟨_, rfl, ?_⟩; replace BK138 := bG BK138 hb; replace HB := sB zq83 hb; clear hb; obtain ⟨hcz15_0, hcz15_1, hcz15_2, hfz15_0, hfz15_1, hfz15_2⟩ := cells3_ (w := w14) BK138))
     go_ret; exact ⟨zq19, zq83⟩
    exact zq136
   exact zq137
  rw [if_neg c4] at H; have c4b0 : (a0_1.toList == ([] : List UInt8)) = false := beq_eq_false_iff_ne.mpr c4; have c4b1 : (a0_1.toList != ([] : List UInt8)) = true := bne_iff_ne.mpr c4; have c4b2 : a0_1.toList.isEmpty = false := by simpa using c4
  by_cases c16 : a0_0.size + 1 ≤ 9223372036854775807
  ·
   rw [if_pos c16] at H; have c16b0 := eq_true c16; have c16b1 := decide_eq_true c16
   try have c16b2 : (9223372036854775807 < a0_0.size + 1) = False := eq_false (Nat.not_lt.2 c16)
   by_cases c17 : a0_0.size + 1 + a0_1.size ≤ 9223372036854775807
   ·
    rw [if_pos c17] at H; have c17b0 := eq_true c17; have c17b1 := decide_eq_true c17
    try have c17b2 : (9223372036854775807 < a0_0.size + 1 + a0_1.size) = False := eq_false (Nat.not_lt.2 c17)
    by_cases c18 : a0_2.toList = ([] : List UInt8)
    ·
     rw [if_pos c18] at H; have c18b0 : (a0_2.toList == ([] : List UInt8)) = true := beq_iff_eq.mpr c18; have c18b1 : (a0_2.toList != ([] : List UInt8)) = false := bne_eq_false_iff_eq.mpr c18; have c18b2 : a0_2.toList.isEmpty = true := by simpa using c18
     clear c18; obtain rfl := Option.some.inj H; go_enter Tryd.func11, Tryd.ntmps11
     go_wp2_with (first | ((with_reducible refine gD 1 rfl ?_); refine bE 1 #[.string a0_0, .string a0_1, .string a0_2] 27 ?_; intro gb138 hg w19 hbox hb; have BK138 := aM hbox; have GW138 := aM (zq97 : w.heap.size ≤ gb138); have GE138 := GW138; replace HB := sB zq2 hb; clear hb hbox hg; obtain ⟨hcz20_0, hcz20_1, hcz20_2, hfz20_0, hfz20_1, hfz20_2⟩ := cells3_ (w := w19) BK138) | ((with_reducible refine gC 29 rfl ?_); refine gL 5 Tryd.func29 #[.agg #[.string a0_0, .string a0_1, .string a0_2]] ?_; (with_reducible refine (spec_l3Ref.calls k a0_0 a0_1 a0_2 true _ A2.out).mono ?_); rintro e w21 ⟨rfl, hb⟩; refine ⟨_, rfl, ?_⟩; replace BK138 := bG BK138 hb; replace HB := sB zq83 hb; clear hb; obtain ⟨hcz22_0, hcz22_1, hcz22_2, hfz22_0, hfz22_1, hfz22_2⟩ := cells3_ (w := w21) BK138))
     go_ret; exact ⟨zq19, zq83⟩
    rw [if_neg c18] at H; have c18b0 : (a0_2.toList == ([] : List UInt8)) = false := beq_eq_false_iff_ne.mpr c18; have c18b1 : (a0_2.toList != ([] : List UInt8)) = true := bne_iff_ne.mpr c18; have c18b2 : a0_2.toList.isEmpty = false := by simpa using c18
    by_cases c23 : a0_0.size + 1 + a0_1.size + 1 ≤ 9223372036854775807
    ·
     rw [if_pos c23] at H; have c23b0 := eq_true c23; have c23b1 := decide_eq_true c23
     try have c23b2 : (9223372036854775807 < a0_0.size + 1 + a0_1.size + 1) = False := eq_false (Nat.not_lt.2 c23)
     by_cases c24 : a0_0.size + 1 + a0_1.size + 1 + a0_2.size ≤ 9223372036854775807
     ·
      rw [if_pos c24] at H; have c24b0 := eq_true c24; have c24b1 := decide_eq_true c24
      try have c24b2 : (9223372036854775807 < a0_0.size + 1 + a0_1.size + 1 + a0_2.size) = False := eq_false (Nat.not_lt.2 c24)
      obtain rfl := Option.some.inj H; go_enter Tryd.func11, Tryd.ntmps11
      go_wp2_with (first | ((with_reducible refine gD 1 rfl ?_); refine bE 1 #[.string a0_0, .string a0_1, .string a0_2] 27 ?_; intro gb138 hg w25 hbox hb; have BK138 := aM hbox; have GW138 := aM (zq97 : w.heap.size ≤ gb138); have GE138 := GW138; replace HB := sB zq2 hb; clear hb hbox hg; obtain ⟨hcz26_0, hcz26_1, hcz26_2, hfz26_0, hfz26_1, hfz26_2⟩ := cells3_ (w := w25) BK138) | ((with_reducible refine gC 29 rfl ?_); refine gL 5 Tryd.func29 #[.agg #[.string a0_0, .string a0_1, .string a0_2]] ?_; (with_reducible refine (spec_l3Ref.calls k a0_0 a0_1 a0_2 true _ A2.out).mono ?_); rintro e w27 ⟨rfl, hb⟩; refine ⟨_, rfl, ?_⟩; replace BK138 := bG BK138 hb; replace HB := sB zq83 hb; clear hb; obtain ⟨hcz28_0, hcz28_1, hcz28_2, hfz28_0, hfz28_1, hfz28_2⟩ := cells3_ (w := w27) BK138))
      go_ret; exact ⟨zq19, zq83⟩
     rw [if_neg c24] at H; exact absurd H (by simp)
    rw [if_neg c23] at H; exact absurd H (by simp)
   rw [if_neg c17] at H; exact absurd H (by simp)
  exact zq134
 replace c3 := Bool.eq_false_iff.mpr c3; subst c3; rw [if_neg (show ¬ (false = true) by decide)] at H; obtain rfl := Option.some.inj H; go_enter Tryd.func11, Tryd.ntmps11
 go_wp2_with (first | ((with_reducible refine gD 1 rfl ?_); refine bE 1 #[.string a0_0, .string a0_1, .string a0_2] 27 ?_; intro gb138 hg w29 hbox hb; have BK138 := aM hbox; have GW138 := aM (zq97 : w.heap.size ≤ gb138); have GE138 := GW138; replace HB := sB zq2 hb; clear hb hbox hg; obtain ⟨hcz30_0, hcz30_1, hcz30_2, hfz30_0, hfz30_1, hfz30_2⟩ := cells3_ (w := w29) BK138) | ((with_reducible refine gC 29 rfl ?_); refine gL 5 Tryd.func29 #[.agg #[.string a0_0, .string a0_1, .string a0_2]] ?_; (with_reducible refine (spec_l3Ref.calls k a0_0 a0_1 a0_2 false _ A2.out).mono ?_); rintro e w31 ⟨rfl, hb⟩; refine ⟨_, rfl, ?_⟩; replace BK138 := bG BK138 hb; replace HB := sB zq83 hb; clear hb))
 go_ret; exact ⟨zq19, zq83⟩

end Go.Proofs.YtldpdaifajjaeaaDoor.QFnRefs
