/- Written by wip/myprint.py of this repo (the kit's print, with additions of this session). -/
import Derived.Test.YtkpbdfpmoeobnaaDoorQFnExactWriteManifestx0
import Derived.Test.YtkpbdfpmoeobnaaDoorQFnExactWriteManifestx1
import Derived.Test.YtkpbdfpmoeobnaaDoorQFnExactWriteManifestx2
set_option maxRecDepth 100000
namespace Go.Proofs.YtkpbdfpmoeobnaaDoor.QFnExactWriteManifest
open Go.RowKit Go.Proofs.YtkpbdfpmoeobnaaDoorW.PrintWords Go.Proofs.YtkpbdfpmoeobnaaDoorW.PrintLast Go.Proofs.YtkpbdfpmoeobnaaDoorW.PrintMore
attribute [local go_sem] max2_int min2_int max_two min_two max_three min_three max_four min_four   -- for this text's walks alone
set_option linter.unusedVariables false
set_option linter.unusedSimpArgs false

/-! ### impl_WriteManifest: function 8 -/
def impl_WriteManifest.l0 : Nat → ByteArray → List ByteArray → Int → Int → Option (ByteArray)
 | 0, _, _, _, _ => none
 | k + 1, x3, x14, x15, x16 => if x16 < x15 then (if 0 ≤ x16 then (if x16 < (x14.length : Int) then (if 6 + (rdOf ByteArray.empty x14 x16).size ≤ 9223372036854775807 then (if 6 + (rdOf ByteArray.empty x14 x16).size + 1 ≤ 9223372036854775807 then (if x3.size + 6 + (rdOf ByteArray.empty x14 x16).size + 1 ≤ 9223372036854775807 then (impl_WriteManifest.l0 k (x3 ++ (((⟨#[108, 97, 121, 101, 114, 32]⟩ : ByteArray) ++ (rdOf ByteArray.empty x14 x16)) ++ (⟨#[10]⟩ : ByteArray))) x14 x15 (wrap64 (x16 + 1))) else (none)) else (none)) else (none)) else (none)) else (none)) else (some x3)
def impl_WriteManifest.f (k : Nat) (a0_0 : ByteArray) (l0_1 : List ByteArray) : Option (ByteArray) := (impl_isManifest.f a0_0 l0_1).bind fun t131 => (if t131 = true then (if 7 + a0_0.size ≤ 9223372036854775807 then (if 7 + a0_0.size + 1 ≤ 9223372036854775807 then (impl_WriteManifest.l0 k (((⟨#[99, 111, 110, 102, 105, 103, 32]⟩ : ByteArray) ++ a0_0) ++ (⟨#[10]⟩ : ByteArray)) l0_1 (l0_1.length : Int) 0) else (none)) else (none)) else (some (⟨#[]⟩ : ByteArray)))
theorem impl_WriteManifest.mono_l : ∀ k, (∀ y0 y1 y2 y3, LeO (impl_WriteManifest.l0 k y0 y1 y2 y3) (impl_WriteManifest.l0 (k + 1) y0 y1 y2 y3))
 | 0 => fun _ _ _ _ r h => by simp [impl_WriteManifest.l0] at h
 | k + 1 => by
  have ih0 := impl_WriteManifest.mono_l k
  ·
   intro y0 y1 y2 y3; unfold impl_WriteManifest.l0
   repeat' first
   | (with_reducible apply ih0)
   | (with_reducible exact LeO.refl _)
   | (with_reducible exact LeO.none _)
   | (with_reducible refine LeO.ite ?_ ?_)
   | (with_reducible refine LeO.bind ?_ (fun _ => ?_))
   | exact LeO.none _
   | refine LeO.ite ?_ ?_
   | refine LeO.bind ?_ (fun _ => ?_)
theorem impl_WriteManifest.mono : ∀ a0 a1 k, LeO (impl_WriteManifest.f k a0 a1) (impl_WriteManifest.f (k + 1) a0 a1) := by
 intro a0 a1 k; have ih0 := impl_WriteManifest.mono_l k; unfold impl_WriteManifest.f
 repeat' first
   | (with_reducible apply ih0)
   | (with_reducible exact LeO.refl _)
   | (with_reducible exact LeO.none _)
   | (with_reducible refine LeO.ite ?_ ?_)
   | (with_reducible refine LeO.bind ?_ (fun _ => ?_))
   | exact LeO.none _
   | refine LeO.ite ?_ ?_
   | refine LeO.bind ?_ (fun _ => ?_)
set_option maxHeartbeats 8000000 in
set_option maxRecDepth 100000 in
theorem impl_WriteManifest.calls (k : Nat) (a0_0 : ByteArray) (A0_1 : Option Addr) (c0_1 : Nat) (l0_1 : List ByteArray) (r : ByteArray) (w : World) (hr0_1 : Kd.C Kd.string w A0_1 l0_1.length l0_1) (hc0_1 : l0_1.length ≤ c0_1) (h : impl_WriteManifest.f k a0_0 l0_1 = some r) :
  Calls Tryd.prog 8 #[.agg #[.string a0_0, .slice A0_1 l0_1.length c0_1]] w fun e w' => e = .returned (.string r) ∧ Below w.heap.size w w' := by
 have hu27 := Tryd.underlying27; have HR0_1 := aM hr0_1; have HC0_1 := aM hc0_1; clear hr0_1 hc0_1; have HB := aM (Below.refl w.heap.size w); unfold impl_WriteManifest.f at h; have H := h; clear h; replace H := Option.bind_eq_some_iff.mp H; obtain ⟨t131, A20, H⟩ := H; (try dsimp only at H); have A2 := aM A20; clear A20; by_cases c3 : t131 = true
 ·
  subst c3; rw [if_pos rfl] at H; by_cases c4 : 7 + a0_0.size ≤ 9223372036854775807
  ·
   rw [if_pos c4] at H; have c4b0 := eq_true c4; have c4b1 := decide_eq_true c4
   try have c4b2 : (9223372036854775807 < 7 + a0_0.size) = False := eq_false (Nat.not_lt.2 c4)
   by_cases c5 : 7 + a0_0.size + 1 ≤ 9223372036854775807
   ·
    rw [if_pos c5] at H; have c5b0 := eq_true c5; have c5b1 := decide_eq_true c5
    try have c5b2 : (9223372036854775807 < 7 + a0_0.size + 1) = False := eq_false (Nat.not_lt.2 c5)
    have H' := aM H; clear H; go_enter Tryd.func8, Tryd.ntmps8
    go_wp2_with (first | ((with_reducible refine gD 1 rfl ?_); refine bE 1 #[.string a0_0, .slice A0_1 l0_1.length c0_1] 27 ?_; intro gb130 hg w6 hbox hb; have BK130 := aM hbox; have GW130 := aM (zq47 : w.heap.size ≤ gb130); have GE130 := GW130; replace HB := sB zq6 hb; clear hb hbox hg; obtain ⟨hcz7_0, hcz7_1, hfz7_0, hfz7_1⟩ := cells2_ (w := w6) BK130) | ((with_reducible refine gC 19 rfl ?_); refine gL 7 Tryd.func19 #[.agg #[.string a0_0, .slice A0_1 l0_1.length c0_1]] ?_; (with_reducible refine (impl_isManifest.calls a0_0 _ _ l0_1 true _ ?_ ?_ A2.out).mono ?_); exact zq10; exact zq11; rintro e w8 ⟨rfl, hb⟩; refine ⟨_, rfl, ?_⟩; replace BK130 := bG BK130 hb; replace HB := sB zq25 hb; clear hb; obtain ⟨hcz9_0, hcz9_1, hfz9_0, hfz9_1⟩ := cells2_ (w := w8) BK130))
    go_loopg [3, 16] k (fun kq v3 v16 w' => ∃ (x3_1 : ByteArray) (x16_1 : Int), v3 = .string x3_1 ∧ v16 = .int .i64 x16_1 ∧ Aside0 (impl_WriteManifest.l0 kq x3_1 l0_1 (l0_1.length : Int) x16_1 = some r) ∧ Aside0 (kq ≤ k) ∧ Aside0 (w'.heap[gb130]? = some (.cells #[.string a0_0, (.slice A0_1 l0_1.length c0_1)] 27 (0, 0))) ∧ Aside0 (Below w.heap.size w w'))
    case atStart => exact ⟨(((⟨#[99, 111, 110, 102, 105, 103, 32]⟩ : ByteArray) ++ a0_0) ++ (⟨#[10]⟩ : ByteArray)), (0), zq1, zq1, H', ⟨Nat.le_refl _⟩, ⟨zq24⟩, ⟨zq25⟩⟩
    case round =>
     clear H'; (try clear c1); (try clear p2); (try clear c3); (try clear c4); (try clear c4b0); (try clear c4b1); (try clear c4b2); (try clear c5); (try clear c5b0); (try clear c5b1); (try clear c5b2); (try clear c8); (try clear hcz7_0); (try clear hcz7_1); (try clear hcz9_0); (try clear hcz9_1); (try clear hfz7_0); (try clear hfz7_1); (try clear hfz9_0); (try clear hfz9_1); obtain ⟨x3_1, x16_1, rfl, rfl, HA, HK1, BK130, HB⟩ := hrel
     cases gk with
     | zero => exact absurd HA.out (by simp [impl_WriteManifest.l0])
     | succ k1 =>
      have H := HA.out; clear HA; simp only [impl_WriteManifest.l0] at H; by_cases c10 : x16_1 < (l0_1.length : Int)
      ·
       rw [if_pos c10] at H; have c10b0 := decide_eq_true c10; clear c10; by_cases c11 : 0 ≤ x16_1
       ·
        rw [if_pos c11] at H; have c11b0 := decide_eq_true c11; clear c11; by_cases c12 : x16_1 < (l0_1.length : Int)
        ·
         rw [if_pos c12] at H; have c12b0 := decide_eq_true c12; clear c12; by_cases c13 : 6 + (rdOf ByteArray.empty l0_1 x16_1).size ≤ 9223372036854775807
         ·
          rw [if_pos c13] at H; have c13b0 := eq_true c13; have c13b1 := decide_eq_true c13
          try have c13b2 : (9223372036854775807 < 6 + (rdOf ByteArray.empty l0_1 x16_1).size) = False := eq_false (Nat.not_lt.2 c13)
          by_cases c14 : 6 + (rdOf ByteArray.empty l0_1 x16_1).size + 1 ≤ 9223372036854775807
          ·
           rw [if_pos c14] at H; have c14b0 := eq_true c14; have c14b1 := decide_eq_true c14
           try have c14b2 : (9223372036854775807 < 6 + (rdOf ByteArray.empty l0_1 x16_1).size + 1) = False := eq_false (Nat.not_lt.2 c14)
           by_cases c15 : x3_1.size + 6 + (rdOf ByteArray.empty l0_1 x16_1).size + 1 ≤ 9223372036854775807
           ·
            rw [if_pos c15] at H; have c15b0 := eq_true c15; have c15b1 := decide_eq_true c15
            try have c15b2 : (9223372036854775807 < x3_1.size + 6 + (rdOf ByteArray.empty l0_1 x16_1).size + 1) = False := eq_false (Nat.not_lt.2 c15)
            have H' := aM H; clear H; have p132 : 0 ≤ (x16_1 : Int) := of_decide_eq_true zq3; have q132 : x16_1 < (l0_1.length : Int) := of_decide_eq_true zq3; obtain ⟨ad132, e132, hx132_0⟩ := Kd.at_string HR0_1.out x16_1 p132 q132; cases e132; replace hx132_0 := hxB HB hx132_0; replace p132 := eq_true p132; replace q132 := eq_true q132; go_wp2
            go_roundg k1
            case measure => have := HK1.out; omega
            case rel => exact ⟨(x3_1 ++ (((⟨#[108, 97, 121, 101, 114, 32]⟩ : ByteArray) ++ (rdOf ByteArray.empty l0_1 x16_1)) ++ (⟨#[10]⟩ : ByteArray))), (wrap64 (x16_1 + 1)), zq1, zq1, H', ⟨zq4⟩, ⟨zq24⟩, ⟨zq25⟩⟩
           rw [if_neg c15] at H; exact absurd H (by simp)
          rw [if_neg c14] at H; exact absurd H (by simp)
         rw [if_neg c13] at H; exact absurd H (by simp)
        rw [if_neg c12] at H; exact absurd H (by simp)
       rw [if_neg c11] at H; exact absurd H (by simp)
      rw [if_neg c10] at H; have c10b0 := decide_eq_false c10; clear c10; obtain rfl := Option.some.inj H; go_wp2; go_ret; exact ⟨zq7, zq25⟩
   exact zq56
  exact zq57
 replace c3 := Bool.eq_false_iff.mpr c3; subst c3; rw [if_neg (show ¬ (false = true) by decide)] at H; obtain rfl := Option.some.inj H; go_enter Tryd.func8, Tryd.ntmps8
 go_wp2_with (first | ((with_reducible refine gD 1 rfl ?_); refine bE 1 #[.string a0_0, .slice A0_1 l0_1.length c0_1] 27 ?_; intro gb130 hg w16 hbox hb; have BK130 := aM hbox; have GW130 := aM (zq47 : w.heap.size ≤ gb130); have GE130 := GW130; replace HB := sB zq6 hb; clear hb hbox hg; obtain ⟨hcz17_0, hcz17_1, hfz17_0, hfz17_1⟩ := cells2_ (w := w16) BK130) | ((with_reducible refine gC 19 rfl ?_); refine gL 7 Tryd.func19 #[.agg #[.string a0_0, .slice A0_1 l0_1.length c0_1]] ?_; (with_reducible refine (impl_isManifest.calls a0_0 _ _ l0_1 false _ ?_ ?_ A2.out).mono ?_); exact zq10; exact zq11; rintro e w18 ⟨rfl, hb⟩; refine ⟨_, rfl, ?_⟩; replace BK130 := bG BK130 hb; replace HB := sB zq25 hb; clear hb))
 go_ret; exact ⟨zq7, zq25⟩

/-! ### laws_eqStringS: function 12 -/
def laws_eqStringS.l0 : Nat → List ByteArray → List ByteArray → Int → Option (Bool)
 | 0, _, _, _ => none
 | k + 1, x0, x1, x5 => if x5 < (x0.length : Int) then (if 0 ≤ x5 then (if x5 < (x1.length : Int) then (if (rdOf ByteArray.empty x0 x5).toList = (rdOf ByteArray.empty x1 x5).toList then (laws_eqStringS.l0 k x0 x1 (wrap64 (x5 + 1))) else (some false)) else (none)) else (none)) else (some true)
def laws_eqStringS.f (k : Nat) (l0 : List ByteArray) (l1 : List ByteArray) : Option (Bool) := if (l0.length : Int) = (l1.length : Int) then (laws_eqStringS.l0 k l0 l1 0) else (some false)
theorem laws_eqStringS.mono_l : ∀ k, (∀ y0 y1 y2, LeO (laws_eqStringS.l0 k y0 y1 y2) (laws_eqStringS.l0 (k + 1) y0 y1 y2))
 | 0 => fun _ _ _ r h => by simp [laws_eqStringS.l0] at h
 | k + 1 => by
  have ih0 := laws_eqStringS.mono_l k
  ·
   intro y0 y1 y2; unfold laws_eqStringS.l0
   repeat' first
   | (with_reducible apply ih0)
   | (with_reducible exact LeO.refl _)
   | (with_reducible exact LeO.none _)
   | (with_reducible refine LeO.ite ?_ ?_)
   | (with_reducible refine LeO.bind ?_ (fun _ => ?_))
   | exact LeO.none _
   | refine LeO.ite ?_ ?_
   | refine LeO.bind ?_ (fun _ => ?_)
theorem laws_eqStringS.mono : ∀ a0 a1 k, LeO (laws_eqStringS.f k a0 a1) (laws_eqStringS.f (k + 1) a0 a1) := by
 intro a0 a1 k; have ih0 := laws_eqStringS.mono_l k; unfold laws_eqStringS.f
 repeat' first
   | (with_reducible apply ih0)
   | (with_reducible exact LeO.refl _)
   | (with_reducible exact LeO.none _)
   | (with_reducible refine LeO.ite ?_ ?_)
   | (with_reducible refine LeO.bind ?_ (fun _ => ?_))
   | exact LeO.none _
   | refine LeO.ite ?_ ?_
   | refine LeO.bind ?_ (fun _ => ?_)
set_option maxHeartbeats 8000000 in
set_option maxRecDepth 100000 in
theorem laws_eqStringS.calls (k : Nat) (A0 : Option Addr) (c0 : Nat) (l0 : List ByteArray) (A1 : Option Addr) (c1 : Nat) (l1 : List ByteArray) (r : Bool) (w : World) (hr0 : Kd.C Kd.string w A0 l0.length l0) (hc0 : l0.length ≤ c0) (hr1 : Kd.C Kd.string w A1 l1.length l1) (hc1 : l1.length ≤ c1) (h : laws_eqStringS.f k l0 l1 = some r) :
  Calls Tryd.prog 12 #[.slice A0 l0.length c0, .slice A1 l1.length c1] w fun e w' => e = .returned (.bool r) ∧ Drawn0 w w' := by
 have HR0 := aM hr0; have HC0 := aM hc0; clear hr0 hc0; have HR1 := aM hr1; have HC1 := aM hc1; clear hr1 hc1; unfold laws_eqStringS.f at h; have H := h; clear h; by_cases c3 : (l0.length : Int) = (l1.length : Int)
 ·
  rw [if_pos c3] at H; have c3b0 : ((l0.length : Int) == (l1.length : Int)) = true := beq_iff_eq.mpr c3; have c3b1 : ((l0.length : Int) != (l1.length : Int)) = false := bne_eq_false_iff_eq.mpr c3; have c3b2 : (l0.length == l1.length) = true := by first | simpa using c3 | (simp at c3 ⊢; omega)
  clear c3; have H' := aM H; clear H; go_enter Tryd.func12, Tryd.ntmps12; go_wp2
  repeat (go_quiet (fail); try go_wp2)
  go_loopg [5] k (fun kq v5 w' => ∃ (x5_1 : Int), v5 = .int .i64 x5_1 ∧ Aside0 (laws_eqStringS.l0 kq l0 l1 x5_1 = some r) ∧ Aside0 (kq ≤ k) ∧ Drawn0 w w')
  case atStart => exact ⟨(0), zq1, H', ⟨Nat.le_refl _⟩, zq2⟩
  case round =>
   clear H'; (try clear c1); (try clear p2); (try clear c3); (try clear c3b0); (try clear c3b1); (try clear c3b2); obtain ⟨x5_1, rfl, HA, HK1, ⟨m1, rfl⟩⟩ := hrel
   cases gk with
   | zero => exact absurd HA.out (by simp [laws_eqStringS.l0])
   | succ k1 =>
    have H := HA.out; clear HA; simp only [laws_eqStringS.l0] at H; by_cases c4 : x5_1 < (l0.length : Int)
    ·
     rw [if_pos c4] at H; have c4b0 := decide_eq_true c4; clear c4; by_cases c5 : 0 ≤ x5_1
     ·
      rw [if_pos c5] at H; have c5b0 := decide_eq_true c5; clear c5; by_cases c6 : x5_1 < (l1.length : Int)
      ·
       rw [if_pos c6] at H; have c6b0 := decide_eq_true c6; clear c6; by_cases c7 : (rdOf ByteArray.empty l0 x5_1).toList = (rdOf ByteArray.empty l1 x5_1).toList
       ·
        rw [if_pos c7] at H; have c7b0 : ((rdOf ByteArray.empty l0 x5_1).toList == (rdOf ByteArray.empty l1 x5_1).toList) = true := beq_iff_eq.mpr c7; have c7b1 : ((rdOf ByteArray.empty l0 x5_1).toList != (rdOf ByteArray.empty l1 x5_1).toList) = false := bne_eq_false_iff_eq.mpr c7; clear c7; have H' := aM H; clear H; have p133 : 0 ≤ (x5_1 : Int) := of_decide_eq_true zq3; have q133 : x5_1 < (l0.length : Int) := of_decide_eq_true zq3; obtain ⟨ad133, e133, hx133_0⟩ := Kd.at_string HR0.out x5_1 p133 q133; cases e133; replace p133 := eq_true p133; replace q133 := eq_true q133; have p134 : 0 ≤ (x5_1 : Int) := of_decide_eq_true zq3; have q134 : x5_1 < (l1.length : Int) := of_decide_eq_true zq3; obtain ⟨ad134, e134, hx134_0⟩ := Kd.at_string HR1.out x5_1 p134 q134; cases e134; replace p134 := eq_true p134; replace q134 := eq_true q134; go_wp2
        repeat (go_quiet (fail); try go_wp2)
        go_roundg k1
        case measure => have := HK1.out; omega
        case rel => exact ⟨(wrap64 (x5_1 + 1)), zq1, H', ⟨zq4⟩, zq2⟩
       rw [if_neg c7] at H; have c7b0 : ((rdOf ByteArray.empty l0 x5_1).toList == (rdOf ByteArray.empty l1 x5_1).toList) = false := beq_eq_false_iff_ne.mpr c7; have c7b1 : ((rdOf ByteArray.empty l0 x5_1).toList != (rdOf ByteArray.empty l1 x5_1).toList) = true := bne_iff_ne.mpr c7; obtain rfl := Option.some.inj H; have p133 : 0 ≤ (x5_1 : Int) := of_decide_eq_true zq3; have q133 : x5_1 < (l0.length : Int) := of_decide_eq_true zq3; obtain ⟨ad133, e133, hx133_0⟩ := Kd.at_string HR0.out x5_1 p133 q133; cases e133; replace p133 := eq_true p133; replace q133 := eq_true q133; have p134 : 0 ≤ (x5_1 : Int) := of_decide_eq_true zq3; have q134 : x5_1 < (l1.length : Int) := of_decide_eq_true zq3; obtain ⟨ad134, e134, hx134_0⟩ := Kd.at_string HR1.out x5_1 p134 q134; cases e134; replace p134 := eq_true p134; replace q134 := eq_true q134; go_wp2
       repeat (go_quiet (fail); try go_wp2)
       go_ret; exact ⟨zq1, zq2⟩
      rw [if_neg c6] at H; exact absurd H (by simp)
     exact zq56
    rw [if_neg c4] at H; have c4b0 := decide_eq_false c4; clear c4; obtain rfl := Option.some.inj H; go_wp2
    repeat (go_quiet (fail); try go_wp2)
    go_ret; exact ⟨zq1, zq2⟩
 rw [if_neg c3] at H; have c3b0 : ((l0.length : Int) == (l1.length : Int)) = false := beq_eq_false_iff_ne.mpr c3; have c3b1 : ((l0.length : Int) != (l1.length : Int)) = true := bne_iff_ne.mpr c3; have c3b2 : (l0.length == l1.length) = false := by first | simpa using c3 | (simp at c3 ⊢; omega)
 obtain rfl := Option.some.inj H; go_enter Tryd.func12, Tryd.ntmps12; go_wp2
 repeat (go_quiet (fail); try go_wp2)
 go_ret; exact ⟨zq1, zq2⟩

/-! ### laws_eqManifest: function 9 -/
def laws_eqManifest.f (k : Nat) (a0_0 : ByteArray) (l0_1 : List ByteArray) (a1_0 : ByteArray) (l1_1 : List ByteArray) : Option (Bool) := if a0_0.toList = a1_0.toList then ((laws_eqStringS.f k l0_1 l1_1).bind fun t137 => (if t137 = true then (some true) else (some false))) else (some false)
theorem laws_eqManifest.mono : ∀ a0 a1 a2 a3 k, LeO (laws_eqManifest.f k a0 a1 a2 a3) (laws_eqManifest.f (k + 1) a0 a1 a2 a3) := by
 intro a0 a1 a2 a3 k; unfold laws_eqManifest.f
 repeat' first
   | (with_reducible apply laws_eqStringS.mono)
   | (with_reducible exact LeO.refl _)
   | (with_reducible exact LeO.none _)
   | (with_reducible refine LeO.ite ?_ ?_)
   | (with_reducible refine LeO.bind ?_ (fun _ => ?_))
   | exact LeO.none _
   | refine LeO.ite ?_ ?_
   | refine LeO.bind ?_ (fun _ => ?_)
set_option maxHeartbeats 8000000 in
set_option maxRecDepth 100000 in
theorem laws_eqManifest.calls (k : Nat) (a0_0 : ByteArray) (A0_1 : Option Addr) (c0_1 : Nat) (l0_1 : List ByteArray) (a1_0 : ByteArray) (A1_1 : Option Addr) (c1_1 : Nat) (l1_1 : List ByteArray) (r : Bool) (w : World) (hr0_1 : Kd.C Kd.string w A0_1 l0_1.length l0_1) (hc0_1 : l0_1.length ≤ c0_1) (hr1_1 : Kd.C Kd.string w A1_1 l1_1.length l1_1) (hc1_1 : l1_1.length ≤ c1_1) (h : laws_eqManifest.f k a0_0 l0_1 a1_0 l1_1 = some r) :
  Calls Tryd.prog 9 #[.agg #[.string a0_0, .slice A0_1 l0_1.length c0_1], .agg #[.string a1_0, .slice A1_1 l1_1.length c1_1]] w fun e w' => e = .returned (.bool r) ∧ Below w.heap.size w w' := by
 have hu27 := Tryd.underlying27; have HR0_1 := aM hr0_1; have HC0_1 := aM hc0_1; clear hr0_1 hc0_1; have HR1_1 := aM hr1_1; have HC1_1 := aM hc1_1; clear hr1_1 hc1_1; have HB := aM (Below.refl w.heap.size w); unfold laws_eqManifest.f at h; have H := h; clear h; by_cases c3 : a0_0.toList = a1_0.toList
 ·
  rw [if_pos c3] at H; have c3b0 : (a0_0.toList == a1_0.toList) = true := beq_iff_eq.mpr c3; have c3b1 : (a0_0.toList != a1_0.toList) = false := bne_eq_false_iff_eq.mpr c3; clear c3; replace H := Option.bind_eq_some_iff.mp H; obtain ⟨t137, A40, H⟩ := H; (try dsimp only at H); have A4 := aM A40; clear A40; by_cases c5 : t137 = true
  ·
   subst c5; rw [if_pos rfl] at H; obtain rfl := Option.some.inj H; go_enter Tryd.func9, Tryd.ntmps9
   go_wp2_with (first | ((with_reducible refine gD 2 rfl ?_); refine bE 2 #[.string a0_0, .slice A0_1 l0_1.length c0_1] 27 ?_; intro gb135 hg w6 hbox hb; have BK135 := aM hbox; have GW135 := aM (zq47 : w.heap.size ≤ gb135); have GE135 := GW135; replace HB := sB zq6 hb; clear hb hbox hg) | ((with_reducible refine gD 3 rfl ?_); refine bE 3 #[.string a1_0, .slice A1_1 l1_1.length c1_1] 27 ?_; intro gb136 hg w7 hbox hb; have BK136 := aM hbox; have GW136 := aM (zq50 : w.heap.size ≤ gb136); have GE136 := GW136; replace HB := sB zq27 hb; have NB135_136 := aM (zq51 : gb135 ≠ gb136); have NB136_135 := aM (zq52 : gb136 ≠ gb135); replace BK135 := bG BK135 hb; clear hb hbox hg; have hnb8 := NB135_136.out; have hnc8 := NB136_135.out; obtain ⟨hcz9_0, hcz9_1, hfz9_0, hfz9_1⟩ := cells2_ (w := w7) BK135; obtain ⟨hcz10_0, hcz10_1, hfz10_0, hfz10_1⟩ := cells2_ (w := w7) BK136) | ((with_reducible refine gC 12 rfl ?_); refine gL 14 Tryd.func12 #[.slice A0_1 l0_1.length c0_1, .slice A1_1 l1_1.length c1_1] ?_; (with_reducible refine (laws_eqStringS.calls k _ _ l0_1 _ _ l1_1 true _ ?_ ?_ ?_ ?_ A4.out).mono ?_); exact zq10; exact zq11; exact zq28; exact HC1_1.out; rintro e w' ⟨rfl, ⟨nd, rfl⟩⟩; refine ⟨_, rfl, ?_⟩))
   go_ret; exact ⟨zq7, zq29⟩
  replace c5 := Bool.eq_false_iff.mpr c5; subst c5; rw [if_neg (show ¬ (false = true) by decide)] at H; obtain rfl := Option.some.inj H; go_enter Tryd.func9, Tryd.ntmps9
  go_wp2_with (first | ((with_reducible refine gD 2 rfl ?_); refine bE 2 #[.string a0_0, .slice A0_1 l0_1.length c0_1] 27 ?_; intro gb135 hg w11 hbox hb; have BK135 := aM hbox; have GW135 := aM (zq47 : w.heap.size ≤ gb135); have GE135 := GW135; replace HB := sB zq6 hb; clear hb hbox hg) | ((with_reducible refine gD 3 rfl ?_); refine bE 3 #[.string a1_0, .slice A1_1 l1_1.length c1_1] 27 ?_; intro gb136 hg w12 hbox hb; have BK136 := aM hbox; have GW136 := aM (zq50 : w.heap.size ≤ gb136); have GE136 := GW136; replace HB := sB zq27 hb; have NB135_136 := aM (zq51 : gb135 ≠ gb136); have NB136_135 := aM (zq52 : gb136 ≠ gb135); replace BK135 := bG BK135 hb; clear hb hbox hg; have hnb13 := NB135_136.out; have hnc13 := NB136_135.out; obtain ⟨hcz14_0, hcz14_1, hfz14_0, hfz14_1⟩ := cells2_ (w := w12) BK135; obtain ⟨hcz15_0, hcz15_1, hfz15_0, hfz15_1⟩ := cells2_ (w := w12) BK136) | ((with_reducible refine gC 12 rfl ?_); refine gL 14 Tryd.func12 #[.slice A0_1 l0_1.length c0_1, .slice A1_1 l1_1.length c1_1] ?_; (with_reducible refine (laws_eqStringS.calls k _ _ l0_1 _ _ l1_1 false _ ?_ ?_ ?_ ?_ A4.out).mono ?_); exact zq10; exact zq11; exact zq28; exact HC1_1.out; rintro e w' ⟨rfl, ⟨nd, rfl⟩⟩; refine ⟨_, rfl, ?_⟩))
  go_ret; exact ⟨zq7, zq29⟩
 rw [if_neg c3] at H; have c3b0 : (a0_0.toList == a1_0.toList) = false := beq_eq_false_iff_ne.mpr c3; have c3b1 : (a0_0.toList != a1_0.toList) = true := bne_iff_ne.mpr c3; obtain rfl := Option.some.inj H; go_enter Tryd.func9, Tryd.ntmps9
 go_wp2_with (first | ((with_reducible refine gD 2 rfl ?_); refine bE 2 #[.string a0_0, .slice A0_1 l0_1.length c0_1] 27 ?_; intro gb135 hg w16 hbox hb; have BK135 := aM hbox; have GW135 := aM (zq47 : w.heap.size ≤ gb135); have GE135 := GW135; replace HB := sB zq6 hb; clear hb hbox hg) | ((with_reducible refine gD 3 rfl ?_); refine bE 3 #[.string a1_0, .slice A1_1 l1_1.length c1_1] 27 ?_; intro gb136 hg w17 hbox hb; have BK136 := aM hbox; have GW136 := aM (zq50 : w.heap.size ≤ gb136); have GE136 := GW136; replace HB := sB zq27 hb; have NB135_136 := aM (zq51 : gb135 ≠ gb136); have NB136_135 := aM (zq52 : gb136 ≠ gb135); replace BK135 := bG BK135 hb; clear hb hbox hg; have hnb18 := NB135_136.out; have hnc18 := NB136_135.out; obtain ⟨hcz19_0, hcz19_1, hfz19_0, hfz19_1⟩ := cells2_ (w := w17) BK135; obtain ⟨hcz20_0, hcz20_1, hfz20_0, hfz20_1⟩ := cells2_ (w := w17) BK136))
 go_ret; exact ⟨zq7, zq29⟩

/-! ### laws_FnExactWriteManifest: function 3 -/
def laws_FnExactWriteManifest.f (k : Nat) (a0_0 : ByteArray) (l0_1 : List ByteArray) : Option (Bool) := (laws_szManifest.f k a0_0 l0_1 1048576).bind fun t139 => (if t139 < 0 then (some true) else ((laws_toManifest.f k a0_0 l0_1).bind fun bt140 => ((spec_WriteManifest.f k bt140.1 bt140.2).bind fun t144 => ((laws_toManifest.f k a0_0 l0_1).bind fun bt145 => ((impl_WriteManifest.f k bt145.1 bt145.2).bind fun t150 => (if t150.toList = t144.toList then ((laws_toManifest.f k a0_0 l0_1).bind fun bt151 => ((laws_eqManifest.f k bt145.1 bt145.2 bt151.1 bt151.2).bind fun t155 => (if t155 = true then (some true) else (some false)))) else (some false)))))))
theorem laws_FnExactWriteManifest.mono : ∀ a0 a1 k, LeO (laws_FnExactWriteManifest.f k a0 a1) (laws_FnExactWriteManifest.f (k + 1) a0 a1) := by
 intro a0 a1 k; unfold laws_FnExactWriteManifest.f
 repeat' first
   | (with_reducible apply impl_WriteManifest.mono)
   | (with_reducible apply laws_eqManifest.mono)
   | (with_reducible apply laws_szManifest.mono)
   | (with_reducible apply laws_toManifest.mono)
   | (with_reducible apply spec_WriteManifest.mono)
   | (with_reducible exact LeO.refl _)
   | (with_reducible exact LeO.none _)
   | (with_reducible refine LeO.ite ?_ ?_)
   | (with_reducible refine LeO.bind ?_ (fun _ => ?_))
   | exact LeO.none _
   | refine LeO.ite ?_ ?_
   | refine LeO.bind ?_ (fun _ => ?_)
set_option maxHeartbeats 8000000 in
set_option maxRecDepth 100000 in
theorem laws_FnExactWriteManifest.calls (k : Nat) (a0_0 : ByteArray) (A0_1 : Option Addr) (c0_1 : Nat) (l0_1 : List ByteArray) (r : Bool) (w : World) (hr0_1 : Kd.C Kd.string w A0_1 l0_1.length l0_1) (hc0_1 : l0_1.length ≤ c0_1) (h : laws_FnExactWriteManifest.f k a0_0 l0_1 = some r) :
  Calls Tryd.prog 3 #[.agg #[.string a0_0, .slice A0_1 l0_1.length c0_1]] w fun e w' => e = .returned (.bool r) ∧ Below w.heap.size w w' := by
 have hu24 := Tryd.underlying24; have hu27 := Tryd.underlying27; have HR0_1 := aM hr0_1; have HC0_1 := aM hc0_1; clear hr0_1 hc0_1; have HB := aM (Below.refl w.heap.size w); unfold laws_FnExactWriteManifest.f at h; have H := h; clear h; replace H := Option.bind_eq_some_iff.mp H; obtain ⟨t139, A20, H⟩ := H; (try dsimp only at H); have A2 := aM A20; clear A20; by_cases c3 : t139 < 0
 ·
  rw [if_pos c3] at H; have c3b0 := decide_eq_true c3; clear c3; obtain rfl := Option.some.inj H; go_enter Tryd.func3, Tryd.ntmps3
  go_wp2_with (first | ((with_reducible refine gD 1 rfl ?_); refine bE 1 #[.string a0_0, .slice A0_1 l0_1.length c0_1] 24 ?_; intro gb138 hg w4 hbox hb; have BK138 := aM hbox; have GW138 := aM (zq47 : w.heap.size ≤ gb138); have GE138 := GW138; replace HB := sB zq6 hb; clear hb hbox hg; obtain ⟨hcz5_0, hcz5_1, hfz5_0, hfz5_1⟩ := cells2_ (w := w4) BK138) | ((with_reducible refine gC 5 rfl ?_); refine gL 9 Tryd.func5 #[.agg #[.string a0_0, .slice A0_1 l0_1.length c0_1], .int .i64 1048576] ?_; (with_reducible refine (laws_szManifest.calls k a0_0 _ _ l0_1 1048576 t139 _ ?_ ?_ A2.out).mono ?_); exact zq10; exact zq11; rintro e w6 ⟨rfl, hb⟩; refine ⟨_, rfl, ?_⟩; replace BK138 := bG BK138 hb; replace HB := sB zq31 hb; clear hb))
  go_ret; exact ⟨zq7, zq31⟩
 rw [if_neg c3] at H; have c3b0 := decide_eq_false c3; clear c3; replace H := Option.bind_eq_some_iff.mp H; obtain ⟨⟨t140, t141⟩, A70, H⟩ := H; (try dsimp only at H); have A7 := aM A70; clear A70; replace H := Option.bind_eq_some_iff.mp H; obtain ⟨t144, A80, H⟩ := H; (try dsimp only at H); have A8 := aM A80; clear A80; replace H := Option.bind_eq_some_iff.mp H; obtain ⟨⟨t145, t146⟩, A90, H⟩ := H; (try dsimp only at H); have A9 := aM A90; clear A90; replace H := Option.bind_eq_some_iff.mp H; obtain ⟨t150, A100, H⟩ := H; (try dsimp only at H); have A10 := aM A100; clear A100; by_cases c11 : t150.toList = t144.toList
 ·
  rw [if_pos c11] at H; have c11b0 : (t150.toList == t144.toList) = true := beq_iff_eq.mpr c11; have c11b1 : (t150.toList != t144.toList) = false := bne_eq_false_iff_eq.mpr c11; clear c11; replace H := Option.bind_eq_some_iff.mp H; obtain ⟨⟨t151, t152⟩, A120, H⟩ := H; (try dsimp only at H); have A12 := aM A120; clear A120; replace H := Option.bind_eq_some_iff.mp H; obtain ⟨t155, A130, H⟩ := H; (try dsimp only at H); have A13 := aM A130; clear A130; by_cases c14 : t155 = true
  ·
   subst c14; rw [if_pos rfl] at H; obtain rfl := Option.some.inj H; go_enter Tryd.func3, Tryd.ntmps3
   try go_wp2_with (first | ((with_reducible refine gD 1 rfl ?_); refine bE 1 #[.string a0_0, .slice A0_1 l0_1.length c0_1] 24 ?_; intro gb138 hg w15 hbox hb; have BK138 := aM hbox; have GW138 := aM (zq47 : w.heap.size ≤ gb138); have GE138 := GW138; replace HB := sB zq6 hb; clear hb hbox hg; obtain ⟨hcz16_0, hcz16_1, hfz16_0, hfz16_1⟩ := cells2_ (w := w15) BK138) | ((with_reducible refine gC 5 rfl ?_); refine gL 9 Tryd.func5 #[.agg #[.string a0_0, .slice A0_1 l0_1.length c0_1], .int .i64 1048576] ?_; (with_reducible refine (laws_szManifest.calls k a0_0 _ _ l0_1 1048576 t139 _ ?_ ?_ A2.out).mono ?_); exact zq10; exact zq11; rintro e w17 ⟨rfl, hb⟩; refine ⟨_, rfl, ?_⟩; replace BK138 := bG BK138 hb; replace HB := sB zq31 hb; clear hb; obtain ⟨hcz18_0, hcz18_1, hfz18_0, hfz18_1⟩ := cells2_ (w := w17) BK138) | ((with_reducible refine gC 7 rfl ?_); refine gL 13 Tryd.func7 #[.agg #[.string a0_0, .slice A0_1 l0_1.length c0_1]] ?_; (with_reducible refine (laws_toManifest.calls k a0_0 _ _ l0_1 t140 t141 _ ?_ ?_ A7.out).mono ?_); exact zq10; exact zq11; rintro e w19 ⟨v142, rfl, ho0, hb⟩; refine ⟨_, rfl, ?_⟩; have HO143 := aM (Kd.R_lower ho0 (below_size zq31)); replace BK138 := bG BK138 hb; replace HB := sB zq31 hb; clear hb; (try clear ho0); obtain ⟨Ao20, co20, eo20⟩ := Kd.R_slice HO143.out; subst eo20) | ((with_reducible refine gC 6 rfl ?_); refine gL 14 Tryd.func6 #[.agg #[.string t140, .slice Ao20 t141.length co20]] ?_; (with_reducible refine (spec_WriteManifest.calls k t140 _ _ t141 t144 _ ?_ ?_ A8.out).mono ?_); exact zq32; exact zq33; rintro e w21 ⟨rfl, hb⟩; refine ⟨_, rfl, ?_⟩; replace HO143 := rG HO143 hb; replace BK138 := bG BK138 hb; replace HB := sB zq31 hb; clear hb; obtain ⟨hcz22_0, hcz22_1, hfz22_0, hfz22_1⟩ := cells2_ (w := w21) BK138) | ((with_reducible refine gC 7 rfl ?_); refine gL 16 Tryd.func7 #[.agg #[.string a0_0, .slice A0_1 l0_1.length c0_1]] ?_; (with_reducible refine (laws_toManifest.calls k a0_0 _ _ l0_1 t145 t146 _ ?_ ?_ A9.out).mono ?_); exact zq10; exact zq11; rintro e w23 ⟨v147, rfl, ho0, hb⟩; refine ⟨_, rfl, ?_⟩; have HO148 := aM (Kd.R_lower (Kd.R_new' ho0 (Kd.R_lt zq34)) (below_size zq31)); replace HO143 := aM (Kd.R_elder' zq34 (Kd.R_base ho0) hb); replace BK138 := bG BK138 hb; replace HB := sB zq31 hb; clear hb; (try clear ho0)) | ((with_reducible refine gD 5 rfl ?_); refine bE 5 #[.string (⟨#[]⟩ : ByteArray), .slice none 0 0] 27 ?_; intro gb149 hg w24 hbox hb; replace HO143 := rG HO143 hb; replace HO148 := rG HO148 hb; have BK149 := aM hbox; have GW149 := aM (zq53 : w.heap.size ≤ gb149); have GE149 := GW149; replace HB := sB zq31 hb; have NB138_149 := aM (zq54 : gb138 ≠ gb149); have NB149_138 := aM (zq55 : gb149 ≠ gb138); replace BK138 := bG BK138 hb; clear hb hbox hg; have hnb25 := NB149_138.out; have hnc25 := NB138_149.out; obtain ⟨hcz26_0, hcz26_1, hfz26_0, hfz26_1⟩ := cells2_ (w := w24) BK149; obtain ⟨Ao27, co27, eo27⟩ := Kd.R_slice HO148.out; subst eo27) | ((with_reducible refine gC 8 rfl ?_); refine gL 18 Tryd.func8 #[.agg #[.string t145, .slice Ao27 t146.length co27]] ?_; (with_reducible refine (impl_WriteManifest.calls k t145 _ _ t146 t150 _ ?side1 ?_ A10.out).mono ?_); (case side1 => refine (Kd.R_reads' (e := 9) (base := w.heap.size) (ok := fun k_ => (True ∧ some k_ ≠ (.slice Ao20 t141.length co20 : Value).ownBlock)) (n := t146.length) (c := co27) ?_).2.2; exact zq36); exact zq37; rintro e w28 ⟨rfl, hb⟩; refine ⟨_, rfl, ?_⟩; replace HO143 := rB (by refine dR ?_; exact (Kd.R_mono (Kd.R_far (p := ⟨gb149, 1, none⟩) (Kd.R_far (p := ⟨gb149, 0, none⟩) (Kd.R_types HO143.out BK149.out (by decide)) (fun _ hk => hk.2) (.string t145)) (fun _ hk => hk.2) (.slice Ao27 t146.length co27)) (fun _ h_ => h_.1))) hb; replace HO148 := rB zq36 hb; replace BK138 := bF BK138 zq38 hb; replace BK149 := bB (g := gb149) (o := .cells #[.string t145, .slice Ao27 t146.length co27] 27 (0, 0)) zq39 hb; replace HB := sB zq40 hb; clear hb))
   replace HO143 := aM (Kd.R_drew HO143.out); replace HO148 := aM (Kd.R_drew HO148.out); replace BK138 := aM (blk_drew BK138.out); replace BK149 := aM (blk_drew BK149.out); replace HB := aM (below_drew1 HB.out); refine start_ (n := 5) (S := fun w' => w'.cell? ⟨gb149, 0, none⟩ = some (.string t145) ∧ w'.cell? ⟨gb149, 1, none⟩ = some (.slice Ao27 t146.length co27) ∧ w'.cell? ⟨gb138, 0, none⟩ = some (.string a0_0) ∧ w'.cell? ⟨gb138, 1, none⟩ = some (.slice A0_1 l0_1.length c0_1)) (ds := []) #[false, false, false, false, false] (by kernel_rfl) rfl rfl ⟨(blk_cell BK149.out 0).trans rfl, (blk_cell BK149.out 1).trans rfl, (blk_cell BK138.out 0).trans rfl, (blk_cell BK138.out 1).trans rfl⟩ (fun hHeld => ?_); generalize w28.drew = w29 at HO143 HO148 BK138 BK149 HB hHeld ⊢; refine take_ (i := 0) (N := some 22) (v := ?_) (a' := ?_) #[true, false, false, false, false] rfl rfl (by kernel_rfl) (fun _ _ _ h => h) (Or.inl ⟨by rfl, ?_⟩) hHeld ?_ ?_; rotate_left; exact zq58; rotate_left; exact zq59; refine take_ (i := 1) (N := some 23) (v := ?_) (a' := ?_) #[true, true, false, false, false] rfl rfl (by kernel_rfl) (fun _ _ _ h => h) (Or.inl ⟨by rfl, ?_⟩) hHeld ?_ ?_; rotate_left; exact zq58; rotate_left; exact zq59; refine one_ (i := 2) (N := some 24) #[true, true, true, false, false] rfl rfl (by kernel_rfl) (by decide) (fun K hK => ?_); refine goes_ Tryd.func7 (by kernel_rfl) rfl #[.agg #[.string a0_0, .slice A0_1 l0_1.length c0_1]] (by rfl) rfl rfl zq9 ?_
   with_reducible refine (laws_toManifest.calls k a0_0 _ _ l0_1 t151 t152 _ ?side1 ?side2 A12.out).mono ?_
   (case side1 => exact zq10)
   (case side2 => exact zq11)
   rintro e w30 ⟨v153, rfl, ho0, hb⟩; refine ⟨_, rfl, ?_⟩; have HO154 := aM (Kd.R_lower (Kd.R_new' (Kd.R_new' ho0 (Kd.R_lt zq34)) (Kd.R_lt zq35)) (below_size zq40)); replace HO143 := aM (Kd.R_elder' zq34 (Kd.R_base ho0) hb); replace HO148 := aM (Kd.R_elder' zq35 (Kd.R_base ho0) hb); replace BK138 := bG BK138 hb; replace BK149 := bG BK149 hb; replace HB := sB zq40 hb; (try clear hb); (try clear hb2); (try clear hk); (try clear hi); (try clear ho0); obtain ⟨Ao31, co31, eo31⟩ := Kd.R_slice HO154.out
   (first | subst eo31 | (injection eo31 with f1_ f2_ f3_; have f4_ := f1_.symm; have f5_ := f3_.symm; clear f1_ f2_ f3_; subst f4_; subst f5_))
   refine hK.out _ _ ⟨(blk_cell BK149.out 0).trans rfl, (blk_cell BK149.out 1).trans rfl, (blk_cell BK138.out 0).trans rfl, (blk_cell BK138.out 1).trans rfl⟩ (fun hHeld => ?_); clear hK K; refine norm_ (a' := ?_) ?_ ?_; rotate_left
   ·
    show Act.put _ (some 24) _ = _
    simp only [Act.put, List.setIfInBounds_toArray, List.set_cons_zero, List.set_cons_succ, i64_w, i32_w]
    rfl
   refine one_ (i := 3) (N := some 25) #[true, true, true, true, false] rfl rfl (by kernel_rfl) (by decide) (fun K hK => ?_); refine goes_ Tryd.func9 (by kernel_rfl) rfl #[.agg #[.string t145, .slice Ao27 t146.length co27], .agg #[.string t151, .slice Ao31 t152.length co31]] (by rfl) rfl rfl zq9 ?_
   with_reducible refine (laws_eqManifest.calls k t145 _ _ t146 t151 _ _ t152 true _ ?side1 ?side2 ?side3 ?side4 A13.out).mono ?_
   (case side1 => exact zq42)
   (case side2 => exact zq37)
   (case side3 => exact zq43)
   (case side4 => exact (Kd.R_reads' HO154.out).2.1)
   rintro e w32 ⟨rfl, hb⟩; refine ⟨_, rfl, ?_⟩; replace HO143 := rG HO143 hb; replace HO148 := rG HO148 hb; replace HO154 := rG HO154 hb; replace BK138 := bG BK138 hb; replace BK149 := bG BK149 hb; replace HB := sB zq40 hb; (try clear hb); (try clear hb2); (try clear hk); (try clear hi); refine hK.out _ _ ⟨(blk_cell BK149.out 0).trans rfl, (blk_cell BK149.out 1).trans rfl, (blk_cell BK138.out 0).trans rfl, (blk_cell BK138.out 1).trans rfl⟩ (fun hHeld => ?_); clear hK K; refine norm_ (a' := ?_) ?_ ?_; rotate_left
   ·
    show Act.put _ (some 25) _ = _
    simp only [Act.put, List.setIfInBounds_toArray, List.set_cons_zero, List.set_cons_succ, i64_w, i32_w]
    rfl
   refine pure_ (i := 4) (N := some 26) (v := ?_) (a' := ?_) #[true, true, true, true, true] rfl rfl (by kernel_rfl) (fun _ _ _ h => h) (Or.inl ⟨by rfl, ?_⟩) ?_ ?_; rotate_left
   ·
    intro w'
    go_simp
    with_reducible rfl
   rotate_left; exact zq59; refine done_ (by kernel_rfl) ?_
   try go_wp2
   go_ret; exact ⟨zq7, zq40⟩
  replace c14 := Bool.eq_false_iff.mpr c14; subst c14; rw [if_neg (show ¬ (false = true) by decide)] at H; obtain rfl := Option.some.inj H; go_enter Tryd.func3, Tryd.ntmps3
  try go_wp2_with (first | ((with_reducible refine gD 1 rfl ?_); refine bE 1 #[.string a0_0, .slice A0_1 l0_1.length c0_1] 24 ?_; intro gb138 hg w33 hbox hb; have BK138 := aM hbox; have GW138 := aM (zq47 : w.heap.size ≤ gb138); have GE138 := GW138; replace HB := sB zq6 hb; clear hb hbox hg; obtain ⟨hcz34_0, hcz34_1, hfz34_0, hfz34_1⟩ := cells2_ (w := w33) BK138) | ((with_reducible refine gC 5 rfl ?_); refine gL 9 Tryd.func5 #[.agg #[.string a0_0, .slice A0_1 l0_1.length c0_1], .int .i64 1048576] ?_; (with_reducible refine (laws_szManifest.calls k a0_0 _ _ l0_1 1048576 t139 _ ?_ ?_ A2.out).mono ?_); exact zq10; exact zq11; rintro e w35 ⟨rfl, hb⟩; refine ⟨_, rfl, ?_⟩; replace BK138 := bG BK138 hb; replace HB := sB zq31 hb; clear hb; obtain ⟨hcz36_0, hcz36_1, hfz36_0, hfz36_1⟩ := cells2_ (w := w35) BK138) | ((with_reducible refine gC 7 rfl ?_); refine gL 13 Tryd.func7 #[.agg #[.string a0_0, .slice A0_1 l0_1.length c0_1]] ?_; (with_reducible refine (laws_toManifest.calls k a0_0 _ _ l0_1 t140 t141 _ ?_ ?_ A7.out).mono ?_); exact zq10; exact zq11; rintro e w37 ⟨v142, rfl, ho0, hb⟩; refine ⟨_, rfl, ?_⟩; have HO143 := aM (Kd.R_lower ho0 (below_size zq31)); replace BK138 := bG BK138 hb; replace HB := sB zq31 hb; clear hb; (try clear ho0); obtain ⟨Ao38, co38, eo38⟩ := Kd.R_slice HO143.out; subst eo38) | ((with_reducible refine gC 6 rfl ?_); refine gL 14 Tryd.func6 #[.agg #[.string t140, .slice Ao38 t141.length co38]] ?_; (with_reducible refine (spec_WriteManifest.calls k t140 _ _ t141 t144 _ ?_ ?_ A8.out).mono ?_); exact zq32; exact zq33; rintro e w39 ⟨rfl, hb⟩; refine ⟨_, rfl, ?_⟩; replace HO143 := rG HO143 hb; replace BK138 := bG BK138 hb; replace HB := sB zq31 hb; clear hb; obtain ⟨hcz40_0, hcz40_1, hfz40_0, hfz40_1⟩ := cells2_ (w := w39) BK138) | ((with_reducible refine gC 7 rfl ?_); refine gL 16 Tryd.func7 #[.agg #[.string a0_0, .slice A0_1 l0_1.length c0_1]] ?_; (with_reducible refine (laws_toManifest.calls k a0_0 _ _ l0_1 t145 t146 _ ?_ ?_ A9.out).mono ?_); exact zq10; exact zq11; rintro e w41 ⟨v147, rfl, ho0, hb⟩; refine ⟨_, rfl, ?_⟩; have HO148 := aM (Kd.R_lower (Kd.R_new' ho0 (Kd.R_lt zq34)) (below_size zq31)); replace HO143 := aM (Kd.R_elder' zq34 (Kd.R_base ho0) hb); replace BK138 := bG BK138 hb; replace HB := sB zq31 hb; clear hb; (try clear ho0)) | ((with_reducible refine gD 5 rfl ?_); refine bE 5 #[.string (⟨#[]⟩ : ByteArray), .slice none 0 0] 27 ?_; intro gb149 hg w42 hbox hb; replace HO143 := rG HO143 hb; replace HO148 := rG HO148 hb; have BK149 := aM hbox; have GW149 := aM (zq53 : w.heap.size ≤ gb149); have GE149 := GW149; replace HB := sB zq31 hb; have NB138_149 := aM (zq54 : gb138 ≠ gb149); have NB149_138 := aM (zq55 : gb149 ≠ gb138); replace BK138 := bG BK138 hb; clear hb hbox hg; have hnb43 := NB149_138.out; have hnc43 := NB138_149.out; obtain ⟨hcz44_0, hcz44_1, hfz44_0, hfz44_1⟩ := cells2_ (w := w42) BK149; obtain ⟨Ao45, co45, eo45⟩ := Kd.R_slice HO148.out; subst eo45) | ((with_reducible refine gC 8 rfl ?_); refine gL 18 Tryd.func8 #[.agg #[.string t145, .slice Ao45 t146.length co45]] ?_; (with_reducible refine (impl_WriteManifest.calls k t145 _ _ t146 t150 _ ?side1 ?_ A10.out).mono ?_); (case side1 => refine (Kd.R_reads' (e := 9) (base := w.heap.size) (ok := fun k_ => (True ∧ some k_ ≠ (.slice Ao38 t141.length co38 : Value).ownBlock)) (n := t146.length) (c := co45) ?_).2.2; exact zq45); exact zq37; rintro e w46 ⟨rfl, hb⟩; refine ⟨_, rfl, ?_⟩; replace HO143 := rB (by refine dR ?_; exact (Kd.R_mono (Kd.R_far (p := ⟨gb149, 1, none⟩) (Kd.R_far (p := ⟨gb149, 0, none⟩) (Kd.R_types HO143.out BK149.out (by decide)) (fun _ hk => hk.2) (.string t145)) (fun _ hk => hk.2) (.slice Ao45 t146.length co45)) (fun _ h_ => h_.1))) hb; replace HO148 := rB zq45 hb; replace BK138 := bF BK138 zq38 hb; replace BK149 := bB (g := gb149) (o := .cells #[.string t145, .slice Ao45 t146.length co45] 27 (0, 0)) zq39 hb; replace HB := sB zq40 hb; clear hb))
  replace HO143 := aM (Kd.R_drew HO143.out); replace HO148 := aM (Kd.R_drew HO148.out); replace BK138 := aM (blk_drew BK138.out); replace BK149 := aM (blk_drew BK149.out); replace HB := aM (below_drew1 HB.out); refine start_ (n := 5) (S := fun w' => w'.cell? ⟨gb149, 0, none⟩ = some (.string t145) ∧ w'.cell? ⟨gb149, 1, none⟩ = some (.slice Ao45 t146.length co45) ∧ w'.cell? ⟨gb138, 0, none⟩ = some (.string a0_0) ∧ w'.cell? ⟨gb138, 1, none⟩ = some (.slice A0_1 l0_1.length c0_1)) (ds := []) #[false, false, false, false, false] (by kernel_rfl) rfl rfl ⟨(blk_cell BK149.out 0).trans rfl, (blk_cell BK149.out 1).trans rfl, (blk_cell BK138.out 0).trans rfl, (blk_cell BK138.out 1).trans rfl⟩ (fun hHeld => ?_); generalize w46.drew = w47 at HO143 HO148 BK138 BK149 HB hHeld ⊢; refine take_ (i := 0) (N := some 22) (v := ?_) (a' := ?_) #[true, false, false, false, false] rfl rfl (by kernel_rfl) (fun _ _ _ h => h) (Or.inl ⟨by rfl, ?_⟩) hHeld ?_ ?_; rotate_left; exact zq58; rotate_left; exact zq59; refine take_ (i := 1) (N := some 23) (v := ?_) (a' := ?_) #[true, true, false, false, false] rfl rfl (by kernel_rfl) (fun _ _ _ h => h) (Or.inl ⟨by rfl, ?_⟩) hHeld ?_ ?_; rotate_left; exact zq58; rotate_left; exact zq59; refine one_ (i := 2) (N := some 24) #[true, true, true, false, false] rfl rfl (by kernel_rfl) (by decide) (fun K hK => ?_); refine goes_ Tryd.func7 (by kernel_rfl) rfl #[.agg #[.string a0_0, .slice A0_1 l0_1.length c0_1]] (by rfl) rfl rfl zq9 ?_
  with_reducible refine (laws_toManifest.calls k a0_0 _ _ l0_1 t151 t152 _ ?side1 ?side2 A12.out).mono ?_
  (case side1 => exact zq10)
  (case side2 => exact zq11)
  rintro e w48 ⟨v153, rfl, ho0, hb⟩; refine ⟨_, rfl, ?_⟩; have HO154 := aM (Kd.R_lower (Kd.R_new' (Kd.R_new' ho0 (Kd.R_lt zq34)) (Kd.R_lt zq35)) (below_size zq40)); replace HO143 := aM (Kd.R_elder' zq34 (Kd.R_base ho0) hb); replace HO148 := aM (Kd.R_elder' zq35 (Kd.R_base ho0) hb); replace BK138 := bG BK138 hb; replace BK149 := bG BK149 hb; replace HB := sB zq40 hb; (try clear hb); (try clear hb2); (try clear hk); (try clear hi); (try clear ho0); obtain ⟨Ao49, co49, eo49⟩ := Kd.R_slice HO154.out
  (first | subst eo49 | (injection eo49 with f1_ f2_ f3_; have f4_ := f1_.symm; have f5_ := f3_.symm; clear f1_ f2_ f3_; subst f4_; subst f5_))
  refine hK.out _ _ ⟨(blk_cell BK149.out 0).trans rfl, (blk_cell BK149.out 1).trans rfl, (blk_cell BK138.out 0).trans rfl, (blk_cell BK138.out 1).trans rfl⟩ (fun hHeld => ?_); clear hK K; refine norm_ (a' := ?_) ?_ ?_; rotate_left
  ·
   show Act.put _ (some 24) _ = _
   simp only [Act.put, List.setIfInBounds_toArray, List.set_cons_zero, List.set_cons_succ, i64_w, i32_w]
   rfl
  refine one_ (i := 3) (N := some 25) #[true, true, true, true, false] rfl rfl (by kernel_rfl) (by decide) (fun K hK => ?_); refine goes_ Tryd.func9 (by kernel_rfl) rfl #[.agg #[.string t145, .slice Ao45 t146.length co45], .agg #[.string t151, .slice Ao49 t152.length co49]] (by rfl) rfl rfl zq9 ?_
  with_reducible refine (laws_eqManifest.calls k t145 _ _ t146 t151 _ _ t152 false _ ?side1 ?side2 ?side3 ?side4 A13.out).mono ?_
  (case side1 => exact zq42)
  (case side2 => exact zq37)
  (case side3 => exact zq43)
  (case side4 => exact (Kd.R_reads' HO154.out).2.1)
  rintro e w50 ⟨rfl, hb⟩; refine ⟨_, rfl, ?_⟩; replace HO143 := rG HO143 hb; replace HO148 := rG HO148 hb; replace HO154 := rG HO154 hb; replace BK138 := bG BK138 hb; replace BK149 := bG BK149 hb; replace HB := sB zq40 hb; (try clear hb); (try clear hb2); (try clear hk); (try clear hi); refine hK.out _ _ ⟨(blk_cell BK149.out 0).trans rfl, (blk_cell BK149.out 1).trans rfl, (blk_cell BK138.out 0).trans rfl, (blk_cell BK138.out 1).trans rfl⟩ (fun hHeld => ?_); clear hK K; refine norm_ (a' := ?_) ?_ ?_; rotate_left
  ·
   show Act.put _ (some 25) _ = _
   simp only [Act.put, List.setIfInBounds_toArray, List.set_cons_zero, List.set_cons_succ, i64_w, i32_w]
   rfl
  refine pure_ (i := 4) (N := some 26) (v := ?_) (a' := ?_) #[true, true, true, true, true] rfl rfl (by kernel_rfl) (fun _ _ _ h => h) (Or.inl ⟨by rfl, ?_⟩) ?_ ?_; rotate_left
  ·
   intro w'
   go_simp
   with_reducible rfl
  rotate_left; exact zq59; refine done_ (by kernel_rfl) ?_
  try go_wp2
  go_ret; exact ⟨zq7, zq40⟩
 rw [if_neg c11] at H; have c11b0 : (t150.toList == t144.toList) = false := beq_eq_false_iff_ne.mpr c11; have c11b1 : (t150.toList != t144.toList) = true := bne_iff_ne.mpr c11; obtain rfl := Option.some.inj H; go_enter Tryd.func3, Tryd.ntmps3
 go_wp2_with (first | ((with_reducible refine gD 1 rfl ?_); refine bE 1 #[.string a0_0, .slice A0_1 l0_1.length c0_1] 24 ?_; intro gb138 hg w51 hbox hb; have BK138 := aM hbox; have GW138 := aM (zq47 : w.heap.size ≤ gb138); have GE138 := GW138; replace HB := sB zq6 hb; clear hb hbox hg; obtain ⟨hcz52_0, hcz52_1, hfz52_0, hfz52_1⟩ := cells2_ (w := w51) BK138) | ((with_reducible refine gC 5 rfl ?_); refine gL 9 Tryd.func5 #[.agg #[.string a0_0, .slice A0_1 l0_1.length c0_1], .int .i64 1048576] ?_; (with_reducible refine (laws_szManifest.calls k a0_0 _ _ l0_1 1048576 t139 _ ?_ ?_ A2.out).mono ?_); exact zq10; exact zq11; rintro e w53 ⟨rfl, hb⟩; refine ⟨_, rfl, ?_⟩; replace BK138 := bG BK138 hb; replace HB := sB zq31 hb; clear hb; obtain ⟨hcz54_0, hcz54_1, hfz54_0, hfz54_1⟩ := cells2_ (w := w53) BK138) | ((with_reducible refine gC 7 rfl ?_); refine gL 13 Tryd.func7 #[.agg #[.string a0_0, .slice A0_1 l0_1.length c0_1]] ?_; (with_reducible refine (laws_toManifest.calls k a0_0 _ _ l0_1 t140 t141 _ ?_ ?_ A7.out).mono ?_); exact zq10; exact zq11; rintro e w55 ⟨v142, rfl, ho0, hb⟩; refine ⟨_, rfl, ?_⟩; have HO143 := aM (Kd.R_lower ho0 (below_size zq31)); replace BK138 := bG BK138 hb; replace HB := sB zq31 hb; clear hb; (try clear ho0); obtain ⟨Ao56, co56, eo56⟩ := Kd.R_slice HO143.out; subst eo56) | ((with_reducible refine gC 6 rfl ?_); refine gL 14 Tryd.func6 #[.agg #[.string t140, .slice Ao56 t141.length co56]] ?_; (with_reducible refine (spec_WriteManifest.calls k t140 _ _ t141 t144 _ ?_ ?_ A8.out).mono ?_); exact zq32; exact zq33; rintro e w57 ⟨rfl, hb⟩; refine ⟨_, rfl, ?_⟩; replace HO143 := rG HO143 hb; replace BK138 := bG BK138 hb; replace HB := sB zq31 hb; clear hb; obtain ⟨hcz58_0, hcz58_1, hfz58_0, hfz58_1⟩ := cells2_ (w := w57) BK138) | ((with_reducible refine gC 7 rfl ?_); refine gL 16 Tryd.func7 #[.agg #[.string a0_0, .slice A0_1 l0_1.length c0_1]] ?_; (with_reducible refine (laws_toManifest.calls k a0_0 _ _ l0_1 t145 t146 _ ?_ ?_ A9.out).mono ?_); exact zq10; exact zq11; rintro e w59 ⟨v147, rfl, ho0, hb⟩; refine ⟨_, rfl, ?_⟩; have HO148 := aM (Kd.R_lower (Kd.R_new' ho0 (Kd.R_lt zq34)) (below_size zq31)); replace HO143 := aM (Kd.R_elder' zq34 (Kd.R_base ho0) hb); replace BK138 := bG BK138 hb; replace HB := sB zq31 hb; clear hb; (try clear ho0)) | ((with_reducible refine gD 5 rfl ?_); refine bE 5 #[.string (⟨#[]⟩ : ByteArray), .slice none 0 0] 27 ?_; intro gb149 hg w60 hbox hb; replace HO143 := rG HO143 hb; replace HO148 := rG HO148 hb; have BK149 := aM hbox; have GW149 := aM (zq53 : w.heap.size ≤ gb149); have GE149 := GW149; replace HB := sB zq31 hb; have NB138_149 := aM (zq54 : gb138 ≠ gb149); have NB149_138 := aM (zq55 : gb149 ≠ gb138); replace BK138 := bG BK138 hb; clear hb hbox hg; have hnb61 := NB149_138.out; have hnc61 := NB138_149.out; obtain ⟨hcz62_0, hcz62_1, hfz62_0, hfz62_1⟩ := cells2_ (w := w60) BK149; obtain ⟨Ao63, co63, eo63⟩ := Kd.R_slice HO148.out; subst eo63) | ((with_reducible refine gC 8 rfl ?_); refine gL 18 Tryd.func8 #[.agg #[.string t145, .slice Ao63 t146.length co63]] ?_; (with_reducible refine (impl_WriteManifest.calls k t145 _ _ t146 t150 _ ?side1 ?_ A10.out).mono ?_); (case side1 => refine (Kd.R_reads' (e := 9) (base := w.heap.size) (ok := fun k_ => (True ∧ some k_ ≠ (.slice Ao56 t141.length co56 : Value).ownBlock)) (n := t146.length) (c := co63) ?_).2.2; exact zq46); exact zq37; rintro e w64 ⟨rfl, hb⟩; refine ⟨_, rfl, ?_⟩; replace HO143 := rB (by refine dR ?_; exact (Kd.R_mono (Kd.R_far (p := ⟨gb149, 1, none⟩) (Kd.R_far (p := ⟨gb149, 0, none⟩) (Kd.R_types HO143.out BK149.out (by decide)) (fun _ hk => hk.2) (.string t145)) (fun _ hk => hk.2) (.slice Ao63 t146.length co63)) (fun _ h_ => h_.1))) hb; replace HO148 := rB zq46 hb; replace BK138 := bF BK138 zq38 hb; replace BK149 := bB (g := gb149) (o := .cells #[.string t145, .slice Ao63 t146.length co63] 27 (0, 0)) zq39 hb; replace HB := sB zq40 hb; clear hb))
 go_ret; exact ⟨zq7, zq40⟩

/-- THE ONE PURE STATEMENT of laws_FnExactWriteManifest. -/
def laws_FnExactWriteManifest.Pure : Prop := ∀ (a0_0 : ByteArray) (l0_1 : List ByteArray), a0_0.size ≤ maxLen → (l0_1.length ≤ maxLen ∧ ∀ y0_ ∈ l0_1, y0_.size ≤ maxLen) → ∃ k, laws_FnExactWriteManifest.f k a0_0 l0_1 = some true

end Go.Proofs.YtkpbdfpmoeobnaaDoor.QFnExactWriteManifest
