/- Written by wip/myprint.py of this repo (the kit's print, with additions of this session). -/
import Derived.Test.YtldpdaifajjaeaaDoorQFnExactWriteRefx0
import Derived.Test.YtldpdaifajjaeaaDoorQFnExactWriteRefx1
import Derived.Test.YtldpdaifajjaeaaDoorQFnExactWriteRefx4
import Derived.Test.YtldpdaifajjaeaaDoorQFnExactWriteRefx5
set_option maxRecDepth 100000
namespace Go.Proofs.YtldpdaifajjaeaaDoor.QFnExactWriteRef
open Go.RowKit Go.Proofs.YtldpdaifajjaeaaDoorW.PrintWords Go.Proofs.YtldpdaifajjaeaaDoorW.PrintLast Go.Proofs.YtldpdaifajjaeaaDoorW.PrintMore
attribute [local go_sem] max2_int min2_int max_two min_two max_three min_three max_four min_four   -- for this text's walks alone
set_option linter.unusedVariables false
set_option linter.unusedSimpArgs false

/-! ### impl_WriteRef: function 13 -/
def impl_WriteRef.j0 : Nat → Bool → ByteArray → ByteArray → ByteArray → Option (ByteArray)
 | 0, _, _, _, _ => none
 | k + 1, x29, x151000, x151001, x151002 => if x29 = true then (some (⟨#[]⟩ : ByteArray)) else (if x151001.toList = ([] : List UInt8) then (if x151002.toList = ([] : List UInt8) then (some x151000) else (if 1 + x151002.size ≤ 9223372036854775807 then (if x151000.size + 1 + x151002.size ≤ 9223372036854775807 then (some (x151000 ++ ((⟨#[64]⟩ : ByteArray) ++ x151002))) else (none)) else (none))) else (if 1 + x151001.size ≤ 9223372036854775807 then (if x151000.size + 1 + x151001.size ≤ 9223372036854775807 then (if x151002.toList = ([] : List UInt8) then (some (x151000 ++ ((⟨#[58]⟩ : ByteArray) ++ x151001))) else (if 1 + x151002.size ≤ 9223372036854775807 then (if x151000.size + (1 + x151001.size) + 1 + x151002.size ≤ 9223372036854775807 then (some ((x151000 ++ ((⟨#[58]⟩ : ByteArray) ++ x151001)) ++ ((⟨#[64]⟩ : ByteArray) ++ x151002))) else (none)) else (none))) else (none)) else (none)))
def impl_WriteRef.f (k : Nat) (a0_0 : ByteArray) (a0_1 : ByteArray) (a0_2 : ByteArray) : Option (ByteArray) := (impl_isRepo.f k a0_0).bind fun t151 => (if t151 = true then (if a0_1.toList = ([] : List UInt8) then (if a0_2.toList = ([] : List UInt8) then (impl_WriteRef.j0 k false a0_0 a0_1 a0_2) else ((impl_isDigest.f a0_2).bind fun t152 => (impl_WriteRef.j0 k (!t152) a0_0 a0_1 a0_2))) else ((impl_isTag.f k a0_1).bind fun t153 => (if t153 = true then (if a0_2.toList = ([] : List UInt8) then (impl_WriteRef.j0 k false a0_0 a0_1 a0_2) else ((impl_isDigest.f a0_2).bind fun t154 => (impl_WriteRef.j0 k (!t154) a0_0 a0_1 a0_2))) else (impl_WriteRef.j0 k true a0_0 a0_1 a0_2)))) else (impl_WriteRef.j0 k true a0_0 a0_1 a0_2))
theorem impl_WriteRef.mono_l : ∀ k, (∀ y0 y1 y2 y3, LeO (impl_WriteRef.j0 k y0 y1 y2 y3) (impl_WriteRef.j0 (k + 1) y0 y1 y2 y3))
 | 0 => fun _ _ _ _ r h => by simp [impl_WriteRef.j0] at h
 | k + 1 => by
  have ih0 := impl_WriteRef.mono_l k
  ·
   intro y0 y1 y2 y3; unfold impl_WriteRef.j0
   repeat' first
   | (with_reducible apply ih0)
   | (with_reducible apply impl_isRepo.mono)
   | (with_reducible apply impl_isTag.mono)
   | (with_reducible exact LeO.refl _)
   | (with_reducible exact LeO.none _)
   | (with_reducible refine LeO.ite ?_ ?_)
   | (with_reducible refine LeO.bind ?_ (fun _ => ?_))
   | exact LeO.none _
   | refine LeO.ite ?_ ?_
   | refine LeO.bind ?_ (fun _ => ?_)
theorem impl_WriteRef.mono : ∀ a0 a1 a2 k, LeO (impl_WriteRef.f k a0 a1 a2) (impl_WriteRef.f (k + 1) a0 a1 a2) := by
 intro a0 a1 a2 k; have ih0 := impl_WriteRef.mono_l k; unfold impl_WriteRef.f
 repeat' first
   | (with_reducible apply ih0)
   | (with_reducible apply impl_isRepo.mono)
   | (with_reducible apply impl_isTag.mono)
   | (with_reducible exact LeO.refl _)
   | (with_reducible exact LeO.none _)
   | (with_reducible refine LeO.ite ?_ ?_)
   | (with_reducible refine LeO.bind ?_ (fun _ => ?_))
   | exact LeO.none _
   | refine LeO.ite ?_ ?_
   | refine LeO.bind ?_ (fun _ => ?_)
set_option maxHeartbeats 8000000 in
set_option maxRecDepth 100000 in
theorem impl_WriteRef.calls (k : Nat) (a0_0 : ByteArray) (a0_1 : ByteArray) (a0_2 : ByteArray) (r : ByteArray) (w : World) (h : impl_WriteRef.f k a0_0 a0_1 a0_2 = some r) :
  Calls Tryd.prog 13 #[.agg #[.string a0_0, .string a0_1, .string a0_2]] w fun e w' => e = .returned (.string r) ∧ Below w.heap.size w w' := by
 have hu27 := Tryd.underlying27; have HB := aM (Below.refl w.heap.size w); unfold impl_WriteRef.f at h; have H := h; clear h; have HC2 := aM H; clear H; go_enter Tryd.func13, Tryd.ntmps13
 go_upto_region 1 with (first | ((with_reducible refine gD 1 rfl ?_); refine bE 1 #[.string a0_0, .string a0_1, .string a0_2] 27 ?_; intro gb150 hg w3 hbox hb; have BK150 := aM hbox; have GW150 := aM (zq28 : w.heap.size ≤ gb150); have GE150 := GW150; replace HB := sB zq2 hb; clear hb hbox hg))
 (try simp only [Act.put, List.setIfInBounds_toArray, List.set_cons_zero, List.set_cons_succ])
 go_cut [29] (fun v29 wc => ∃ (kq : Nat) (x29_1 : Bool), v29 = .bool x29_1 ∧ Aside0 (impl_WriteRef.j0 kq x29_1 a0_0 a0_1 a0_2 = some r) ∧ Aside0 (kq ≤ k) ∧ Aside0 (wc.heap[gb150]? = some (.cells #[.string a0_0, .string a0_1, .string a0_2] 27 (0, 0))) ∧ Aside0 (Below w.heap.size w wc))
 case first =>
  have H := HC2.out; clear HC2; replace H := Option.bind_eq_some_iff.mp H; obtain ⟨t151, A40, H⟩ := H; (try dsimp only at H); have A4 := aM A40; clear A40; by_cases c5 : t151 = true
  ·
   subst c5; rw [if_pos rfl] at H; by_cases c6 : a0_1.toList = ([] : List UInt8)
   ·
    rw [if_pos c6] at H; have c6b0 : (a0_1.toList == ([] : List UInt8)) = true := beq_iff_eq.mpr c6; have c6b1 : (a0_1.toList != ([] : List UInt8)) = false := bne_eq_false_iff_eq.mpr c6; have c6b2 : a0_1.toList.isEmpty = true := by simpa using c6
    clear c6
    (first | rw [c6b0] | (simp only [i64_w, i32_w]; rw [c6b0]) | (rw [c6b2]; try simp only [Bool.not_true, Bool.not_false]) | skip)
    by_cases c7 : a0_2.toList = ([] : List UInt8)
    ·
     rw [if_pos c7] at H; have c7b0 : (a0_2.toList == ([] : List UInt8)) = true := beq_iff_eq.mpr c7; have c7b1 : (a0_2.toList != ([] : List UInt8)) = false := bne_eq_false_iff_eq.mpr c7; have c7b2 : a0_2.toList.isEmpty = true := by simpa using c7
     clear c7; have H' := aM H; clear H; obtain ⟨hcz8_0, hcz8_1, hcz8_2, hfz8_0, hfz8_1, hfz8_2⟩ := cells3_ (w := w3) BK150
     go_wp2_with (first | ((with_reducible refine gC 28 rfl ?_); refine gL 6 Tryd.func28 #[.string a0_0] ?_; (with_reducible refine (impl_isRepo.calls k a0_0 true _ A4.out).mono ?_); rintro e w9 ⟨rfl, hb⟩; refine ⟨_, rfl, ?_⟩; replace BK150 := bG BK150 hb; replace HB := sB zq25 hb; clear hb; obtain ⟨hcz10_0, hcz10_1, hcz10_2, hfz10_0, hfz10_1, hfz10_2⟩ := cells3_ (w := w9) BK150))
     go_meet
     case rel => exact ⟨_, (false), zq5, H', ⟨zq11⟩, ⟨zq24⟩, ⟨zq25⟩⟩
    rw [if_neg c7] at H; have c7b0 : (a0_2.toList == ([] : List UInt8)) = false := beq_eq_false_iff_ne.mpr c7; have c7b1 : (a0_2.toList != ([] : List UInt8)) = true := bne_iff_ne.mpr c7; have c7b2 : a0_2.toList.isEmpty = false := by simpa using c7
    replace H := Option.bind_eq_some_iff.mp H; obtain ⟨t152, A110, H⟩ := H; (try dsimp only at H); have A11 := aM A110; clear A110; have H' := aM H; clear H; obtain ⟨hcz12_0, hcz12_1, hcz12_2, hfz12_0, hfz12_1, hfz12_2⟩ := cells3_ (w := w3) BK150
    go_wp2_with (first | ((with_reducible refine gC 28 rfl ?_); refine gL 6 Tryd.func28 #[.string a0_0] ?_; (with_reducible refine (impl_isRepo.calls k a0_0 true _ A4.out).mono ?_); rintro e w13 ⟨rfl, hb⟩; refine ⟨_, rfl, ?_⟩; replace BK150 := bG BK150 hb; replace HB := sB zq25 hb; clear hb; obtain ⟨hcz14_0, hcz14_1, hcz14_2, hfz14_0, hfz14_1, hfz14_2⟩ := cells3_ (w := w13) BK150) | (go_at_call 31; (with_reducible refine (impl_isDigest.calls a0_2 t152 _ A11.out).mono ?_); rintro e w15 ⟨rfl, hb⟩; replace BK150 := bG BK150 hb; replace HB := sB zq25 hb; clear hb))
    go_meet
    case rel => exact ⟨_, (!t152), zq5, H', ⟨zq11⟩, ⟨zq24⟩, ⟨zq25⟩⟩
   rw [if_neg c6] at H; have c6b0 : (a0_1.toList == ([] : List UInt8)) = false := beq_eq_false_iff_ne.mpr c6; have c6b1 : (a0_1.toList != ([] : List UInt8)) = true := bne_iff_ne.mpr c6; have c6b2 : a0_1.toList.isEmpty = false := by simpa using c6
   (first | rw [c6b0] | (simp only [i64_w, i32_w]; rw [c6b0]) | (rw [c6b2]; try simp only [Bool.not_true, Bool.not_false]) | skip)
   replace H := Option.bind_eq_some_iff.mp H; obtain ⟨t153, A160, H⟩ := H; (try dsimp only at H); have A16 := aM A160; clear A160; by_cases c17 : t153 = true
   ·
    subst c17; rw [if_pos rfl] at H; by_cases c18 : a0_2.toList = ([] : List UInt8)
    ·
     rw [if_pos c18] at H; have c18b0 : (a0_2.toList == ([] : List UInt8)) = true := beq_iff_eq.mpr c18; have c18b1 : (a0_2.toList != ([] : List UInt8)) = false := bne_eq_false_iff_eq.mpr c18; have c18b2 : a0_2.toList.isEmpty = true := by simpa using c18
     clear c18; have H' := aM H; clear H; obtain ⟨hcz19_0, hcz19_1, hcz19_2, hfz19_0, hfz19_1, hfz19_2⟩ := cells3_ (w := w3) BK150
     go_wp2_with (first | ((with_reducible refine gC 28 rfl ?_); refine gL 6 Tryd.func28 #[.string a0_0] ?_; (with_reducible refine (impl_isRepo.calls k a0_0 true _ A4.out).mono ?_); rintro e w20 ⟨rfl, hb⟩; refine ⟨_, rfl, ?_⟩; replace BK150 := bG BK150 hb; replace HB := sB zq25 hb; clear hb; obtain ⟨hcz21_0, hcz21_1, hcz21_2, hfz21_0, hfz21_1, hfz21_2⟩ := cells3_ (w := w20) BK150) | (go_at_call 30; (with_reducible refine (impl_isTag.calls k a0_1 true _ A16.out).mono ?_); rintro e w' ⟨rfl, ⟨nd, rfl⟩⟩))
     go_meet
     case rel => exact ⟨_, (false), zq5, H', ⟨zq11⟩, ⟨zq24⟩, ⟨zq25⟩⟩
    rw [if_neg c18] at H; have c18b0 : (a0_2.toList == ([] : List UInt8)) = false := beq_eq_false_iff_ne.mpr c18; have c18b1 : (a0_2.toList != ([] : List UInt8)) = true := bne_iff_ne.mpr c18; have c18b2 : a0_2.toList.isEmpty = false := by simpa using c18
    replace H := Option.bind_eq_some_iff.mp H; obtain ⟨t154, A220, H⟩ := H; (try dsimp only at H); have A22 := aM A220; clear A220; have H' := aM H; clear H; obtain ⟨hcz23_0, hcz23_1, hcz23_2, hfz23_0, hfz23_1, hfz23_2⟩ := cells3_ (w := w3) BK150
    go_wp2_with (first | ((with_reducible refine gC 28 rfl ?_); refine gL 6 Tryd.func28 #[.string a0_0] ?_; (with_reducible refine (impl_isRepo.calls k a0_0 true _ A4.out).mono ?_); rintro e w24 ⟨rfl, hb⟩; refine ⟨_, rfl, ?_⟩; replace BK150 := bG BK150 hb; replace HB := sB zq25 hb; clear hb; obtain ⟨hcz25_0, hcz25_1, hcz25_2, hfz25_0, hfz25_1, hfz25_2⟩ := cells3_ (w := w24) BK150) | (go_at_call 30; (with_reducible refine (impl_isTag.calls k a0_1 true _ A16.out).mono ?_); rintro e w' ⟨rfl, ⟨nd, rfl⟩⟩) | (go_at_call 31; (with_reducible refine (impl_isDigest.calls a0_2 t154 _ A22.out).mono ?_); rintro e w26 ⟨rfl, hb⟩; replace BK150 := bG BK150 hb; replace HB := sB zq25 hb; clear hb))
    go_meet
    case rel => exact ⟨_, (!t154), zq5, H', ⟨zq11⟩, ⟨zq24⟩, ⟨zq25⟩⟩
   replace c17 := Bool.eq_false_iff.mpr c17; subst c17; rw [if_neg (show ¬ (false = true) by decide)] at H; have H' := aM H; clear H; obtain ⟨hcz27_0, hcz27_1, hcz27_2, hfz27_0, hfz27_1, hfz27_2⟩ := cells3_ (w := w3) BK150
   go_wp2_with (first | ((with_reducible refine gC 28 rfl ?_); refine gL 6 Tryd.func28 #[.string a0_0] ?_; (with_reducible refine (impl_isRepo.calls k a0_0 true _ A4.out).mono ?_); rintro e w28 ⟨rfl, hb⟩; refine ⟨_, rfl, ?_⟩; replace BK150 := bG BK150 hb; replace HB := sB zq25 hb; clear hb; obtain ⟨hcz29_0, hcz29_1, hcz29_2, hfz29_0, hfz29_1, hfz29_2⟩ := cells3_ (w := w28) BK150) | (go_at_call 30; (with_reducible refine (impl_isTag.calls k a0_1 false _ A16.out).mono ?_); rintro e w' ⟨rfl, ⟨nd, rfl⟩⟩))
   go_meet
   case rel => exact ⟨_, (true), zq5, H', ⟨zq11⟩, ⟨zq24⟩, ⟨zq25⟩⟩
  replace c5 := Bool.eq_false_iff.mpr c5; subst c5; rw [if_neg (show ¬ (false = true) by decide)] at H; have H' := aM H; clear H; obtain ⟨hcz30_0, hcz30_1, hcz30_2, hfz30_0, hfz30_1, hfz30_2⟩ := cells3_ (w := w3) BK150
  go_wp2_with (first | ((with_reducible refine gC 28 rfl ?_); refine gL 6 Tryd.func28 #[.string a0_0] ?_; (with_reducible refine (impl_isRepo.calls k a0_0 false _ A4.out).mono ?_); rintro e w31 ⟨rfl, hb⟩; refine ⟨_, rfl, ?_⟩; replace BK150 := bG BK150 hb; replace HB := sB zq25 hb; clear hb))
  go_meet
  case rel => exact ⟨_, (true), zq5, H', ⟨zq11⟩, ⟨zq24⟩, ⟨zq25⟩⟩
 case rest =>
  clear HC2; (try clear c1); (try clear c2); (try clear p2); (try clear c5); (try clear c6); (try clear c6b0); (try clear c6b1); (try clear c6b2); (try clear c7); (try clear c7b0); (try clear c7b1); (try clear c7b2); (try clear c13); (try clear c17); (try clear c18); (try clear c18b0); (try clear c18b1); (try clear c18b2); (try clear c28); (try clear hcz10_0); (try clear hcz10_1); (try clear hcz10_2); (try clear hcz12_0); (try clear hcz12_1); (try clear hcz12_2); (try clear hcz14_0); (try clear hcz14_1); (try clear hcz14_2); (try clear hcz19_0); (try clear hcz19_1); (try clear hcz19_2); (try clear hcz21_0); (try clear hcz21_1); (try clear hcz21_2); (try clear hcz23_0); (try clear hcz23_1); (try clear hcz23_2); (try clear hcz25_0); (try clear hcz25_1); (try clear hcz25_2); (try clear hcz27_0); (try clear hcz27_1); (try clear hcz27_2); (try clear hcz29_0); (try clear hcz29_1); (try clear hcz29_2); (try clear hcz30_0); (try clear hcz30_1); (try clear hcz30_2); (try clear hcz8_0); (try clear hcz8_1); (try clear hcz8_2); (try clear hfz10_0); (try clear hfz10_1); (try clear hfz10_2); (try clear hfz12_0); (try clear hfz12_1); (try clear hfz12_2); (try clear hfz14_0); (try clear hfz14_1); (try clear hfz14_2); (try clear hfz19_0); (try clear hfz19_1); (try clear hfz19_2); (try clear hfz21_0); (try clear hfz21_1); (try clear hfz21_2); (try clear hfz23_0); (try clear hfz23_1); (try clear hfz23_2); (try clear hfz25_0); (try clear hfz25_1); (try clear hfz25_2); (try clear hfz27_0)
  (try clear hfz27_1); (try clear hfz27_2); (try clear hfz29_0); (try clear hfz29_1); (try clear hfz29_2); (try clear hfz30_0); (try clear hfz30_1); (try clear hfz30_2); (try clear hfz8_0); (try clear hfz8_1); (try clear hfz8_2); obtain ⟨kq, x29_1, rfl, HA, HJ1, BK150, HB⟩ := hcut
  cases kq with
  | zero => exact absurd HA.out (by simp [impl_WriteRef.j0])
  | succ kj1 =>
   have H := HA.out; clear HA; simp only [impl_WriteRef.j0] at H; by_cases c32 : x29_1 = true
   ·
    subst c32; rw [if_pos rfl] at H; obtain rfl := Option.some.inj H; go_wp2; go_ret; exact ⟨zq3, zq25⟩
   replace c32 := Bool.eq_false_iff.mpr c32; subst c32; rw [if_neg (show ¬ (false = true) by decide)] at H; by_cases c33 : a0_1.toList = ([] : List UInt8)
   ·
    rw [if_pos c33] at H; have c33b0 : (a0_1.toList == ([] : List UInt8)) = true := beq_iff_eq.mpr c33; have c33b1 : (a0_1.toList != ([] : List UInt8)) = false := bne_eq_false_iff_eq.mpr c33; have c33b2 : a0_1.toList.isEmpty = true := by simpa using c33
    clear c33; by_cases c34 : a0_2.toList = ([] : List UInt8)
    ·
     rw [if_pos c34] at H; have c34b0 : (a0_2.toList == ([] : List UInt8)) = true := beq_iff_eq.mpr c34; have c34b1 : (a0_2.toList != ([] : List UInt8)) = false := bne_eq_false_iff_eq.mpr c34; have c34b2 : a0_2.toList.isEmpty = true := by simpa using c34
     clear c34; obtain rfl := Option.some.inj H; obtain ⟨hcz35_0, hcz35_1, hcz35_2, hfz35_0, hfz35_1, hfz35_2⟩ := cells3_ (w := wc) BK150; go_wp2; go_ret; exact ⟨zq3, zq25⟩
    rw [if_neg c34] at H; have c34b0 : (a0_2.toList == ([] : List UInt8)) = false := beq_eq_false_iff_ne.mpr c34; have c34b1 : (a0_2.toList != ([] : List UInt8)) = true := bne_iff_ne.mpr c34; have c34b2 : a0_2.toList.isEmpty = false := by simpa using c34
    by_cases c36 : 1 + a0_2.size ≤ 9223372036854775807
    ·
     rw [if_pos c36] at H; have c36b0 := eq_true c36; have c36b1 := decide_eq_true c36
     try have c36b2 : (9223372036854775807 < 1 + a0_2.size) = False := eq_false (Nat.not_lt.2 c36)
     by_cases c37 : a0_0.size + 1 + a0_2.size ≤ 9223372036854775807
     ·
      rw [if_pos c37] at H; have c37b0 := eq_true c37; have c37b1 := decide_eq_true c37
      try have c37b2 : (9223372036854775807 < a0_0.size + 1 + a0_2.size) = False := eq_false (Nat.not_lt.2 c37)
      obtain rfl := Option.some.inj H; obtain ⟨hcz38_0, hcz38_1, hcz38_2, hfz38_0, hfz38_1, hfz38_2⟩ := cells3_ (w := wc) BK150; go_wp2; go_ret; exact ⟨zq3, zq25⟩
     rw [if_neg c37] at H; exact absurd H (by simp)
    rw [if_neg c36] at H; exact absurd H (by simp)
   rw [if_neg c33] at H; have c33b0 : (a0_1.toList == ([] : List UInt8)) = false := beq_eq_false_iff_ne.mpr c33; have c33b1 : (a0_1.toList != ([] : List UInt8)) = true := bne_iff_ne.mpr c33; have c33b2 : a0_1.toList.isEmpty = false := by simpa using c33
   by_cases c39 : 1 + a0_1.size ≤ 9223372036854775807
   ·
    rw [if_pos c39] at H; have c39b0 := eq_true c39; have c39b1 := decide_eq_true c39
    try have c39b2 : (9223372036854775807 < 1 + a0_1.size) = False := eq_false (Nat.not_lt.2 c39)
    by_cases c40 : a0_0.size + 1 + a0_1.size ≤ 9223372036854775807
    ·
     rw [if_pos c40] at H; have c40b0 := eq_true c40; have c40b1 := decide_eq_true c40
     try have c40b2 : (9223372036854775807 < a0_0.size + 1 + a0_1.size) = False := eq_false (Nat.not_lt.2 c40)
     by_cases c41 : a0_2.toList = ([] : List UInt8)
     ·
      rw [if_pos c41] at H; have c41b0 : (a0_2.toList == ([] : List UInt8)) = true := beq_iff_eq.mpr c41; have c41b1 : (a0_2.toList != ([] : List UInt8)) = false := bne_eq_false_iff_eq.mpr c41; have c41b2 : a0_2.toList.isEmpty = true := by simpa using c41
      clear c41; obtain rfl := Option.some.inj H; obtain ⟨hcz42_0, hcz42_1, hcz42_2, hfz42_0, hfz42_1, hfz42_2⟩ := cells3_ (w := wc) BK150; go_wp2; go_ret; exact ⟨zq3, zq25⟩
     rw [if_neg c41] at H; have c41b0 : (a0_2.toList == ([] : List UInt8)) = false := beq_eq_false_iff_ne.mpr c41; have c41b1 : (a0_2.toList != ([] : List UInt8)) = true := bne_iff_ne.mpr c41; have c41b2 : a0_2.toList.isEmpty = false := by simpa using c41
     by_cases c43 : 1 + a0_2.size ≤ 9223372036854775807
     ·
      rw [if_pos c43] at H; have c43b0 := eq_true c43; have c43b1 := decide_eq_true c43
      try have c43b2 : (9223372036854775807 < 1 + a0_2.size) = False := eq_false (Nat.not_lt.2 c43)
      by_cases c44 : a0_0.size + (1 + a0_1.size) + 1 + a0_2.size ≤ 9223372036854775807
      ·
       rw [if_pos c44] at H; have c44b0 := eq_true c44; have c44b1 := decide_eq_true c44
       try have c44b2 : (9223372036854775807 < a0_0.size + (1 + a0_1.size) + 1 + a0_2.size) = False := eq_false (Nat.not_lt.2 c44)
       obtain rfl := Option.some.inj H; obtain ⟨hcz45_0, hcz45_1, hcz45_2, hfz45_0, hfz45_1, hfz45_2⟩ := cells3_ (w := wc) BK150; go_wp2; go_ret; exact ⟨zq3, zq25⟩
      rw [if_neg c44] at H; exact absurd H (by simp)
     rw [if_neg c43] at H; exact absurd H (by simp)
    rw [if_neg c40] at H; exact absurd H (by simp)
   rw [if_neg c39] at H; exact absurd H (by simp)

/-! ### laws_FnExactWriteRef: function 4 -/
def laws_FnExactWriteRef.f (k : Nat) (a0_0 : ByteArray) (a0_1 : ByteArray) (a0_2 : ByteArray) : Option (Bool) := (laws_szRef.f a0_0 a0_1 a0_2 1048576).bind fun t156 => (if t156 < 0 then (some true) else ((laws_toRef.f a0_0 a0_1 a0_2).bind fun bt157 => ((spec_WriteRef.f k bt157.1 bt157.2.1 bt157.2.2).bind fun t160 => ((laws_toRef.f a0_0 a0_1 a0_2).bind fun bt161 => ((impl_WriteRef.f k bt161.1 bt161.2.1 bt161.2.2).bind fun t164 => (if t164.toList = t160.toList then (some true) else (some false)))))))
theorem laws_FnExactWriteRef.mono : ∀ a0 a1 a2 k, LeO (laws_FnExactWriteRef.f k a0 a1 a2) (laws_FnExactWriteRef.f (k + 1) a0 a1 a2) := by
 intro a0 a1 a2 k; unfold laws_FnExactWriteRef.f
 repeat' first
   | (with_reducible apply impl_WriteRef.mono)
   | (with_reducible apply spec_WriteRef.mono)
   | (with_reducible exact LeO.refl _)
   | (with_reducible exact LeO.none _)
   | (with_reducible refine LeO.ite ?_ ?_)
   | (with_reducible refine LeO.bind ?_ (fun _ => ?_))
   | exact LeO.none _
   | refine LeO.ite ?_ ?_
   | refine LeO.bind ?_ (fun _ => ?_)
set_option maxHeartbeats 8000000 in
set_option maxRecDepth 100000 in
theorem laws_FnExactWriteRef.calls (k : Nat) (a0_0 : ByteArray) (a0_1 : ByteArray) (a0_2 : ByteArray) (r : Bool) (w : World) (h : laws_FnExactWriteRef.f k a0_0 a0_1 a0_2 = some r) :
  Calls Tryd.prog 4 #[.agg #[.string a0_0, .string a0_1, .string a0_2]] w fun e w' => e = .returned (.bool r) ∧ Below w.heap.size w w' := by
 have hu24 := Tryd.underlying24; have HB := aM (Below.refl w.heap.size w); unfold laws_FnExactWriteRef.f at h; have H := h; clear h; replace H := Option.bind_eq_some_iff.mp H; obtain ⟨t156, A20, H⟩ := H; (try dsimp only at H); have A2 := aM A20; clear A20; by_cases c3 : t156 < 0
 ·
  rw [if_pos c3] at H; have c3b0 := decide_eq_true c3; clear c3; obtain rfl := Option.some.inj H; go_enter Tryd.func4, Tryd.ntmps4
  go_wp2_with (first | ((with_reducible refine gD 1 rfl ?_); refine bE 1 #[.string a0_0, .string a0_1, .string a0_2] 24 ?_; intro gb155 hg w4 hbox hb; have BK155 := aM hbox; have GW155 := aM (zq28 : w.heap.size ≤ gb155); have GE155 := GW155; replace HB := sB zq2 hb; clear hb hbox hg; obtain ⟨hcz5_0, hcz5_1, hcz5_2, hfz5_0, hfz5_1, hfz5_2⟩ := cells3_ (w := w4) BK155) | ((with_reducible refine gC 10 rfl ?_); refine gL 8 Tryd.func10 #[.agg #[.string a0_0, .string a0_1, .string a0_2], .int .i64 1048576] ?_; (with_reducible refine (laws_szRef.calls a0_0 a0_1 a0_2 1048576 t156 _ A2.out).mono ?_); rintro e w6 ⟨rfl, hb⟩; refine ⟨_, rfl, ?_⟩; replace BK155 := bG BK155 hb; replace HB := sB zq27 hb; clear hb))
  go_ret; exact ⟨zq3, zq27⟩
 rw [if_neg c3] at H; have c3b0 := decide_eq_false c3; clear c3; replace H := Option.bind_eq_some_iff.mp H; obtain ⟨⟨t157, t158, t159⟩, A70, H⟩ := H; (try dsimp only at H); have A7 := aM A70; clear A70; replace H := Option.bind_eq_some_iff.mp H; obtain ⟨t160, A80, H⟩ := H; (try dsimp only at H); have A8 := aM A80; clear A80; replace H := Option.bind_eq_some_iff.mp H; obtain ⟨⟨t161, t162, t163⟩, A90, H⟩ := H; (try dsimp only at H); have A9 := aM A90; clear A90; replace H := Option.bind_eq_some_iff.mp H; obtain ⟨t164, A100, H⟩ := H; (try dsimp only at H); have A10 := aM A100; clear A100; by_cases c11 : t164.toList = t160.toList
 ·
  rw [if_pos c11] at H; have c11b0 : (t164.toList == t160.toList) = true := beq_iff_eq.mpr c11; have c11b1 : (t164.toList != t160.toList) = false := bne_eq_false_iff_eq.mpr c11; clear c11; obtain rfl := Option.some.inj H; go_enter Tryd.func4, Tryd.ntmps4
  go_wp2_with (first | ((with_reducible refine gD 1 rfl ?_); refine bE 1 #[.string a0_0, .string a0_1, .string a0_2] 24 ?_; intro gb155 hg w12 hbox hb; have BK155 := aM hbox; have GW155 := aM (zq28 : w.heap.size ≤ gb155); have GE155 := GW155; replace HB := sB zq2 hb; clear hb hbox hg; obtain ⟨hcz13_0, hcz13_1, hcz13_2, hfz13_0, hfz13_1, hfz13_2⟩ := cells3_ (w := w12) BK155) | ((with_reducible refine gC 10 rfl ?_); refine gL 8 Tryd.func10 #[.agg #[.string a0_0, .string a0_1, .string a0_2], .int .i64 1048576] ?_; (with_reducible refine (laws_szRef.calls a0_0 a0_1 a0_2 1048576 t156 _ A2.out).mono ?_); rintro e w14 ⟨rfl, hb⟩; refine ⟨_, rfl, ?_⟩; replace BK155 := bG BK155 hb; replace HB := sB zq27 hb; clear hb; obtain ⟨hcz15_0, hcz15_1, hcz15_2, hfz15_0, hfz15_1, hfz15_2⟩ := cells3_ (w := w14) BK155) | ((with_reducible refine gC 12 rfl ?_); refine gL 12 Tryd.func12 #[.agg #[.string a0_0, .string a0_1, .string a0_2]] ?_; (with_reducible refine (laws_toRef.calls a0_0 a0_1 a0_2 t157 t158 t159 _ A7.out).mono ?_); rintro e w16 ⟨rfl, hb⟩; refine ⟨_, rfl, ?_⟩; replace BK155 := bG BK155 hb; replace HB := sB zq27 hb; clear hb) | ((with_reducible refine gC 11 rfl ?_); refine gL 13 Tryd.func11 #[.agg #[.string t157, .string t158, .string t159]] ?_; (with_reducible refine (spec_WriteRef.calls k t157 t158 t159 t160 _ A8.out).mono ?_); rintro e w17 ⟨rfl, hb⟩; refine ⟨_, rfl, ?_⟩; replace BK155 := bG BK155 hb; replace HB := sB zq27 hb; clear hb; obtain ⟨hcz18_0, hcz18_1, hcz18_2, hfz18_0, hfz18_1, hfz18_2⟩ := cells3_ (w := w17) BK155) | ((with_reducible refine gC 12 rfl ?_); refine gL 15 Tryd.func12 #[.agg #[.string a0_0, .string a0_1, .string a0_2]] ?_; (with_reducible refine (laws_toRef.calls a0_0 a0_1 a0_2 t161 t162 t163 _ A9.out).mono ?_); rintro e w19 ⟨rfl, hb⟩; refine ⟨_, rfl, ?_⟩; replace BK155 := bG BK155 hb; replace HB := sB zq27 hb; clear hb) | ((with_reducible refine gC 13 rfl ?_); refine gL 16 Tryd.func13 #[.agg #[.string t161, .string t162, .string t163]] ?_; (with_reducible refine (impl_WriteRef.calls k t161 t162 t163 t164 _ A10.out).mono ?_); rintro e w20 ⟨rfl, hb⟩; refine ⟨_, rfl, ?_⟩; replace BK155 := bG BK155 hb; replace HB := sB zq27 hb; clear hb))
  go_ret; exact ⟨zq3, zq27⟩
 rw [if_neg c11] at H; have c11b0 : (t164.toList == t160.toList) = false := beq_eq_false_iff_ne.mpr c11; have c11b1 : (t164.toList != t160.toList) = true := bne_iff_ne.mpr c11; obtain rfl := Option.some.inj H; go_enter Tryd.func4, Tryd.ntmps4
 go_wp2_with (first | ((with_reducible refine gD 1 rfl ?_); refine bE 1 #[.string a0_0, .string a0_1, .string a0_2] 24 ?_; intro gb155 hg w21 hbox hb; have BK155 := aM hbox; have GW155 := aM (zq28 : w.heap.size ≤ gb155); have GE155 := GW155; replace HB := sB zq2 hb; clear hb hbox hg; obtain ⟨hcz22_0, hcz22_1, hcz22_2, hfz22_0, hfz22_1, hfz22_2⟩ := cells3_ (w := w21) BK155) | ((with_reducible refine gC 10 rfl ?_); refine gL 8 Tryd.func10 #[.agg #[.string a0_0, .string a0_1, .string a0_2], .int .i64 1048576] ?_; (with_reducible refine (laws_szRef.calls a0_0 a0_1 a0_2 1048576 t156 _ A2.out).mono ?_); rintro e w23 ⟨rfl, hb⟩; refine ⟨_, rfl, ?_⟩; replace BK155 := bG BK155 hb; replace HB := sB zq27 hb; clear hb; obtain ⟨hcz24_0, hcz24_1, hcz24_2, hfz24_0, hfz24_1, hfz24_2⟩ := cells3_ (w := w23) BK155) | ((with_reducible refine gC 12 rfl ?_); refine gL 12 Tryd.func12 #[.agg #[.string a0_0, .string a0_1, .string a0_2]] ?_; (with_reducible refine (laws_toRef.calls a0_0 a0_1 a0_2 t157 t158 t159 _ A7.out).mono ?_); rintro e w25 ⟨rfl, hb⟩; refine ⟨_, rfl, ?_⟩; replace BK155 := bG BK155 hb; replace HB := sB zq27 hb; clear hb) | ((with_reducible refine gC 11 rfl ?_); refine gL 13 Tryd.func11 #[.agg #[.string t157, .string t158, .string t159]] ?_; (with_reducible refine (spec_WriteRef.calls k t157 t158 t159 t160 _ A8.out).mono ?_); rintro e w26 ⟨rfl, hb⟩; refine ⟨_, rfl, ?_⟩; replace BK155 := bG BK155 hb; replace HB := sB zq27 hb; clear hb; obtain ⟨hcz27_0, hcz27_1, hcz27_2, hfz27_0, hfz27_1, hfz27_2⟩ := cells3_ (w := w26) BK155) | ((with_reducible refine gC 12 rfl ?_); refine gL 15 Tryd.func12 #[.agg #[.string a0_0, .string a0_1, .string a0_2]] ?_; (with_reducible refine (laws_toRef.calls a0_0 a0_1 a0_2 t161 t162 t163 _ A9.out).mono ?_); rintro e w28 ⟨rfl, hb⟩; refine ⟨_, rfl, ?_⟩; replace BK155 := bG BK155 hb; replace HB := sB zq27 hb; clear hb) | ((with_reducible refine gC 13 rfl ?_); refine gL 16 Tryd.func13 #[.agg #[.string t161, .string t162, .string t163]] ?_; (with_reducible refine (impl_WriteRef.calls k t161 t162 t163 t164 _ A10.out).mono ?_); rintro e w29 ⟨rfl, hb⟩; refine ⟨_, rfl, ?_⟩; replace BK155 := bG BK155 hb; replace HB := sB zq27 hb; clear hb))
 go_ret; exact ⟨zq3, zq27⟩

/-- THE ONE PURE STATEMENT of laws_FnExactWriteRef. -/
def laws_FnExactWriteRef.Pure : Prop := ∀ (a0_0 : ByteArray) (a0_1 : ByteArray) (a0_2 : ByteArray), a0_0.size ≤ maxLen → a0_1.size ≤ maxLen → a0_2.size ≤ maxLen → ∃ k, laws_FnExactWriteRef.f k a0_0 a0_1 a0_2 = some true

end Go.Proofs.YtldpdaifajjaeaaDoor.QFnExactWriteRef
