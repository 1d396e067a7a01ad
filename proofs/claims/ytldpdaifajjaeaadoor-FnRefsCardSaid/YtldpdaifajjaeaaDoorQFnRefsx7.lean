/- Written by wip/myprint.py of this repo (the kit's print, with additions of this session). -/
import Derived.Test.YtldpdaifajjaeaaDoorQFnRefsx0
import Derived.Test.YtldpdaifajjaeaaDoorQFnRefsx2
import Derived.Test.YtldpdaifajjaeaaDoorQFnRefsx6
set_option maxRecDepth 100000
namespace Go.Proofs.YtldpdaifajjaeaaDoor.QFnRefs
open Go.RowKit Go.Proofs.YtldpdaifajjaeaaDoorW.PrintWords Go.Proofs.YtldpdaifajjaeaaDoorW.PrintLast Go.Proofs.YtldpdaifajjaeaaDoorW.PrintMore
attribute [local go_sem] max2_int min2_int max_two min_two max_three min_three max_four min_four   -- for this text's walks alone
set_option linter.unusedVariables false
set_option linter.unusedSimpArgs false

/-! ### impl_WriteRef: function 13 -/
def impl_WriteRef.j0 : Nat → Bool → ByteArray → ByteArray → ByteArray → Option (ByteArray)
 | 0, _, _, _, _ => none
 | k + 1, x29, x148000, x148001, x148002 => if x29 = true then (some (⟨#[]⟩ : ByteArray)) else (if x148001.toList = ([] : List UInt8) then (if x148002.toList = ([] : List UInt8) then (some x148000) else (if 1 + x148002.size ≤ 9223372036854775807 then (if x148000.size + 1 + x148002.size ≤ 9223372036854775807 then (some (x148000 ++ ((⟨#[64]⟩ : ByteArray) ++ x148002))) else (none)) else (none))) else (if 1 + x148001.size ≤ 9223372036854775807 then (if x148000.size + 1 + x148001.size ≤ 9223372036854775807 then (if x148002.toList = ([] : List UInt8) then (some (x148000 ++ ((⟨#[58]⟩ : ByteArray) ++ x148001))) else (if 1 + x148002.size ≤ 9223372036854775807 then (if x148000.size + (1 + x148001.size) + 1 + x148002.size ≤ 9223372036854775807 then (some ((x148000 ++ ((⟨#[58]⟩ : ByteArray) ++ x148001)) ++ ((⟨#[64]⟩ : ByteArray) ++ x148002))) else (none)) else (none))) else (none)) else (none)))
def impl_WriteRef.f (k : Nat) (a0_0 : ByteArray) (a0_1 : ByteArray) (a0_2 : ByteArray) : Option (ByteArray) := (impl_isRepo.f k a0_0).bind fun t148 => (if t148 = true then (if a0_1.toList = ([] : List UInt8) then (if a0_2.toList = ([] : List UInt8) then (impl_WriteRef.j0 k false a0_0 a0_1 a0_2) else ((impl_isDigest.f a0_2).bind fun t149 => (impl_WriteRef.j0 k (!t149) a0_0 a0_1 a0_2))) else ((impl_isTag.f k a0_1).bind fun t150 => (if t150 = true then (if a0_2.toList = ([] : List UInt8) then (impl_WriteRef.j0 k false a0_0 a0_1 a0_2) else ((impl_isDigest.f a0_2).bind fun t151 => (impl_WriteRef.j0 k (!t151) a0_0 a0_1 a0_2))) else (impl_WriteRef.j0 k true a0_0 a0_1 a0_2)))) else (impl_WriteRef.j0 k true a0_0 a0_1 a0_2))
theorem impl_WriteRef.mono_l : ∀ k, (∀ y0 y1 y2 y3, LeO (impl_WriteRef.j0 k y0 y1 y2 y3) (impl_WriteRef.j0 (k + 1) y0 y1 y2 y3))
 | 0 => fun _ _ _ _ r h => by simp [impl_WriteRef.j0] at h
 | k + 1 => by
  have ih0 := impl_WriteRef.mono_l k
  ·
   intro y0 y1 y2 y3; unfold impl_WriteRef.j0
   repeat' first
   | (with_reducible apply ih0)
   | (with_reducible apply impl_isRepo.mono)
   | (with_reducible apply impl_isTag.mono)
   | (with_reducible exact LeO.refl _)
   | (with_reducible exact LeO.none _)
   | (with_reducible refine LeO.ite ?_ ?_)
   | (with_reducible refine LeO.bind ?_ (fun _ => ?_))
   | exact LeO.none _
   | refine LeO.ite ?_ ?_
   | refine LeO.bind ?_ (fun _ => ?_)
theorem impl_WriteRef.mono : ∀ a0 a1 a2 k, LeO (impl_WriteRef.f k a0 a1 a2) (impl_WriteRef.f (k + 1) a0 a1 a2) := by
 intro a0 a1 a2 k; have ih0 := impl_WriteRef.mono_l k; unfold impl_WriteRef.f
 repeat' first
   | (with_reducible apply ih0)
   | (with_reducible apply impl_isRepo.mono)
   | (with_reducible apply impl_isTag.mono)
   | (with_reducible exact LeO.refl _)
   | (with_reducible exact LeO.none _)
   | (with_reducible refine LeO.ite ?_ ?_)
   | (with_reducible refine LeO.bind ?_ (fun _ => ?_))
   | exact LeO.none _
   | refine LeO.ite ?_ ?_
   | refine LeO.bind ?_ (fun _ => ?_)
set_option maxHeartbeats 8000000 in
set_option maxRecDepth 100000 in
theorem impl_WriteRef.calls (k : Nat) (a0_0 : ByteArray) (a0_1 : ByteArray) (a0_2 : ByteArray) (r : ByteArray) (w : World) (h : impl_WriteRef.f k a0_0 a0_1 a0_2 = some r) :
  Calls Tryd.prog 13 #[.agg #[.string a0_0, .string a0_1, .string a0_2]] w fun e w' => e = .returned (.string r) ∧ Below w.heap.size w w' := by
 have hu27 := Tryd.underlying27; have HB := aM (Below.refl w.heap.size w); unfold impl_WriteRef.f at h; have H := h; clear h; have HC2 := aM H; clear H; go_enter Tryd.func13, Tryd.ntmps13
 go_upto_region 1 with (first | ((with_reducible refine gD 1 rfl ?_); refine bE 1 #[.string a0_0, .string a0_1, .string a0_2] 27 ?_; intro gb147 hg w3 hbox hb; have BK147 := aM hbox; have GW147 := aM (zq97 : w.heap.size ≤ gb147); have GE147 := GW147; replace HB := sB zq2 hb; clear hb hbox hg))
 (try simp only [Act.put, List.setIfInBounds_toArray, List.set_cons_zero, List.set_cons_succ])
 go_cut [29] (fun v29 wc => ∃ (kq : Nat) (x29_1 : Bool), v29 = .bool x29_1 ∧ Aside0 (impl_WriteRef.j0 kq x29_1 a0_0 a0_1 a0_2 = some r) ∧ Aside0 (kq ≤ k) ∧ Aside0 (wc.heap[gb147]? = some (.cells #[.string a0_0, .string a0_1, .string a0_2] 27 (0, 0))) ∧ Aside0 (Below w.heap.size w wc))
 case first =>
  have H := HC2.out; clear HC2; replace H := Option.bind_eq_some_iff.mp H; obtain ⟨t148, A40, H⟩ := H; (try dsimp only at H); have A4 := aM A40; clear A40; by_cases c5 : t148 = true
  ·
   subst c5; rw [if_pos rfl] at H; by_cases c6 : a0_1.toList = ([] : List UInt8)
   ·
    rw [if_pos c6] at H; have c6b0 : (a0_1.toList == ([] : List UInt8)) = true := beq_iff_eq.mpr c6; have c6b1 : (a0_1.toList != ([] : List UInt8)) = false := bne_eq_false_iff_eq.mpr c6; have c6b2 : a0_1.toList.isEmpty = true := by simpa using c6
    clear c6
    (first | rw [c6b0] | (simp only [i64_w, i32_w]; rw [c6b0]) | (rw [c6b2]; try simp only [Bool.not_true, Bool.not_false]) | skip)
    by_cases c7 : a0_2.toList = ([] : List UInt8)
    ·
     rw [if_pos c7] at H; have c7b0 : (a0_2.toList == ([] : List UInt8)) = true := beq_iff_eq.mpr c7; have c7b1 : (a0_2.toList != ([] : List UInt8)) = false := bne_eq_false_iff_eq.mpr c7; have c7b2 : a0_2.toList.isEmpty = true := by simpa using c7
     clear c7; have H' := aM H; clear H; obtain ⟨hcz8_0, hcz8_1, hcz8_2, hfz8_0, hfz8_1, hfz8_2⟩ := cells3_ (w := w3) BK147
     go_wp2_with (first | ((with_reducible refine gC 28 rfl ?_); refine gL 6 Tryd.func28 #[.string a0_0] ?_; (with_reducible refine (impl_isRepo.calls k a0_0 true _ A4.out).mono ?_); rintro e w9 ⟨rfl, hb⟩; refine ⟨_, rfl, ?_⟩; replace BK147 := bG BK147 hb; replace HB := sB zq85 hb; clear hb; obtain ⟨hcz10_0, hcz10_1, hcz10_2, hfz10_0, hfz10_1, hfz10_2⟩ := cells3_ (w := w9) BK147))
     go_meet
     case rel => exact ⟨_, (false), zq6, H', ⟨zq7⟩, ⟨zq84⟩, ⟨zq85⟩⟩
    rw [if_neg c7] at H; have c7b0 : (a0_2.toList == ([] : List UInt8)) = false := beq_eq_false_iff_ne.mpr c7; have c7b1 : (a0_2.toList != ([] : List UInt8)) = true := bne_iff_ne.mpr c7; have c7b2 : a0_2.toList.isEmpty = false := by simpa using c7
    replace H := Option.bind_eq_some_iff.mp H; obtain ⟨t149, A110, H⟩ := H; (try dsimp only at H); have A11 := aM A110; clear A110; have H' := aM H; clear H; obtain ⟨hcz12_0, hcz12_1, hcz12_2, hfz12_0, hfz12_1, hfz12_2⟩ := cells3_ (w := w3) BK147
    go_wp2_with (first | ((with_reducible refine gC 28 rfl ?_); refine gL 6 Tryd.func28 #[.string a0_0] ?_; (with_reducible refine (impl_isRepo.calls k a0_0 true _ A4.out).mono ?_); rintro e w13 ⟨rfl, hb⟩; refine ⟨_, rfl, ?_⟩; replace BK147 := bG BK147 hb; replace HB := sB zq85 hb; clear hb; obtain ⟨hcz14_0, hcz14_1, hcz14_2, hfz14_0, hfz14_1, hfz14_2⟩ := cells3_ (w := w13) BK147) | (go_at_call 31; (with_reducible refine (impl_isDigest.calls a0_2 t149 _ A11.out).mono ?_); rintro e w15 ⟨rfl, hb⟩; replace BK147 := bG BK147 hb; replace HB := sB zq85 hb; clear hb))
    go_meet
    case rel => exact ⟨_, (!t149), zq6, H', ⟨zq7⟩, ⟨zq84⟩, ⟨zq85⟩⟩
   rw [if_neg c6] at H; have c6b0 : (a0_1.toList == ([] : List UInt8)) = false := beq_eq_false_iff_ne.mpr c6; have c6b1 : (a0_1.toList != ([] : List UInt8)) = true := bne_iff_ne.mpr c6; have c6b2 : a0_1.toList.isEmpty = false := by simpa using c6
   (first | rw [c6b0] | (simp only [i64_w, i32_w]; rw [c6b0]) | (rw [c6b2]; try simp only [Bool.not_true, Bool.not_false]) | skip)
   replace H := Option.bind_eq_some_iff.mp H; obtain ⟨t150, A160, H⟩ := H; (try dsimp only at H); have A16 := aM A160; clear A160; by_cases c17 : t150 = true
   ·
    subst c17; rw [if_pos rfl] at H; by_cases c18 : a0_2.toList = ([] : List UInt8)
    ·
     rw [if_pos c18] at H; have c18b0 : (a0_2.toList == ([] : List UInt8)) = true := beq_iff_eq.mpr c18; have c18b1 : (a0_2.toList != ([] : List UInt8)) = false := bne_eq_false_iff_eq.mpr c18; have c18b2 : a0_2.toList.isEmpty = true := by simpa using c18
     clear c18; have H' := aM H; clear H; obtain ⟨hcz19_0, hcz19_1, hcz19_2, hfz19_0, hfz19_1, hfz19_2⟩ := cells3_ (w := w3) BK147
     go_wp2_with (first | ((with_reducible refine gC 28 rfl ?_); refine gL 6 Tryd.func28 #[.string a0_0] ?_; (with_reducible refine (impl_isRepo.calls k a0_0 true _ A4.out).mono ?_); rintro e w20 ⟨rfl, hb⟩; refine ⟨_, rfl, ?_⟩; replace BK147 := bG BK147 hb; replace HB := sB zq85 hb; clear hb; obtain ⟨hcz21_0, hcz21_1, hcz21_2, hfz21_0, hfz21_1, hfz21_2⟩ := cells3_ (w := w20) BK147) | (go_at_call 30; (with_reducible refine (impl_isTag.calls k a0_1 true _ A16.out).mono ?_); rintro e w' ⟨rfl, ⟨nd, rfl⟩⟩))
     go_meet
     case rel => exact ⟨_, (false), zq6, H', ⟨zq7⟩, ⟨zq84⟩, ⟨zq85⟩⟩
    rw [if_neg c18] at H; have c18b0 : (a0_2.toList == ([] : List UInt8)) = false := beq_eq_false_iff_ne.mpr c18; have c18b1 : (a0_2.toList != ([] : List UInt8)) = true := bne_iff_ne.mpr c18; have c18b2 : a0_2.toList.isEmpty = false := by simpa using c18
    replace H := Option.bind_eq_some_iff.mp H; obtain ⟨t151, A220, H⟩ := H; (try dsimp only at H); have A22 := aM A220; clear A220; have H' := aM H; clear H; obtain ⟨hcz23_0, hcz23_1, hcz23_2, hfz23_0, hfz23_1, hfz23_2⟩ := cells3_ (w := w3) BK147
    go_wp2_with (first | ((with_reducible refine gC 28 rfl ?_); refine gL 6 Tryd.func28 #[.string a0_0] ?_; (with_reducible refine (impl_isRepo.calls k a0_0 true _ A4.out).mono ?_); rintro e w24 ⟨rfl, hb⟩; refine ⟨_, rfl, ?_⟩; replace BK147 := bG BK147 hb; replace HB := sB zq85 hb; clear hb; obtain ⟨hcz25_0, hcz25_1, hcz25_2, hfz25_0, hfz25_1, hfz25_2⟩ := cells3_ (w := w24) BK147) | (go_at_call 30; (with_reducible refine (impl_isTag.calls k a0_1 true _ A16.out).mono ?_); rintro e w' ⟨rfl, ⟨nd, rfl⟩⟩) | (go_at_call 31; (with_reducible refine (impl_isDigest.calls a0_2 t151 _ A22.out).mono ?_); rintro e w26 ⟨rfl, hb⟩; replace BK147 := bG BK147 hb; replace HB := sB zq85 hb; clear hb))
    go_meet
    case rel => exact ⟨_, (!t151), zq6, H', ⟨zq7⟩, ⟨zq84⟩, ⟨zq85⟩⟩
   replace c17 := Bool.eq_false_iff.mpr c17; subst c17; rw [if_neg (show ¬ (false = true) by decide)] at H; have H' := aM H; clear H; obtain ⟨hcz27_0, hcz27_1, hcz27_2, hfz27_0, hfz27_1, hfz27_2⟩ := cells3_ (w := w3) BK147
   go_wp2_with (first | ((with_reducible refine gC 28 rfl ?_); refine gL 6 Tryd.func28 #[.string a0_0] ?_; (with_reducible refine (impl_isRepo.calls k a0_0 true _ A4.out).mono ?_); rintro e w28 ⟨rfl, hb⟩; refine ⟨_, rfl, ?_⟩; replace BK147 := bG BK147 hb; replace HB := sB zq85 hb; clear hb; obtain ⟨hcz29_0, hcz29_1, hcz29_2, hfz29_0, hfz29_1, hfz29_2⟩ := cells3_ (w := w28) BK147) | (go_at_call 30; (with_reducible refine (impl_isTag.calls k a0_1 false _ A16.out).mono ?_); rintro e w' ⟨rfl, ⟨nd, rfl⟩⟩))
   go_meet
   case rel => exact ⟨_, (true), zq6, H', ⟨zq7⟩, ⟨zq84⟩, ⟨zq85⟩⟩
  replace c5 := Bool.eq_false_iff.mpr c5; subst c5; rw [if_neg (show ¬ (false = true) by decide)] at H; have H' := aM H; clear H; obtain ⟨hcz30_0, hcz30_1, hcz30_2, hfz30_0, hfz30_1, hfz30_2⟩ := cells3_ (w := w3) BK147
  go_wp2_with (first | ((with_reducible refine gC 28 rfl ?_); refine gL 6 Tryd.func28 #[.string a0_0] ?_; (with_reducible refine (impl_isRepo.calls k a0_0 false _ A4.out).mono ?_); rintro e w31 ⟨rfl, hb⟩; refine ⟨_, rfl, ?_⟩; replace BK147 := bG BK147 hb; replace HB := sB zq85 hb; clear hb))
  go_meet
  case rel => exact ⟨_, (true), zq6, H', ⟨zq7⟩, ⟨zq84⟩, ⟨zq85⟩⟩
 case rest =>
  clear HC2; (try clear c1); (try clear c2); (try clear p2); (try clear c5); (try clear c6); (try clear c6b0); (try clear c6b1); (try clear c6b2); (try clear c7); (try clear c7b0); (try clear c7b1); (try clear c7b2); (try clear c13); (try clear c17); (try clear c18); (try clear c18b0); (try clear c18b1); (try clear c18b2); (try clear c28); (try clear hcz10_0); (try clear hcz10_1); (try clear hcz10_2); (try clear hcz12_0); (try clear hcz12_1); (try clear hcz12_2); (try clear hcz14_0); (try clear hcz14_1); (try clear hcz14_2); (try clear hcz19_0); (try clear hcz19_1); (try clear hcz19_2); (try clear hcz21_0); (try clear hcz21_1); (try clear hcz21_2); (try clear hcz23_0); (try clear hcz23_1); (try clear hcz23_2); (try clear hcz25_0); (try clear hcz25_1); (try clear hcz25_2); (try clear hcz27_0); (try clear hcz27_1); (try clear hcz27_2); (try clear hcz29_0); (try clear hcz29_1); (try clear hcz29_2); (try clear hcz30_0); (try clear hcz30_1); (try clear hcz30_2); (try clear hcz8_0); (try clear hcz8_1); (try clear hcz8_2); (try clear hfz10_0); (try clear hfz10_1); (try clear hfz10_2); (try clear hfz12_0); (try clear hfz12_1); (try clear hfz12_2); (try clear hfz14_0); (try clear hfz14_1); (try clear hfz14_2); (try clear hfz19_0); (try clear hfz19_1); (try clear hfz19_2); (try clear hfz21_0); (try clear hfz21_1); (try clear hfz21_2); (try clear hfz23_0); (try clear hfz23_1); (try clear hfz23_2); (try clear hfz25_0); (try clear hfz25_1); (try clear hfz25_2); (try clear hfz27_0)
  (try clear hfz27_1); (try clear hfz27_2); (try clear hfz29_0); (try clear hfz29_1); (try clear hfz29_2); (try clear hfz30_0); (try clear hfz30_1); (try clear hfz30_2); (try clear hfz8_0); (try clear hfz8_1); (try clear hfz8_2); obtain ⟨kq, x29_1, rfl, HA, HJ1, BK147, HB⟩ := hcut
  cases kq with
  | zero => exact absurd HA.out (by simp [impl_WriteRef.j0])
  | succ kj1 =>
   have H := HA.out; clear HA; simp only [impl_WriteRef.j0] at H; by_cases c32 : x29_1 = true
   ·
    subst c32; rw [if_pos rfl] at H; obtain rfl := Option.some.inj H; go_wp2; go_ret; exact ⟨zq19, zq85⟩
   replace c32 := Bool.eq_false_iff.mpr c32; subst c32; rw [if_neg (show ¬ (false = true) by decide)] at H; by_cases c33 : a0_1.toList = ([] : List UInt8)
   ·
    rw [if_pos c33] at H; have c33b0 : (a0_1.toList == ([] : List UInt8)) = true := beq_iff_eq.mpr c33; have c33b1 : (a0_1.toList != ([] : List UInt8)) = false := bne_eq_false_iff_eq.mpr c33; have c33b2 : a0_1.toList.isEmpty = true := by simpa using c33
    clear c33; by_cases c34 : a0_2.toList = ([] : List UInt8)
    ·
     rw [if_pos c34] at H; have c34b0 : (a0_2.toList == ([] : List UInt8)) = true := beq_iff_eq.mpr c34; have c34b1 : (a0_2.toList != ([] : List UInt8)) = false := bne_eq_false_iff_eq.mpr c34; have c34b2 : a0_2.toList.isEmpty = true := by simpa using c34
     clear c34; obtain rfl := Option.some.inj H; obtain ⟨hcz35_0, hcz35_1, hcz35_2, hfz35_0, hfz35_1, hfz35_2⟩ := cells3_ (w := wc) BK147; go_wp2; go_ret; exact ⟨zq19, zq85⟩
    rw [if_neg c34] at H; have c34b0 : (a0_2.toList == ([] : List UInt8)) = false := beq_eq_false_iff_ne.mpr c34; have c34b1 : (a0_2.toList != ([] : List UInt8)) = true := bne_iff_ne.mpr c34; have c34b2 : a0_2.toList.isEmpty = false := by simpa using c34
    by_cases c36 : 1 + a0_2.size ≤ 9223372036854775807
    ·
     rw [if_pos c36] at H; have c36b0 := eq_true c36; have c36b1 := decide_eq_true c36
     try have c36b2 : (9223372036854775807 < 1 + a0_2.size) = False := eq_false (Nat.not_lt.2 c36)
     by_cases c37 : a0_0.size + 1 + a0_2.size ≤ 9223372036854775807
     ·
      rw [if_pos c37] at H; have c37b0 := eq_true c37; have c37b1 := decide_eq_true c37
      try have c37b2 : (9223372036854775807 < a0_0.size + 1 + a0_2.size) = False := eq_false (Nat.not_lt.2 c37)
      obtain rfl := Option.some.inj H; obtain ⟨hcz38_0, hcz38_1, hcz38_2, hfz38_0, hfz38_1, hfz38_2⟩ := cells3_ (w := wc) BK147; go_wp2; go_ret; exact ⟨zq19, zq85⟩
     rw [if_neg c37] at H; exact absurd H (by simp)
    rw [if_neg c36] at H; exact absurd H (by simp)
   rw [if_neg c33] at H; have c33b0 : (a0_1.toList == ([] : List UInt8)) = false := beq_eq_false_iff_ne.mpr c33; have c33b1 : (a0_1.toList != ([] : List UInt8)) = true := bne_iff_ne.mpr c33; have c33b2 : a0_1.toList.isEmpty = false := by simpa using c33
   by_cases c39 : 1 + a0_1.size ≤ 9223372036854775807
   ·
    rw [if_pos c39] at H; have c39b0 := eq_true c39; have c39b1 := decide_eq_true c39
    try have c39b2 : (9223372036854775807 < 1 + a0_1.size) = False := eq_false (Nat.not_lt.2 c39)
    by_cases c40 : a0_0.size + 1 + a0_1.size ≤ 9223372036854775807
    ·
     rw [if_pos c40] at H; have c40b0 := eq_true c40; have c40b1 := decide_eq_true c40
     try have c40b2 : (9223372036854775807 < a0_0.size + 1 + a0_1.size) = False := eq_false (Nat.not_lt.2 c40)
     by_cases c41 : a0_2.toList = ([] : List UInt8)
     ·
      rw [if_pos c41] at H; have c41b0 : (a0_2.toList == ([] : List UInt8)) = true := beq_iff_eq.mpr c41; have c41b1 : (a0_2.toList != ([] : List UInt8)) = false := bne_eq_false_iff_eq.mpr c41; have c41b2 : a0_2.toList.isEmpty = true := by simpa using c41
      clear c41; obtain rfl := Option.some.inj H; obtain ⟨hcz42_0, hcz42_1, hcz42_2, hfz42_0, hfz42_1, hfz42_2⟩ := cells3_ (w := wc) BK147; go_wp2; go_ret; exact ⟨zq19, zq85⟩
     rw [if_neg c41] at H; have c41b0 : (a0_2.toList == ([] : List UInt8)) = false := beq_eq_false_iff_ne.mpr c41; have c41b1 : (a0_2.toList != ([] : List UInt8)) = true := bne_iff_ne.mpr c41; have c41b2 : a0_2.toList.isEmpty = false := by simpa using c41
     by_cases c43 : 1 + a0_2.size ≤ 9223372036854775807
     ·
      rw [if_pos c43] at H; have c43b0 := eq_true c43; have c43b1 := decide_eq_true c43
      try have c43b2 : (9223372036854775807 < 1 + a0_2.size) = False := eq_false (Nat.not_lt.2 c43)
      by_cases c44 : a0_0.size + (1 + a0_1.size) + 1 + a0_2.size ≤ 9223372036854775807
      ·
       rw [if_pos c44] at H; have c44b0 := eq_true c44; have c44b1 := decide_eq_true c44
       try have c44b2 : (9223372036854775807 < a0_0.size + (1 + a0_1.size) + 1 + a0_2.size) = False := eq_false (Nat.not_lt.2 c44)
       obtain rfl := Option.some.inj H; obtain ⟨hcz45_0, hcz45_1, hcz45_2, hfz45_0, hfz45_1, hfz45_2⟩ := cells3_ (w := wc) BK147; go_wp2; go_ret; exact ⟨zq19, zq85⟩
      rw [if_neg c44] at H; exact absurd H (by simp)
     rw [if_neg c43] at H; exact absurd H (by simp)
    rw [if_neg c40] at H; exact absurd H (by simp)
   rw [if_neg c39] at H; exact absurd H (by simp)

/-! ### spec_l3Find: function 32 -/
def spec_l3Find.l0 : Nat → ByteArray → Int → Int → Int → Option (Int)
 | 0, _, _, _, _ => none
 | k + 1, x0, x1, x2, x7 => if x7 < (x0.size : Int) then (if 0 ≤ x7 then (if (bt x0 x7) = x1 then (some x7) else (if (bt x0 x7) = x2 then (some x7) else (spec_l3Find.l0 k x0 x1 x2 (wrap64 (x7 + 1))))) else (none)) else (some (x0.size : Int))
def spec_l3Find.f (k : Nat) (a0 : ByteArray) (a1 : Int) (a2 : Int) : Option (Int) := spec_l3Find.l0 k a0 a1 a2 0
theorem spec_l3Find.mono_l : ∀ k, (∀ y0 y1 y2 y3, LeO (spec_l3Find.l0 k y0 y1 y2 y3) (spec_l3Find.l0 (k + 1) y0 y1 y2 y3))
 | 0 => fun _ _ _ _ r h => by simp [spec_l3Find.l0] at h
 | k + 1 => by
  have ih0 := spec_l3Find.mono_l k
  ·
   intro y0 y1 y2 y3; unfold spec_l3Find.l0
   repeat' first
   | (with_reducible apply ih0)
   | (with_reducible exact LeO.refl _)
   | (with_reducible exact LeO.none _)
   | (with_reducible refine LeO.ite ?_ ?_)
   | (with_reducible refine LeO.bind ?_ (fun _ => ?_))
   | exact LeO.none _
   | refine LeO.ite ?_ ?_
   | refine LeO.bind ?_ (fun _ => ?_)
theorem spec_l3Find.mono : ∀ a0 a1 a2 k, LeO (spec_l3Find.f k a0 a1 a2) (spec_l3Find.f (k + 1) a0 a1 a2) := by
 intro a0 a1 a2 k; have ih0 := spec_l3Find.mono_l k; unfold spec_l3Find.f
 repeat' first
   | (with_reducible apply ih0)
   | (with_reducible exact LeO.refl _)
   | (with_reducible exact LeO.none _)
   | (with_reducible refine LeO.ite ?_ ?_)
   | (with_reducible refine LeO.bind ?_ (fun _ => ?_))
   | exact LeO.none _
   | refine LeO.ite ?_ ?_
   | refine LeO.bind ?_ (fun _ => ?_)
set_option maxHeartbeats 8000000 in
set_option maxRecDepth 100000 in
theorem spec_l3Find.calls (k : Nat) (a0 : ByteArray) (a1 : Int) (a2 : Int) (r : Int) (w : World) (h : spec_l3Find.f k a0 a1 a2 = some r) :
  Calls Tryd.prog 32 #[.string a0, .int .u8 a1, .int .u8 a2] w fun e w' => e = .returned (.int .i64 r) ∧ Drawn0 w w' := by
 have H : (spec_l3Find.l0 k a0 a1 a2 0) = some r := h; clear h; have H' := aM H; clear H; go_enter Tryd.func32, Tryd.ntmps32; go_wp2
 go_loopg [7] k (fun kq v7 w' => ∃ (x7_1 : Int), v7 = .int .i64 x7_1 ∧ Aside0 (spec_l3Find.l0 kq a0 a1 a2 x7_1 = some r) ∧ Aside0 (kq ≤ k) ∧ Drawn0 w w')
 case atStart => exact ⟨(0), zq6, H', ⟨Nat.le_refl _⟩, zq20⟩
 case round =>
  clear H'; (try clear p2); (try clear c3); obtain ⟨x7_1, rfl, HA, HK1, ⟨m1, rfl⟩⟩ := hrel
  cases gk with
  | zero => exact absurd HA.out (by simp [spec_l3Find.l0])
  | succ k1 =>
   have H := HA.out; clear HA; simp only [spec_l3Find.l0] at H; by_cases c4 : x7_1 < (a0.size : Int)
   ·
    rw [if_pos c4] at H; have c4b0 := decide_eq_true c4; clear c4; by_cases c5 : 0 ≤ x7_1
    ·
     rw [if_pos c5] at H; have c5b0 := decide_eq_true c5; clear c5; by_cases c7 : (bt a0 x7_1) = a1
     ·
      rw [if_pos c7] at H; have c7b0 : ((bt a0 x7_1) == a1) = true := beq_iff_eq.mpr c7; have c7b1 : ((bt a0 x7_1) != a1) = false := bne_eq_false_iff_eq.mpr c7; clear c7; obtain rfl := Option.some.inj H; have p6 : 0 ≤ (x7_1 : Int) := of_decide_eq_true zq11; have q6 : x7_1 < (a0.size : Int) := of_decide_eq_true zq11; have hx6 := bt_at a0 x7_1; replace p6 := eq_true p6; replace q6 := eq_true q6; go_wp2; go_ret; exact ⟨zq6, zq20⟩
     rw [if_neg c7] at H; have c7b0 : ((bt a0 x7_1) == a1) = false := beq_eq_false_iff_ne.mpr c7; have c7b1 : ((bt a0 x7_1) != a1) = true := bne_iff_ne.mpr c7; by_cases c9 : (bt a0 x7_1) = a2
     ·
      rw [if_pos c9] at H; have c9b0 : ((bt a0 x7_1) == a2) = true := beq_iff_eq.mpr c9; have c9b1 : ((bt a0 x7_1) != a2) = false := bne_eq_false_iff_eq.mpr c9; clear c9; obtain rfl := Option.some.inj H; have p6 : 0 ≤ (x7_1 : Int) := of_decide_eq_true zq11; have q6 : x7_1 < (a0.size : Int) := of_decide_eq_true zq11; have hx6 := bt_at a0 x7_1; replace p6 := eq_true p6; replace q6 := eq_true q6; have p8 : 0 ≤ (x7_1 : Int) := of_decide_eq_true zq11; have q8 : x7_1 < (a0.size : Int) := of_decide_eq_true zq11; have hx8 := bt_at a0 x7_1; replace p8 := eq_true p8; replace q8 := eq_true q8; go_wp2; go_ret; exact ⟨zq6, zq20⟩
     rw [if_neg c9] at H; have c9b0 : ((bt a0 x7_1) == a2) = false := beq_eq_false_iff_ne.mpr c9; have c9b1 : ((bt a0 x7_1) != a2) = true := bne_iff_ne.mpr c9; have H' := aM H; clear H; have p6 : 0 ≤ (x7_1 : Int) := of_decide_eq_true zq11; have q6 : x7_1 < (a0.size : Int) := of_decide_eq_true zq11; have hx6 := bt_at a0 x7_1; replace p6 := eq_true p6; replace q6 := eq_true q6; have p8 : 0 ≤ (x7_1 : Int) := of_decide_eq_true zq11; have q8 : x7_1 < (a0.size : Int) := of_decide_eq_true zq11; have hx8 := bt_at a0 x7_1; replace p8 := eq_true p8; replace q8 := eq_true q8; go_wp2
     go_roundg k1
     case measure => have := HK1.out; omega
     case rel => exact ⟨(wrap64 (x7_1 + 1)), zq6, H', ⟨zq26⟩, zq20⟩
    exact zq128
   rw [if_neg c4] at H; have c4b0 := decide_eq_false c4; clear c4; obtain rfl := Option.some.inj H; go_wp2; go_ret; exact ⟨zq6, zq20⟩

end Go.Proofs.YtldpdaifajjaeaaDoor.QFnRefs
