/- Written by wip/myprint.py of this repo (the kit's print, with additions of this session). -/
import Derived.Test.YtldpdaifajjaeaaDoorQFnExactWriteRefx0
import Derived.Test.YtldpdaifajjaeaaDoorQFnExactWriteRefx2
import Derived.Test.YtldpdaifajjaeaaDoorQFnExactWriteRefx3
set_option maxRecDepth 100000
namespace Go.Proofs.YtldpdaifajjaeaaDoor.QFnExactWriteRef
open Go.RowKit Go.Proofs.YtldpdaifajjaeaaDoorW.PrintWords Go.Proofs.YtldpdaifajjaeaaDoorW.PrintLast Go.Proofs.YtldpdaifajjaeaaDoorW.PrintMore
attribute [local go_sem] max2_int min2_int max_two min_two max_three min_three max_four min_four   -- for this text's walks alone
set_option linter.unusedVariables false
set_option linter.unusedSimpArgs false

/-! ### spec_l3Ref: function 29 -/
def spec_l3Ref.f (k : Nat) (a0_0 : ByteArray) (a0_1 : ByteArray) (a0_2 : ByteArray) : Option (Bool) := (spec_RepoOk.f k a0_0).bind fun t126 => (if t126 = true then (if a0_1.toList = ([] : List UInt8) then (if a0_2.toList = ([] : List UInt8) then (some true) else ((spec_DigestOk.f k a0_2).bind fun t127 => (some t127))) else ((spec_TagOk.f k a0_1).bind fun t128 => (if t128 = true then (if a0_2.toList = ([] : List UInt8) then (some true) else ((spec_DigestOk.f k a0_2).bind fun t129 => (some t129))) else (some false)))) else (some false))
theorem spec_l3Ref.mono : ∀ a0 a1 a2 k, LeO (spec_l3Ref.f k a0 a1 a2) (spec_l3Ref.f (k + 1) a0 a1 a2) := by
 intro a0 a1 a2 k; unfold spec_l3Ref.f
 repeat' first
   | (with_reducible apply spec_DigestOk.mono)
   | (with_reducible apply spec_RepoOk.mono)
   | (with_reducible apply spec_TagOk.mono)
   | (with_reducible exact LeO.refl _)
   | (with_reducible exact LeO.none _)
   | (with_reducible refine LeO.ite ?_ ?_)
   | (with_reducible refine LeO.bind ?_ (fun _ => ?_))
   | exact LeO.none _
   | refine LeO.ite ?_ ?_
   | refine LeO.bind ?_ (fun _ => ?_)
set_option maxHeartbeats 8000000 in
set_option maxRecDepth 100000 in
theorem spec_l3Ref.calls (k : Nat) (a0_0 : ByteArray) (a0_1 : ByteArray) (a0_2 : ByteArray) (r : Bool) (w : World) (h : spec_l3Ref.f k a0_0 a0_1 a0_2 = some r) :
  Calls Tryd.prog 29 #[.agg #[.string a0_0, .string a0_1, .string a0_2]] w fun e w' => e = .returned (.bool r) ∧ Below w.heap.size w w' := by
 have hu27 := Tryd.underlying27; have HB := aM (Below.refl w.heap.size w); unfold spec_l3Ref.f at h; have H := h; clear h; replace H := Option.bind_eq_some_iff.mp H; obtain ⟨t126, A20, H⟩ := H; (try dsimp only at H); have A2 := aM A20; clear A20; by_cases c3 : t126 = true
 ·
  subst c3; rw [if_pos rfl] at H; by_cases c4 : a0_1.toList = ([] : List UInt8)
  ·
   rw [if_pos c4] at H; have c4b0 : (a0_1.toList == ([] : List UInt8)) = true := beq_iff_eq.mpr c4; have c4b1 : (a0_1.toList != ([] : List UInt8)) = false := bne_eq_false_iff_eq.mpr c4; have c4b2 : a0_1.toList.isEmpty = true := by simpa using c4
   clear c4; by_cases c5 : a0_2.toList = ([] : List UInt8)
   ·
    rw [if_pos c5] at H; have c5b0 : (a0_2.toList == ([] : List UInt8)) = true := beq_iff_eq.mpr c5; have c5b1 : (a0_2.toList != ([] : List UInt8)) = false := bne_eq_false_iff_eq.mpr c5; have c5b2 : a0_2.toList.isEmpty = true := by simpa using c5
    clear c5; obtain rfl := Option.some.inj H; go_enter Tryd.func29, Tryd.ntmps29
    go_wp2_with (first | ((with_reducible refine gD 1 rfl ?_); refine bE 1 #[.string a0_0, .string a0_1, .string a0_2] 27 ?_; intro gb125 hg w6 hbox hb; have BK125 := aM hbox; have GW125 := aM (zq28 : w.heap.size ≤ gb125); have GE125 := GW125; replace HB := sB zq2 hb; clear hb hbox hg; obtain ⟨hcz7_0, hcz7_1, hcz7_2, hfz7_0, hfz7_1, hfz7_2⟩ := cells3_ (w := w6) BK125) | ((with_reducible refine gC 8 rfl ?_); refine gL 5 Tryd.func8 #[.string a0_0] ?_; (with_reducible refine (spec_RepoOk.calls k a0_0 true _ A2.out).mono ?_); rintro e w8 ⟨rfl, hb⟩; refine ⟨_, rfl, ?_⟩; replace BK125 := bG BK125 hb; replace HB := sB zq15 hb; clear hb; obtain ⟨hcz9_0, hcz9_1, hcz9_2, hfz9_0, hfz9_1, hfz9_2⟩ := cells3_ (w := w8) BK125))
    go_ret; exact ⟨zq3, zq15⟩
   rw [if_neg c5] at H; have c5b0 : (a0_2.toList == ([] : List UInt8)) = false := beq_eq_false_iff_ne.mpr c5; have c5b1 : (a0_2.toList != ([] : List UInt8)) = true := bne_iff_ne.mpr c5; have c5b2 : a0_2.toList.isEmpty = false := by simpa using c5
   replace H := Option.bind_eq_some_iff.mp H; obtain ⟨t127, A100, H⟩ := H; replace H : (some t127) = some r := H; have A10 := aM A100; clear A100; obtain rfl := Option.some.inj H; go_enter Tryd.func29, Tryd.ntmps29
   go_wp2_with (first | ((with_reducible refine gD 1 rfl ?_); refine bE 1 #[.string a0_0, .string a0_1, .string a0_2] 27 ?_; intro gb125 hg w11 hbox hb; have BK125 := aM hbox; have GW125 := aM (zq28 : w.heap.size ≤ gb125); have GE125 := GW125; replace HB := sB zq2 hb; clear hb hbox hg; obtain ⟨hcz12_0, hcz12_1, hcz12_2, hfz12_0, hfz12_1, hfz12_2⟩ := cells3_ (w := w11) BK125) | ((with_reducible refine gC 8 rfl ?_); refine gL 5 Tryd.func8 #[.string a0_0] ?_; (with_reducible refine (spec_RepoOk.calls k a0_0 true _ A2.out).mono ?_); rintro e w13 ⟨rfl, hb⟩; refine ⟨_, rfl, ?_⟩; replace BK125 := bG BK125 hb; replace HB := sB zq15 hb; clear hb; obtain ⟨hcz14_0, hcz14_1, hcz14_2, hfz14_0, hfz14_1, hfz14_2⟩ := cells3_ (w := w13) BK125) | (go_at_call 34; (with_reducible refine (spec_DigestOk.calls k a0_2 t127 _ A10.out).mono ?_); rintro e w' ⟨rfl, ⟨nd, rfl⟩⟩))
   go_ret; exact ⟨zq3, zq15⟩
  rw [if_neg c4] at H; have c4b0 : (a0_1.toList == ([] : List UInt8)) = false := beq_eq_false_iff_ne.mpr c4; have c4b1 : (a0_1.toList != ([] : List UInt8)) = true := bne_iff_ne.mpr c4; have c4b2 : a0_1.toList.isEmpty = false := by simpa using c4
  replace H := Option.bind_eq_some_iff.mp H; obtain ⟨t128, A150, H⟩ := H; (try dsimp only at H); have A15 := aM A150; clear A150; by_cases c16 : t128 = true
  ·
   subst c16; rw [if_pos rfl] at H; by_cases c17 : a0_2.toList = ([] : List UInt8)
   ·
    rw [if_pos c17] at H; have c17b0 : (a0_2.toList == ([] : List UInt8)) = true := beq_iff_eq.mpr c17; have c17b1 : (a0_2.toList != ([] : List UInt8)) = false := bne_eq_false_iff_eq.mpr c17; have c17b2 : a0_2.toList.isEmpty = true := by simpa using c17
    clear c17; obtain rfl := Option.some.inj H; go_enter Tryd.func29, Tryd.ntmps29
    go_wp2_with (first | ((with_reducible refine gD 1 rfl ?_); refine bE 1 #[.string a0_0, .string a0_1, .string a0_2] 27 ?_; intro gb125 hg w18 hbox hb; have BK125 := aM hbox; have GW125 := aM (zq28 : w.heap.size ≤ gb125); have GE125 := GW125; replace HB := sB zq2 hb; clear hb hbox hg; obtain ⟨hcz19_0, hcz19_1, hcz19_2, hfz19_0, hfz19_1, hfz19_2⟩ := cells3_ (w := w18) BK125) | ((with_reducible refine gC 8 rfl ?_); refine gL 5 Tryd.func8 #[.string a0_0] ?_; (with_reducible refine (spec_RepoOk.calls k a0_0 true _ A2.out).mono ?_); rintro e w20 ⟨rfl, hb⟩; refine ⟨_, rfl, ?_⟩; replace BK125 := bG BK125 hb; replace HB := sB zq15 hb; clear hb; obtain ⟨hcz21_0, hcz21_1, hcz21_2, hfz21_0, hfz21_1, hfz21_2⟩ := cells3_ (w := w20) BK125) | (go_at_call 33; (with_reducible refine (spec_TagOk.calls k a0_1 true _ A15.out).mono ?_); rintro e w' ⟨rfl, ⟨nd, rfl⟩⟩))
    go_ret; exact ⟨zq3, zq15⟩
   rw [if_neg c17] at H; have c17b0 : (a0_2.toList == ([] : List UInt8)) = false := beq_eq_false_iff_ne.mpr c17; have c17b1 : (a0_2.toList != ([] : List UInt8)) = true := bne_iff_ne.mpr c17; have c17b2 : a0_2.toList.isEmpty = false := by simpa using c17
   replace H := Option.bind_eq_some_iff.mp H; obtain ⟨t129, A220, H⟩ := H; replace H : (some t129) = some r := H; have A22 := aM A220; clear A220; obtain rfl := Option.some.inj H; go_enter Tryd.func29, Tryd.ntmps29
   go_wp2_with (first | ((with_reducible refine gD 1 rfl ?_); refine bE 1 #[.string a0_0, .string a0_1, .string a0_2] 27 ?_; intro gb125 hg w23 hbox hb; have BK125 := aM hbox; have GW125 := aM (zq28 : w.heap.size ≤ gb125); have GE125 := GW125; replace HB := sB zq2 hb; clear hb hbox hg; obtain ⟨hcz24_0, hcz24_1, hcz24_2, hfz24_0, hfz24_1, hfz24_2⟩ := cells3_ (w := w23) BK125) | ((with_reducible refine gC 8 rfl ?_); refine gL 5 Tryd.func8 #[.string a0_0] ?_; (with_reducible refine (spec_RepoOk.calls k a0_0 true _ A2.out).mono ?_); rintro e w25 ⟨rfl, hb⟩; refine ⟨_, rfl, ?_⟩; replace BK125 := bG BK125 hb; replace HB := sB zq15 hb; clear hb; obtain ⟨hcz26_0, hcz26_1, hcz26_2, hfz26_0, hfz26_1, hfz26_2⟩ := cells3_ (w := w25) BK125) | (go_at_call 33; (with_reducible refine (spec_TagOk.calls k a0_1 true _ A15.out).mono ?_); rintro e w' ⟨rfl, ⟨nd, rfl⟩⟩) | (go_at_call 34; (with_reducible refine (spec_DigestOk.calls k a0_2 t129 _ A22.out).mono ?_); rintro e w' ⟨rfl, ⟨nd, rfl⟩⟩))
   go_ret; exact ⟨zq3, zq15⟩
  replace c16 := Bool.eq_false_iff.mpr c16; subst c16; rw [if_neg (show ¬ (false = true) by decide)] at H; obtain rfl := Option.some.inj H; go_enter Tryd.func29, Tryd.ntmps29
  go_wp2_with (first | ((with_reducible refine gD 1 rfl ?_); refine bE 1 #[.string a0_0, .string a0_1, .string a0_2] 27 ?_; intro gb125 hg w27 hbox hb; have BK125 := aM hbox; have GW125 := aM (zq28 : w.heap.size ≤ gb125); have GE125 := GW125; replace HB := sB zq2 hb; clear hb hbox hg; obtain ⟨hcz28_0, hcz28_1, hcz28_2, hfz28_0, hfz28_1, hfz28_2⟩ := cells3_ (w := w27) BK125) | ((with_reducible refine gC 8 rfl ?_); refine gL 5 Tryd.func8 #[.string a0_0] ?_; (with_reducible refine (spec_RepoOk.calls k a0_0 true _ A2.out).mono ?_); rintro e w29 ⟨rfl, hb⟩; refine ⟨_, rfl, ?_⟩; replace BK125 := bG BK125 hb; replace HB := sB zq15 hb; clear hb; obtain ⟨hcz30_0, hcz30_1, hcz30_2, hfz30_0, hfz30_1, hfz30_2⟩ := cells3_ (w := w29) BK125) | (go_at_call 33; (with_reducible refine (spec_TagOk.calls k a0_1 false _ A15.out).mono ?_); rintro e w' ⟨rfl, ⟨nd, rfl⟩⟩))
  go_ret; exact ⟨zq3, zq15⟩
 replace c3 := Bool.eq_false_iff.mpr c3; subst c3; rw [if_neg (show ¬ (false = true) by decide)] at H; obtain rfl := Option.some.inj H; go_enter Tryd.func29, Tryd.ntmps29
 go_wp2_with (first | ((with_reducible refine gD 1 rfl ?_); refine bE 1 #[.string a0_0, .string a0_1, .string a0_2] 27 ?_; intro gb125 hg w31 hbox hb; have BK125 := aM hbox; have GW125 := aM (zq28 : w.heap.size ≤ gb125); have GE125 := GW125; replace HB := sB zq2 hb; clear hb hbox hg; obtain ⟨hcz32_0, hcz32_1, hcz32_2, hfz32_0, hfz32_1, hfz32_2⟩ := cells3_ (w := w31) BK125) | ((with_reducible refine gC 8 rfl ?_); refine gL 5 Tryd.func8 #[.string a0_0] ?_; (with_reducible refine (spec_RepoOk.calls k a0_0 false _ A2.out).mono ?_); rintro e w33 ⟨rfl, hb⟩; refine ⟨_, rfl, ?_⟩; replace BK125 := bG BK125 hb; replace HB := sB zq15 hb; clear hb))
 go_ret; exact ⟨zq3, zq15⟩

/-! ### spec_WriteRef: function 11 -/
def spec_WriteRef.f (k : Nat) (a0_0 : ByteArray) (a0_1 : ByteArray) (a0_2 : ByteArray) : Option (ByteArray) := (spec_l3Ref.f k a0_0 a0_1 a0_2).bind fun t131 => (if t131 = true then (if a0_1.toList = ([] : List UInt8) then (if a0_2.toList = ([] : List UInt8) then (some a0_0) else (if a0_0.size + 1 ≤ 9223372036854775807 then (if a0_0.size + 1 + a0_2.size ≤ 9223372036854775807 then (some ((a0_0 ++ (⟨#[64]⟩ : ByteArray)) ++ a0_2)) else (none)) else (none))) else (if a0_0.size + 1 ≤ 9223372036854775807 then (if a0_0.size + 1 + a0_1.size ≤ 9223372036854775807 then (if a0_2.toList = ([] : List UInt8) then (some ((a0_0 ++ (⟨#[58]⟩ : ByteArray)) ++ a0_1)) else (if a0_0.size + 1 + a0_1.size + 1 ≤ 9223372036854775807 then (if a0_0.size + 1 + a0_1.size + 1 + a0_2.size ≤ 9223372036854775807 then (some ((((a0_0 ++ (⟨#[58]⟩ : ByteArray)) ++ a0_1) ++ (⟨#[64]⟩ : ByteArray)) ++ a0_2)) else (none)) else (none))) else (none)) else (none))) else (some (⟨#[]⟩ : ByteArray)))
theorem spec_WriteRef.mono : ∀ a0 a1 a2 k, LeO (spec_WriteRef.f k a0 a1 a2) (spec_WriteRef.f (k + 1) a0 a1 a2) := by
 intro a0 a1 a2 k; unfold spec_WriteRef.f
 repeat' first
   | (with_reducible apply spec_l3Ref.mono)
   | (with_reducible exact LeO.refl _)
   | (with_reducible exact LeO.none _)
   | (with_reducible refine LeO.ite ?_ ?_)
   | (with_reducible refine LeO.bind ?_ (fun _ => ?_))
   | exact LeO.none _
   | refine LeO.ite ?_ ?_
   | refine LeO.bind ?_ (fun _ => ?_)
set_option maxHeartbeats 8000000 in
set_option maxRecDepth 100000 in
theorem spec_WriteRef.calls (k : Nat) (a0_0 : ByteArray) (a0_1 : ByteArray) (a0_2 : ByteArray) (r : ByteArray) (w : World) (h : spec_WriteRef.f k a0_0 a0_1 a0_2 = some r) :
  Calls Tryd.prog 11 #[.agg #[.string a0_0, .string a0_1, .string a0_2]] w fun e w' => e = .returned (.string r) ∧ Below w.heap.size w w' := by
 have hu27 := Tryd.underlying27; have HB := aM (Below.refl w.heap.size w); unfold spec_WriteRef.f at h; have H := h; clear h; replace H := Option.bind_eq_some_iff.mp H; obtain ⟨t131, A20, H⟩ := H; (try dsimp only at H); have A2 := aM A20; clear A20; by_cases c3 : t131 = true
 ·
  subst c3; rw [if_pos rfl] at H; by_cases c4 : a0_1.toList = ([] : List UInt8)
  ·
   rw [if_pos c4] at H; have c4b0 : (a0_1.toList == ([] : List UInt8)) = true := beq_iff_eq.mpr c4; have c4b1 : (a0_1.toList != ([] : List UInt8)) = false := bne_eq_false_iff_eq.mpr c4; have c4b2 : a0_1.toList.isEmpty = true := by simpa using c4
   clear c4; by_cases c5 : a0_2.toList = ([] : List UInt8)
   ·
    rw [if_pos c5] at H; have c5b0 : (a0_2.toList == ([] : List UInt8)) = true := beq_iff_eq.mpr c5; have c5b1 : (a0_2.toList != ([] : List UInt8)) = false := bne_eq_false_iff_eq.mpr c5; have c5b2 : a0_2.toList.isEmpty = true := by simpa using c5
    clear c5; obtain rfl := Option.some.inj H; go_enter Tryd.func11, Tryd.ntmps11
    go_wp2_with (first | ((with_reducible refine gD 1 rfl ?_); refine bE 1 #[.string a0_0, .string a0_1, .string a0_2] 27 ?_; intro gb130 hg w6 hbox hb; have BK130 := aM hbox; have GW130 := aM (zq28 : w.heap.size ≤ gb130); have GE130 := GW130; replace HB := sB zq2 hb; clear hb hbox hg; obtain ⟨hcz7_0, hcz7_1, hcz7_2, hfz7_0, hfz7_1, hfz7_2⟩ := cells3_ (w := w6) BK130) | ((with_reducible refine gC 29 rfl ?_); refine gL 5 Tryd.func29 #[.agg #[.string a0_0, .string a0_1, .string a0_2]] ?_; (with_reducible refine (spec_l3Ref.calls k a0_0 a0_1 a0_2 true _ A2.out).mono ?_); rintro e w8 ⟨rfl, hb⟩; refine ⟨_, rfl, ?_⟩; replace BK130 := bG BK130 hb; replace HB := sB zq17 hb; clear hb; obtain ⟨hcz9_0, hcz9_1, hcz9_2, hfz9_0, hfz9_1, hfz9_2⟩ := cells3_ (w := w8) BK130))
    go_ret; exact ⟨zq3, zq17⟩
   rw [if_neg c5] at H; have c5b0 : (a0_2.toList == ([] : List UInt8)) = false := beq_eq_false_iff_ne.mpr c5; have c5b1 : (a0_2.toList != ([] : List UInt8)) = true := bne_iff_ne.mpr c5; have c5b2 : a0_2.toList.isEmpty = false := by simpa using c5
   by_cases c10 : a0_0.size + 1 ≤ 9223372036854775807
   ·
    rw [if_pos c10] at H; have c10b0 := eq_true c10; have c10b1 := decide_eq_true c10
    try have c10b2 : (9223372036854775807 < a0_0.size + 1) = False := eq_false (Nat.not_lt.2 c10)
    by_cases c11 : a0_0.size + 1 + a0_2.size ≤ 9223372036854775807
    ·
     rw [if_pos c11] at H; have c11b0 := eq_true c11; have c11b1 := decide_eq_true c11
     try have c11b2 : (9223372036854775807 < a0_0.size + 1 + a0_2.size) = False := eq_false (Nat.not_lt.2 c11)
     obtain rfl := Option.some.inj H; go_enter Tryd.func11, Tryd.ntmps11
     go_wp2_with (first | ((with_reducible refine gD 1 rfl ?_); refine bE 1 #[.string a0_0, .string a0_1, .string a0_2] 27 ?_; intro gb130 hg w12 hbox hb; have BK130 := aM hbox; have GW130 := aM (zq28 : w.heap.size ≤ gb130); have GE130 := GW130; replace HB := sB zq2 hb; clear hb hbox hg; obtain ⟨hcz13_0, hcz13_1, hcz13_2, hfz13_0, hfz13_1, hfz13_2⟩ := cells3_ (w := w12) BK130) | ((with_reducible refine gC 29 rfl ?_); refine gL 5 Tryd.func29 #[.agg #[.string a0_0, .string a0_1, .string a0_2]] ?_; (with_reducible refine (spec_l3Ref.calls k a0_0 a0_1 a0_2 true _ A2.out).mono ?_); rintro e w14 ⟨rfl, hb⟩; refine ⟨_, rfl, ?_⟩; replace BK130 := bG BK130 hb; replace HB := sB zq17 hb; clear hb; obtain ⟨hcz15_0, hcz15_1, hcz15_2, hfz15_0, hfz15_1, hfz15_2⟩ := cells3_ (w := w14) BK130))
     go_ret; exact ⟨zq3, zq17⟩
    rw [if_neg c11] at H; exact absurd H (by simp)
   rw [if_neg c10] at H; exact absurd H (by simp)
  rw [if_neg c4] at H; have c4b0 : (a0_1.toList == ([] : List UInt8)) = false := beq_eq_false_iff_ne.mpr c4; have c4b1 : (a0_1.toList != ([] : List UInt8)) = true := bne_iff_ne.mpr c4; have c4b2 : a0_1.toList.isEmpty = false := by simpa using c4
  by_cases c16 : a0_0.size + 1 ≤ 9223372036854775807
  ·
   rw [if_pos c16] at H; have c16b0 := eq_true c16; have c16b1 := decide_eq_true c16
   try have c16b2 : (9223372036854775807 < a0_0.size + 1) = False := eq_false (Nat.not_lt.2 c16)
   by_cases c17 : a0_0.size + 1 + a0_1.size ≤ 9223372036854775807
   ·
    rw [if_pos c17] at H; have c17b0 := eq_true c17; have c17b1 := decide_eq_true c17
    try have c17b2 : (9223372036854775807 < a0_0.size + 1 + a0_1.size) = False := eq_false (Nat.not_lt.2 c17)
    by_cases c18 : a0_2.toList = ([] : List UInt8)
    ·
     rw [if_pos c18] at H; have c18b0 : (a0_2.toList == ([] : List UInt8)) = true := beq_iff_eq.mpr c18; have c18b1 : (a0_2.toList != ([] : List UInt8)) = false := bne_eq_false_iff_eq.mpr c18; have c18b2 : a0_2.toList.isEmpty = true := by simpa using c18
     clear c18; obtain rfl := Option.some.inj H; go_enter Tryd.func11, Tryd.ntmps11
     go_wp2_with (first | ((with_reducible refine gD 1 rfl ?_); refine bE 1 #[.string a0_0, .string a0_1, .string a0_2] 27 ?_; intro gb130 hg w19 hbox hb; have BK130 := aM hbox; have GW130 := aM (zq28 : w.heap.size ≤ gb130); have GE130 := GW130; replace HB := sB zq2 hb; clear hb hbox hg; obtain ⟨hcz20_0, hcz20_1, hcz20_2, hfz20_0, hfz20_1, hfz20_2⟩ := cells3_ (w := w19) BK130) | ((with_reducible refine gC 29 rfl ?_); refine gL 5 Tryd.func29 #[.agg #[.string a0_0, .string a0_1, .string a0_2]] ?_; (with_reducible refine (spec_l3Ref.calls k a0_0 a0_1 a0_2 true _ A2.out).mono ?_); rintro e w21 ⟨rfl, hb⟩; refine ⟨_, rfl, ?_⟩; replace BK130 := bG BK130 hb; replace HB := sB zq17 hb; clear hb; obtain ⟨hcz22_0, hcz22_1, hcz22_2, hfz22_0, hfz22_1, hfz22_2⟩ := cells3_ (w := w21) BK130))
     go_ret; exact ⟨zq3, zq17⟩
    rw [if_neg c18] at H; have c18b0 : (a0_2.toList == ([] : List UInt8)) = false := beq_eq_false_iff_ne.mpr c18; have c18b1 : (a0_2.toList != ([] : List UInt8)) = true := bne_iff_ne.mpr c18; have c18b2 : a0_2.toList.isEmpty = false := by simpa using c18
    by_cases c23 : a0_0.size + 1 + a0_1.size + 1 ≤ 9223372036854775807
    ·
     rw [if_pos c23] at H; have c23b0 := eq_true c23; have c23b1 := decide_eq_true c23
     try have c23b2 : (9223372036854775807 < a0_0.size + 1 + a0_1.size + 1) = False := eq_false (Nat.not_lt.2 c23)
     by_cases c24 : a0_0.size + 1 + a0_1.size + 1 + a0_2.size ≤ 9223372036854775807
     ·
      rw [if_pos c24] at H; have c24b0 := eq_true c24; have c24b1 := decide_eq_true c24
      try have c24b2 : (9223372036854775807 < a0_0.size + 1 + a0_1.size + 1 + a0_2.size) = False := eq_false (Nat.not_lt.2 c24)
      obtain rfl := Option.some.inj H; go_enter Tryd.func11, Tryd.ntmps11
      go_wp2_with (first | ((with_reducible refine gD 1 rfl ?_); refine bE 1 #[.string a0_0, .string a0_1, .string a0_2] 27 ?_; intro gb130 hg w25 hbox hb; have BK130 := aM hbox; have GW130 := aM (zq28 : w.heap.size ≤ gb130); have GE130 := GW130; replace HB := sB zq2 hb; clear hb hbox hg; obtain ⟨hcz26_0, hcz26_1, hcz26_2, hfz26_0, hfz26_1, hfz26_2⟩ := cells3_ (w := w25) BK130) | ((with_reducible refine gC 29 rfl ?_); refine gL 5 Tryd.func29 #[.agg #[.string a0_0, .string a0_1, .string a0_2]] ?_; (with_reducible refine (spec_l3Ref.calls k a0_0 a0_1 a0_2 true _ A2.out).mono ?_); rintro e w27 ⟨rfl, hb⟩; refine ⟨_, rfl, ?_⟩; replace BK130 := bG BK130 hb; replace HB := sB zq17 hb; clear hb; obtain ⟨hcz28_0, hcz28_1, hcz28_2, hfz28_0, hfz28_1, hfz28_2⟩ := cells3_ (w := w27) BK130))
      go_ret; exact ⟨zq3, zq17⟩
     rw [if_neg c24] at H; exact absurd H (by simp)
    rw [if_neg c23] at H; exact absurd H (by simp)
   rw [if_neg c17] at H; exact absurd H (by simp)
  rw [if_neg c16] at H; exact absurd H (by simp)
 replace c3 := Bool.eq_false_iff.mpr c3; subst c3; rw [if_neg (show ¬ (false = true) by decide)] at H; obtain rfl := Option.some.inj H; go_enter Tryd.func11, Tryd.ntmps11
 go_wp2_with (first | ((with_reducible refine gD 1 rfl ?_); refine bE 1 #[.string a0_0, .string a0_1, .string a0_2] 27 ?_; intro gb130 hg w29 hbox hb; have BK130 := aM hbox; have GW130 := aM (zq28 : w.heap.size ≤ gb130); have GE130 := GW130; replace HB := sB zq2 hb; clear hb hbox hg; obtain ⟨hcz30_0, hcz30_1, hcz30_2, hfz30_0, hfz30_1, hfz30_2⟩ := cells3_ (w := w29) BK130) | ((with_reducible refine gC 29 rfl ?_); refine gL 5 Tryd.func29 #[.agg #[.string a0_0, .string a0_1, .string a0_2]] ?_; (with_reducible refine (spec_l3Ref.calls k a0_0 a0_1 a0_2 false _ A2.out).mono ?_); rintro e w31 ⟨rfl, hb⟩; refine ⟨_, rfl, ?_⟩; replace BK130 := bG BK130 hb; replace HB := sB zq17 hb; clear hb))
 go_ret; exact ⟨zq3, zq17⟩

/-! ### laws_toRef: function 12 -/
def laws_toRef.f (a0_0 : ByteArray) (a0_1 : ByteArray) (a0_2 : ByteArray) : Option (ByteArray × ByteArray × ByteArray) := some (a0_0, a0_1, a0_2)
set_option maxHeartbeats 8000000 in
set_option maxRecDepth 100000 in
theorem laws_toRef.calls (a0_0 : ByteArray) (a0_1 : ByteArray) (a0_2 : ByteArray) (r1 : ByteArray) (r2 : ByteArray) (r3 : ByteArray) (w : World) (h : laws_toRef.f a0_0 a0_1 a0_2 = some (r1, r2, r3)) :
  Calls Tryd.prog 12 #[.agg #[.string a0_0, .string a0_1, .string a0_2]] w fun e w' => e = .returned (.agg #[.string r1, .string r2, .string r3]) ∧ Below w.heap.size w w' := by
 have hu24 := Tryd.underlying24; have hu27 := Tryd.underlying27; have HB := aM (Below.refl w.heap.size w); have H : (some (a0_0, a0_1, a0_2)) = some (r1, r2, r3) := h; clear h; simp only [Option.some.injEq, Prod.mk.injEq] at H; obtain ⟨rfl, rfl, rfl⟩ := H; go_enter Tryd.func12, Tryd.ntmps12
 go_wp2_with (first | ((with_reducible refine gD 1 rfl ?_); refine bE 1 #[.string a0_0, .string a0_1, .string a0_2] 24 ?_; intro gb132 hg w2 hbox hb; have BK132 := aM hbox; have GW132 := aM (zq28 : w.heap.size ≤ gb132); have GE132 := GW132; replace HB := sB zq2 hb; clear hb hbox hg) | ((with_reducible refine gD 2 rfl ?_); refine bE 2 #[.string (⟨#[]⟩ : ByteArray), .string (⟨#[]⟩ : ByteArray), .string (⟨#[]⟩ : ByteArray)] 27 ?_; intro gb133 hg w3 hbox hb; have BK133 := aM hbox; have GW133 := aM (by rw [hg]; exact (below_size zq19) : w.heap.size ≤ gb133); have GE133 := GW133; replace HB := sB zq19 hb; have NB132_133 := aM (zq30 : gb132 ≠ gb133); have NB133_132 := aM (zq31 : gb133 ≠ gb132); replace BK132 := bG BK132 hb; clear hb hbox hg) | ((with_reducible refine gD 3 rfl ?_); refine bE 3 #[.string (⟨#[]⟩ : ByteArray), .string (⟨#[]⟩ : ByteArray), .string (⟨#[]⟩ : ByteArray)] 27 ?_; intro gb134 hg w4 hbox hb; have BK134 := aM hbox; have GW134 := aM (by rw [hg]; exact (below_size zq21) : w.heap.size ≤ gb134); have GE134 := GW134; replace HB := sB zq21 hb; have NB132_134 := aM (zq30 : gb132 ≠ gb134); have NB134_132 := aM (zq31 : gb134 ≠ gb132); replace BK132 := bG BK132 hb; have NB133_134 := aM (by rw [hg]; exact Nat.ne_of_lt (blk_lt (g := gb133) (o := .cells #[.string (⟨#[]⟩ : ByteArray), .string (⟨#[]⟩ : ByteArray), .string (⟨#[]⟩ : ByteArray)] 27 (0, 0)) zq20) : gb133 ≠ gb134); have NB134_133 := aM (by rw [hg]; exact Nat.ne_of_gt (blk_lt (g := gb133) (o := .cells #[.string (⟨#[]⟩ : ByteArray), .string (⟨#[]⟩ : ByteArray), .string (⟨#[]⟩ : ByteArray)] 27 (0, 0)) zq20) : gb134 ≠ gb133); replace BK133 := bG BK133 hb; clear hb hbox hg; have hnb5 := NB132_133.out; have hnc5 := NB133_132.out; have hnb6 := NB132_134.out; have hnc6 := NB134_132.out; obtain ⟨hcz7_0, hcz7_1, hcz7_2, hfz7_0, hfz7_1, hfz7_2⟩ := cells3_ (w := w4) BK132; have hnb8 := NB134_133.out; have hnc8 := NB133_134.out; obtain ⟨hcz9_0, hcz9_1, hcz9_2, hfz9_0, hfz9_1, hfz9_2⟩ := cells3_ (w := w4) BK134; obtain ⟨hcz10_0, hcz10_1, hcz10_2, hfz10_0, hfz10_1, hfz10_2⟩ := cells3_ (w := w4) BK133))
 refine bodyPost_ret (results_cell_row rfl _ _ gb133 27 #[.string a0_0, .string a0_1, .string a0_2] (0, 0) _ rfl (by refine dW ?_; refine blk_put (cs := #[.string a0_0, .string a0_1, .string (⟨#[]⟩ : ByteArray)]) ?_ 2 _ rfl; refine dW ?_; refine blk_put (cs := #[.string a0_0, .string (⟨#[]⟩ : ByteArray), .string (⟨#[]⟩ : ByteArray)]) ?_ 1 _ rfl; refine dW ?_; refine blk_put (cs := #[.string (⟨#[]⟩ : ByteArray), .string (⟨#[]⟩ : ByteArray), .string (⟨#[]⟩ : ByteArray)]) ?_ 0 _ rfl; refine dW ?_; refine blk_far ?_ NB133_134.out _; refine dW ?_; refine blk_far ?_ NB133_134.out _; refine dW ?_; refine blk_far ?_ NB133_134.out _; refine dW ?_; exact BK133.out) Tryd.underlying27 rfl (by kernel_rfl)) rfl ?_
 exact ⟨zq3, by repeat (first | (with_reducible first | exact HB.out | apply below_alloc | apply pw_below_drewN | apply below_drew1 | refine below_set ?_ GE132.out | refine below_set ?_ GE133.out | refine below_set ?_ GE134.out) | exact HB.out)⟩

/-! ### strings_genSplit: function 68 (given) -/
def strings_genSplit.f (a0 : ByteArray) (a1 : ByteArray) (a2 : Int) (a3 : Int) : Option (List ByteArray) := if a0.size < 4294967281 ∧ a1.size = 1 ∧ a2 = 0 ∧ a3 = -1 then some (Lib.splitB a1 0 (Lib.countB a0 a1) a0) else none
set_option maxRecDepth 100000 in
theorem strings_genSplit.calls (a0 : ByteArray) (a1 : ByteArray) (a2 : Int) (a3 : Int) (r : List ByteArray) (w : World) (h : strings_genSplit.f a0 a1 a2 a3 = some r) :
    Calls Tryd.prog 68 #[.string a0, .string a1, .int .i64 a2, .int .i64 a3] w fun e w' => ∃ v0_ : Value, e = .returned (v0_) ∧ Kd.R Kd.string 9 w' w.heap.size (fun _ => True) v0_ r ∧ Below w.heap.size w w' := by
  unfold strings_genSplit.f at h
  split at h
  case isFalse => exact absurd h (by simp)
  rename_i hg
  injection h with h
  subst h; obtain ⟨hs, h1, rfl, rfl⟩ := hg; obtain ⟨c, rfl⟩ := Lib.one_byte a1 h1; have hle := Lib.countB_le (⟨#[c]⟩ : ByteArray) (Nat.le_of_eq h1.symm) a0.size a0 (Nat.le_refl _); have hlen := Lib.splitB_all (⟨#[c]⟩ : ByteArray) (Nat.le_of_eq h1.symm) 0 _ a0 rfl
  have hcl : Lib.countB a0 (⟨#[c]⟩ : ByteArray) ≤ a0.size := by
    exact hle
  have hC : Calls Tryd.prog (Tryd.lays221_ren.f 138) #[.string a0, .string (⟨#[c]⟩ : ByteArray)] w fun e w' => e = .returned (.int .i64 (Lib.countB a0 (⟨#[c]⟩ : ByteArray))) ∧ w' = w := by
    refine (Any.strings_Count_one { Tryd.lays221 with } a0 c w).mono ?_; rintro e w' ⟨rfl, rfl⟩; refine ⟨?_, rfl⟩; show _ = Ending.returned (Value.int .i64 ((Lib.count a0.data.toList [c] : Nat) : Int)); rw [Lib.count_one]
    rfl
  have hI : ∀ (x : ByteArray) (cc : Array Value), x.size ≤ a0.size → Calls Tryd.prog (Tryd.lays221_ren.f 143) #[.string x, .string (⟨#[c]⟩ : ByteArray)] (w.alloc (.cells cc (Tryd.lays221_ren.t 9))) fun e w' => e = .returned (.int .i64 (Lib.indexB x (⟨#[c]⟩ : ByteArray))) ∧ w' = w.alloc (.cells cc (Tryd.lays221_ren.t 9)) := by
    intro x cc _; refine (Any.strings_Index_one { Tryd.lays221 with } x c _).mono ?_; rintro e w' ⟨rfl, rfl⟩; refine ⟨?_, rfl⟩; show _ = Ending.returned (Value.int .i64 (Lib.index x.data.toList [c])); rw [Lib.index_one]
  have hc := Any.strings_genSplit_core Tryd.lays221 (by kernel_rfl) a0 (⟨#[c]⟩ : ByteArray) 0 (-1) (Lib.countB a0 (⟨#[c]⟩ : ByteArray) + 1) w hs (Nat.le_of_eq h1.symm) (Nat.zero_le _) hI hC (by decide) (by decide) (by rw [if_pos (by decide)]; omega); rw [Nat.add_sub_cancel, hlen] at hc; have e2 : Lib.cellsOf (Lib.splitB (⟨#[c]⟩ : ByteArray) 0 (Lib.countB a0 (⟨#[c]⟩ : ByteArray)) a0) (Lib.countB a0 (⟨#[c]⟩ : ByteArray) + 1) = ((Lib.splitB (⟨#[c]⟩ : ByteArray) 0 (Lib.countB a0 (⟨#[c]⟩ : ByteArray)) a0).map Value.string).toArray := by rw [← hlen]; exact Lib.cellsOf_full _
  rw [e2] at hc; refine hc.mono ?_; rintro e w' ⟨rfl, rfl⟩; generalize Lib.splitB (⟨#[c]⟩ : ByteArray) 0 (Lib.countB a0 (⟨#[c]⟩ : ByteArray)) a0 = l at hlen; generalize Lib.countB a0 (⟨#[c]⟩ : ByteArray) = n at hlen hcl; have hm : l.length ≤ maxLen := by simp only [maxLen]; omega
  rw [← hlen]; refine ⟨_, rfl, Kd.R_of_own (enc := Value.string) ⟨by simp [encs], .inr ⟨w.heap.size, l.length, (l.map Value.string).toArray, rfl, Nat.le_refl _, Held.of (heap_alloc_new w _), Nat.le_refl _, hm, by simp, by rw [Nat.mul_one, List.toList_toArray]; exact List.take_of_length_le (by simp)⟩⟩ (fun _ _ => trivial), below_alloc (Below.refl _ _) _⟩

/-! ### strings_Split: function 49 -/
def strings_Split.f (a0 : ByteArray) (a1 : ByteArray) : Option (List ByteArray) := (strings_genSplit.f a0 a1 0 (-1)).bind fun t135 => (some t135)
set_option maxHeartbeats 8000000 in
set_option maxRecDepth 100000 in
theorem strings_Split.calls (a0 : ByteArray) (a1 : ByteArray) (r : List ByteArray) (w : World) (h : strings_Split.f a0 a1 = some r) :
  Calls Tryd.prog 49 #[.string a0, .string a1] w fun e w' => ∃ v0_ : Value, e = .returned (v0_) ∧ Kd.R Kd.string 9 w' w.heap.size (fun _ => True) v0_ r ∧ Below w.heap.size w w' := by
 have HB := aM (Below.refl w.heap.size w); unfold strings_Split.f at h; have H := h; clear h; replace H := Option.bind_eq_some_iff.mp H; obtain ⟨t135, A30, H⟩ := H; replace H : (some t135) = some r := H; have A3 := aM A30; clear A30; obtain rfl := Option.some.inj H; go_enter Tryd.func49, Tryd.ntmps49
 go_wp2_with (first | ((with_reducible refine gC 68 rfl ?_); refine gL 7 Tryd.func68 #[.string a0, .string a1, .int .i64 0, .int .i64 (-1)] ?_; (with_reducible refine (strings_genSplit.calls a0 a1 0 (-1) t135 _ A3.out).mono ?_); rintro e w4 ⟨v136, rfl, ho0, hb⟩; refine ⟨_, rfl, ?_⟩; have HO137 := aM (Kd.R_lower ho0 (below_size zq2)); replace HB := sB zq2 hb; clear hb; (try clear ho0)))
 go_ret; exact ⟨_, zq3, by refine dR ?_; exact HO137.out, zq2⟩

/-! ### impl_isWordByte: function 51 -/
def impl_isWordByte.f (a0 : Int) : Option (Bool) := if a0 ≥ 97 then (if a0 ≤ 122 then (some true) else (if a0 ≥ 48 then (some (decide (a0 ≤ 57))) else (some false))) else (if a0 ≥ 48 then (some (decide (a0 ≤ 57))) else (some false))
set_option maxHeartbeats 8000000 in
set_option maxRecDepth 100000 in
theorem impl_isWordByte.calls (a0 : Int) (r : Bool) (w : World) (h : impl_isWordByte.f a0 = some r) :
  Calls Tryd.prog 51 #[.int .u8 a0] w fun e w' => e = .returned (.bool r) ∧ Drawn0 w w' := by
 unfold impl_isWordByte.f at h; have H := h; clear h; by_cases c2 : a0 ≥ 97
 ·
  rw [if_pos c2] at H; have c2b0 : decide (97 ≤ a0) = true := decide_eq_true c2; clear c2; by_cases c3 : a0 ≤ 122
  ·
   rw [if_pos c3] at H; have c3b0 := decide_eq_true c3; clear c3; obtain rfl := Option.some.inj H; go_enter Tryd.func51, Tryd.ntmps51; go_wp2; go_ret; exact ⟨zq5, zq9⟩
  rw [if_neg c3] at H; have c3b0 := decide_eq_false c3; clear c3; by_cases c4 : a0 ≥ 48
  ·
   rw [if_pos c4] at H; have c4b0 : decide (48 ≤ a0) = true := decide_eq_true c4; clear c4; obtain rfl := Option.some.inj H; go_enter Tryd.func51, Tryd.ntmps51; go_wp2; go_ret; exact ⟨zq5, zq9⟩
  rw [if_neg c4] at H; have c4b0 : decide (48 ≤ a0) = false := decide_eq_false c4; clear c4; obtain rfl := Option.some.inj H; go_enter Tryd.func51, Tryd.ntmps51; go_wp2; go_ret; exact ⟨zq5, zq9⟩
 rw [if_neg c2] at H; have c2b0 : decide (97 ≤ a0) = false := decide_eq_false c2; clear c2; by_cases c5 : a0 ≥ 48
 ·
  rw [if_pos c5] at H; have c5b0 : decide (48 ≤ a0) = true := decide_eq_true c5; clear c5; obtain rfl := Option.some.inj H; go_enter Tryd.func51, Tryd.ntmps51; go_wp2; go_ret; exact ⟨zq5, zq9⟩
 rw [if_neg c5] at H; have c5b0 : decide (48 ≤ a0) = false := decide_eq_false c5; clear c5; obtain rfl := Option.some.inj H; go_enter Tryd.func51, Tryd.ntmps51; go_wp2; go_ret; exact ⟨zq5, zq9⟩

/-! ### impl_isRepoPart: function 50 (walked by hand) -/

/-- Words with marks between them, byte by byte: 0: a word must begin, 1: in a word, 3: behind one '_', 5: in a row of '-'. -/
def impl_isRepoPart.A : Nat → List Int → Bool
 | q, [] => q == 1
 | q, c :: l => if impl_isWordByte.f c = some true then impl_isRepoPart.A 1 l else if q = 1 then (if c = 46 then impl_isRepoPart.A 0 l else if c = 95 then impl_isRepoPart.A 3 l else if c = 45 then impl_isRepoPart.A 5 l else false) else if q = 3 then (if c = 95 then impl_isRepoPart.A 0 l else false) else if q = 5 then (if c = 45 then impl_isRepoPart.A 5 l else false) else false
def impl_isRepoPart.f (a0 : ByteArray) : Option Bool := if a0.size ≤ 100 then some (impl_isRepoPart.A 0 (bytesOf a0)) else none
theorem impl_isRepoPart.word (c : Int) : ∃ b, impl_isWordByte.f c = some b := by
 unfold impl_isWordByte.f
 repeat' split
 all_goals exact ⟨_, rfl⟩
/-- How long a mark may be. -/
def impl_isRepoPart.most (c : Int) : Int := if c = 46 then 1 else if c = 95 then 2 else if c = 45 then 100 else 0
theorem impl_isRepoPart.low_not {c : Int} (h : c = 46 ∨ c = 95 ∨ c = 45) : ¬ impl_isWordByte.f c = some true := by
 rcases h with rfl | rfl | rfl <;> decide
theorem impl_isRepoPart.A_other (c : Int) (q : Nat) (l : List Int) (hq : q = 3 ∧ c ≠ 95 ∨ q = 5 ∧ c ≠ 45) (hl : ∀ x ∈ l.head?, x = c → False) : True := trivial
theorem impl_isRepoPart.dashes (l : List Int) (hl : l.head? ≠ some 45) : ∀ n : Nat, impl_isRepoPart.A 5 (List.replicate n 45 ++ l) = impl_isRepoPart.A 0 l := by
 intro n
 induction n with
 | zero =>
  cases l with
  | nil => rfl
  | cons x l =>
   have hx : x ≠ 45 := fun e => hl (by rw [e]; rfl)
   simp [impl_isRepoPart.A, hx]
 | succ n ih =>
  rw [List.replicate_succ, List.cons_append, impl_isRepoPart.A, if_neg (impl_isRepoPart.low_not (.inr (.inr rfl))), if_neg (by decide), if_neg (by decide), if_pos rfl, if_pos rfl, ih]
/-- A row of n alike bytes behind a word. -/
theorem impl_isRepoPart.mark (c : Int) (hc : ¬ impl_isWordByte.f c = some true) (n : Nat) (hn : 1 ≤ n) (h100 : n ≤ 100) (l : List Int) (hl : l.head? ≠ some c) :
  impl_isRepoPart.A 1 (List.replicate n c ++ l) = if (n : Int) > impl_isRepoPart.most c then false else impl_isRepoPart.A 0 l := by
 obtain ⟨m, rfl⟩ : ∃ m, n = m + 1 := ⟨n - 1, by omega⟩; rw [List.replicate_succ, List.cons_append, impl_isRepoPart.A, if_neg hc, if_pos rfl]; unfold impl_isRepoPart.most; by_cases h1 : c = 46
 ·
  subst h1; rw [if_pos rfl, if_pos rfl]
  cases m with
  | zero => rw [if_neg (by decide)]; rfl
  | succ m => rw [if_pos (by omega), List.replicate_succ, List.cons_append, impl_isRepoPart.A, if_neg hc, if_neg (by decide), if_neg (by decide), if_neg (by decide)]
 rw [if_neg h1, if_neg h1]; by_cases h2 : c = 95
 ·
  subst h2; rw [if_pos rfl, if_pos rfl]
  cases m with
  | zero =>
   rw [if_neg (by decide), List.replicate_zero, List.nil_append]
   cases l with
   | nil => rfl
   | cons x l =>
    have hx : x ≠ 95 := fun e => hl (by rw [e]; rfl)
    simp [impl_isRepoPart.A, hx]
  | succ m =>
   rw [List.replicate_succ, List.cons_append, impl_isRepoPart.A, if_neg hc, if_neg (by decide), if_pos rfl, if_pos rfl]
   cases m with
   | zero => rw [if_neg (by decide)]; rfl
   | succ m => rw [if_pos (by omega), List.replicate_succ, List.cons_append, impl_isRepoPart.A, if_neg hc, if_neg (by decide), if_neg (by decide), if_neg (by decide)]
 rw [if_neg h2, if_neg h2]; by_cases h3 : c = 45
 ·
  subst h3; rw [if_pos rfl, if_pos rfl, if_neg (by omega), impl_isRepoPart.dashes l hl]
 rw [if_neg h3, if_neg h3, if_pos (by omega)]
def impl_isRepoPart.en (k v : Int) (b : Nat) : MapEntry := { key := .int .u8 k, val := .int .i64 v, born := b }
def impl_isRepoPart.m (w : World) (es : Array MapEntry) (c : Nat) : World := w.alloc (.map es c)
theorem impl_isRepoPart.ins (w : World) (es : Array MapEntry) (c : Nat) (k v : Int) (hn : Instr.findNow (.int .u8) (.int .u8 k) es.toList 0 = some none) :
  (Instr.mapUpdate 76 (.map (some w.heap.size)) (.int .u8 k) (.int .i64 v)).run Tryd.prog (impl_isRepoPart.m w es c) = .ok () (impl_isRepoPart.m w (es.push (impl_isRepoPart.en k v c)) (c + 1)) := by
 have hb : (impl_isRepoPart.m w es c).heap[w.heap.size]? = some (.map es c) := (MapKept.heap_alloc w _).1
 simp only [Instr.mapUpdate, Sem.run_bind, run_underlying Tryd.underlying76, Result.andThen, MapKept.run_getObj_map hb, MapKept.run_checkKey Tryd.underlying5 (show MapKept.IsKey (.int .u8) (.int .u8 k) from rfl), MapKept.run_findKey Tryd.underlying5 hn, MapKept.run_setObj_map _ hb]
 have e : (w.heap.push (Obj.map es c)).setIfInBounds w.heap.size (Obj.map (es.push (impl_isRepoPart.en k v c)) (c + 1)) = w.heap.push (Obj.map (es.push (impl_isRepoPart.en k v c)) (c + 1)) := by
  apply Array.ext'
  simp [Array.toList_setIfInBounds]
 exact congrArg (fun h => Result.ok () ({ heap := h, tape := w.tape, drawn := w.drawn, os := w.os, output := w.output } : World)) e
def impl_isRepoPart.es3 : Array MapEntry := #[impl_isRepoPart.en 46 1 0, impl_isRepoPart.en 95 2 1, impl_isRepoPart.en 45 100 2]
theorem impl_isRepoPart.look (w : World) (c : Int) : (Instr.lookup 76 (.map (some w.heap.size)) (.int .u8 c) false).run Tryd.prog (impl_isRepoPart.m w impl_isRepoPart.es3 3) = .ok (.int .i64 (impl_isRepoPart.most c)) (impl_isRepoPart.m w impl_isRepoPart.es3 3) := by
 have hb : (impl_isRepoPart.m w impl_isRepoPart.es3 3).heap[w.heap.size]? = some (.map impl_isRepoPart.es3 3) := (MapKept.heap_alloc w _).1
 obtain ⟨a, ha, hv⟩ : ∃ a, Instr.findNow (.int .u8) (.int .u8 c) impl_isRepoPart.es3.toList 0 = some a ∧ (match a with | some (_, v) => v = .int .i64 (impl_isRepoPart.most c) | none => impl_isRepoPart.most c = 0) := by
  unfold impl_isRepoPart.es3 impl_isRepoPart.most; by_cases h1 : c = 46
  ·
   exact ⟨some (0, .int .i64 1), by simp [Instr.findNow, Instr.sameNow, impl_isRepoPart.en, h1], by simp [h1]⟩
  have e1 : (c == 46) = false := beq_eq_false_iff_ne.2 h1; by_cases h2 : c = 95
  ·
   exact ⟨some (1, .int .i64 2), by simp [Instr.findNow, Instr.sameNow, impl_isRepoPart.en, h1, h2], by simp [h1, h2]⟩
  have e2 : (c == 95) = false := beq_eq_false_iff_ne.2 h2; by_cases h3 : c = 45
  ·
   exact ⟨some (2, .int .i64 100), by simp [Instr.findNow, Instr.sameNow, impl_isRepoPart.en, h1, h2, h3], by simp [h1, h2, h3]⟩
  have e3 : (c == 45) = false := beq_eq_false_iff_ne.2 h3; exact ⟨none, by simp [Instr.findNow, Instr.sameNow, impl_isRepoPart.en, e1, e2, e3], by simp [h1, h2, h3]⟩
 cases a with
 | none =>
  simp only at hv
  simp [Instr.lookup, run_underlying Tryd.underlying76, MapKept.run_getObj_map hb, MapKept.run_checkKey Tryd.underlying5 (show MapKept.IsKey (.int .u8) (.int .u8 c) from rfl), MapKept.run_findKey Tryd.underlying5 ha, Tryd.zeroValue3, Result.andThen, hv]
 | some a =>
  obtain ⟨j, v⟩ := a
  simp only at hv
  simp [Instr.lookup, run_underlying Tryd.underlying76, MapKept.run_getObj_map hb, MapKept.run_checkKey Tryd.underlying5 (show MapKept.IsKey (.int .u8) (.int .u8 c) from rfl), MapKept.run_findKey Tryd.underlying5 ha, Result.andThen, hv]
theorem impl_isRepoPart.drop (s : ByteArray) (i : Nat) (h : i < s.size) : (bytesOf s).drop i = bt s i :: (bytesOf s).drop (i + 1) := by
 have hl : i < (bytesOf s).length := by rw [bytesOf_length]; exact h
 rw [List.drop_eq_getElem_cons hl]
 congr 1
 have := rd_bytesOf s i; rw [← this]
 simp [rd, List.getD_eq_getElem?_getD, List.getElem?_eq_getElem hl]
theorem impl_isRepoPart.wsub (m j : Nat) (h : m ≤ 100) (hj : j ≤ m) : wrap64 ((m : Int) - (j : Int)) = ((m - j : Nat) : Int) := by unfold wrap64; omega
set_option maxHeartbeats 8000000 in
set_option maxRecDepth 100000 in
theorem impl_isRepoPart.calls (a0 : ByteArray) (r : Bool) (w : World) (h : impl_isRepoPart.f a0 = some r) :
  Calls Tryd.prog 50 #[.string a0] w fun e w' => e = .returned (.bool r) ∧ Below w.heap.size w w' := by
 unfold impl_isRepoPart.f at h
 split at h
 case isFalse => exact absurd h (by simp)
 rename_i hg
 injection h with h
 have HG := aM hg; have H0 := aM h; have HZ := aM (bytesOf_length a0); clear h hg; go_enter Tryd.func50, Tryd.ntmps50; go_wp2
 go_loopg [3] a0.size (fun kq v3 w' => ∃ i : Nat, v3 = .int .i64 (i : Int) ∧ Aside0 (i + kq = a0.size) ∧ Aside0 (impl_isRepoPart.A 0 ((bytesOf a0).drop i) = r) ∧ Aside0 (Below w.heap.size w w'))
 case atStart => exact ⟨0, rfl, ⟨Nat.zero_add _⟩, ⟨by rw [List.drop_zero]; exact H0.out⟩, ⟨Below.refl _ _⟩⟩
 case round =>
  obtain ⟨i, rfl, HI, HA, HB⟩ := hrel; go_wp2
  go_loopg [3] gk (fun kq v3 w' => ∃ j : Nat, v3 = .int .i64 (j : Int) ∧ Aside0 (j + kq = a0.size) ∧ Aside0 (i ≤ j) ∧ Aside0 (if i = j then impl_isRepoPart.A 0 ((bytesOf a0).drop j) = r else impl_isRepoPart.A 1 ((bytesOf a0).drop j) = r) ∧ Aside0 (Below w.heap.size w w'))
  case atStart => exact ⟨i, rfl, HI, ⟨Nat.le_refl _⟩, ⟨by rw [if_pos rfl]; exact HA.out⟩, HB⟩
  case round =>
   obtain ⟨j, rfl, HJ, HIJ, HA2, HB2⟩ := hrel; by_cases hlt : j < a0.size
   ·
    obtain ⟨b, hb⟩ := impl_isRepoPart.word (bt a0 (j : Int)); have HW := aM hb; have c1 := decide_eq_true (show (j : Int) < (a0.size : Int) by omega); have c2 := decide_eq_true (show j < a0.size from hlt); have c3 := eq_true (show (0 : Int) ≤ (j : Int) by omega); have c4 := eq_true (show (j : Int) < (a0.size : Int) by omega); have hx : ∀ h : j < a0.size, ((a0[j]'h).toNat : Int) = bt a0 (j : Int) := bt_at a0 (j : Int); clear hb
    go_wp2_with (fail)
    refine (impl_isWordByte.calls (bt a0 (j : Int)) b wr HW.out).mono ?_; rintro e w2 ⟨rfl, ⟨nd, rfl⟩⟩
    try dsimp only
    cases b with
    | true =>
     go_wp2
     go_roundg (gk - 1)
     case measure => have := HJ.out; omega
     case rel =>
      refine ⟨j + 1, zq22, ⟨by have := HJ.out; omega⟩, ⟨by have := HIJ.out; omega⟩, ⟨?_⟩, ⟨pw_below_drewN HB2.out nd⟩⟩; have hs := HA2.out; rw [impl_isRepoPart.drop a0 j hlt] at hs; rw [if_neg (by have := HIJ.out; omega)]
      split at hs
      ·
       rw [impl_isRepoPart.A, if_pos HW.out] at hs; exact hs
      rw [impl_isRepoPart.A, if_pos HW.out] at hs; exact hs
    | false =>
     have hno : ¬ impl_isWordByte.f (bt a0 (j : Int)) = some true := by rw [HW.out]; simp
     have HNO := aM hno; clear hno; have hs := HA2.out; rw [impl_isRepoPart.drop a0 j hlt] at hs; by_cases hij : i = j
     ·
      subst hij; rw [if_pos rfl, impl_isRepoPart.A, if_neg HNO.out, if_neg (by decide), if_neg (by decide), if_neg (by decide)] at hs; subst hs; have c5 : ((i : Int) == (i : Int)) = true := beq_self_eq_true _; go_wp2; go_ret; exact ⟨rfl, pw_below_drewN HB2.out nd⟩
     rw [if_neg hij] at hs; have HS := aM hs; clear hs; have c5 : ((j : Int) == (i : Int)) = false := beq_eq_false_iff_ne.2 (by omega); have c6 : ((j : Int) == (a0.size : Int)) = false := beq_eq_false_iff_ne.2 (by omega); go_wp2
     go_loopg [3] gk (fun kq v3 w' => ∃ m : Nat, v3 = .int .i64 (m : Int) ∧ Aside0 (m + kq = a0.size) ∧ Aside0 (j ≤ m) ∧ Aside0 ((bytesOf a0).drop j = List.replicate (m - j) (bt a0 (j : Int)) ++ (bytesOf a0).drop m) ∧ Aside0 (Below w.heap.size w w'))
     case atStart => exact ⟨j, rfl, HJ, ⟨Nat.le_refl _⟩, ⟨by rw [Nat.sub_self]; rfl⟩, ⟨pw_below_drewN HB2.out nd⟩⟩
     case round =>
      obtain ⟨m, rfl, HM, HJM, HD, HB3⟩ := hrel; by_cases hml : m < a0.size
      ·
       have d1 := decide_eq_true (show (m : Int) < (a0.size : Int) by omega); have d2 := decide_eq_true (show m < a0.size from hml); have d3 := eq_true (show (0 : Int) ≤ (m : Int) by omega); have d4 := eq_true (show (m : Int) < (a0.size : Int) by omega); have hy : ∀ h : m < a0.size, ((a0[m]'h).toNat : Int) = bt a0 (m : Int) := bt_at a0 (m : Int); by_cases he : bt a0 (m : Int) = bt a0 (j : Int)
       ·
        have d5 : (bt a0 (m : Int) == bt a0 (j : Int)) = true := beq_iff_eq.2 he; have HE := aM he; clear he; go_wp2
        repeat (go_quiet (fail))
        go_wp2
        go_roundg (gk - 1)
        case measure => have := HM.out; omega
        case rel =>
         refine ⟨m + 1, zq22, ⟨by have := HM.out; omega⟩, ⟨by have := HJM.out; omega⟩, ⟨?_⟩, ⟨pw_below_drewN HB3.out _⟩⟩; rw [HD.out, impl_isRepoPart.drop a0 m hml, HE.out, show m + 1 - j = (m - j) + 1 by have := HJM.out; omega, List.replicate_succ', List.append_assoc]
         rfl
       have d5 : (bt a0 (m : Int) == bt a0 (j : Int)) = false := beq_eq_false_iff_ne.2 he; have HE := aM he; clear he
       have hjm : 1 ≤ m - j := by
        rcases Nat.eq_or_lt_of_le HJM.out with h | h
        ·
         subst h; exact absurd rfl HE.out
        omega
       have HF := aM (show (if ((m - j : Nat) : Int) > impl_isRepoPart.most (bt a0 (j : Int)) then false else impl_isRepoPart.A 0 ((bytesOf a0).drop m)) = r by
        have h1 := impl_isRepoPart.mark (bt a0 (j : Int)) HNO.out (m - j) hjm (by have := HG.out; have := HM.out; omega) ((bytesOf a0).drop m) (by rw [impl_isRepoPart.drop a0 m hml]; intro h; exact HE.out (Option.some.inj h)); rw [← HD.out, impl_isRepoPart.drop a0 j hlt, HS.out] at h1; exact h1.symm)
       have em : ∀ W : World, (Instr.makeMap 76 none).run Tryd.prog W = .ok (.map (some W.heap.size)) (W.alloc (.map #[] 0)) := fun _ => rfl; have e0 : ∀ (W : World) (n : Nat), (Instr.mapUpdate 76 (.map (some W.heap.size)) (.int .u8 46) (.int .i64 1)).run Tryd.prog ((W.drewN n).alloc (.map #[] 0)) = .ok () ((W.drewN n).alloc (.map #[impl_isRepoPart.en 46 1 0] 1)) := fun W n => impl_isRepoPart.ins (W.drewN n) #[] 0 46 1 rfl; have e1 : ∀ (W : World) (n : Nat), (Instr.mapUpdate 76 (.map (some W.heap.size)) (.int .u8 95) (.int .i64 2)).run Tryd.prog ((W.drewN n).alloc (.map #[impl_isRepoPart.en 46 1 0] 1)) = .ok () ((W.drewN n).alloc (.map #[impl_isRepoPart.en 46 1 0, impl_isRepoPart.en 95 2 1] 2)) := fun W n => impl_isRepoPart.ins (W.drewN n) #[impl_isRepoPart.en 46 1 0] 1 95 2 rfl; have e2 : ∀ (W : World) (n : Nat), (Instr.mapUpdate 76 (.map (some W.heap.size)) (.int .u8 45) (.int .i64 100)).run Tryd.prog ((W.drewN n).alloc (.map #[impl_isRepoPart.en 46 1 0, impl_isRepoPart.en 95 2 1] 2)) = .ok () ((W.drewN n).alloc (.map #[impl_isRepoPart.en 46 1 0, impl_isRepoPart.en 95 2 1, impl_isRepoPart.en 45 100 2] 3)) := fun W n => impl_isRepoPart.ins (W.drewN n) #[impl_isRepoPart.en 46 1 0, impl_isRepoPart.en 95 2 1] 2 45 100 rfl
       have e3 : ∀ (W : World) (n : Nat) (c : Int), (Instr.lookup 76 (.map (some W.heap.size)) (.int .u8 c) false).run Tryd.prog ((W.drewN n).alloc (.map #[impl_isRepoPart.en 46 1 0, impl_isRepoPart.en 95 2 1, impl_isRepoPart.en 45 100 2] 3)) = .ok (.int .i64 (impl_isRepoPart.most c)) ((W.drewN n).alloc (.map #[impl_isRepoPart.en 46 1 0, impl_isRepoPart.en 95 2 1, impl_isRepoPart.en 45 100 2] 3)) := fun W n c => impl_isRepoPart.look (W.drewN n) c; go_wp2
       repeat (go_quiet (fail))
       go_wp2
       all_goals rename_i hcmp
       all_goals have hm100 : m ≤ 100 := by have := HG.out; have := HM.out; omega
       all_goals rw [impl_isRepoPart.wsub m j hm100 HJM.out] at hcmp
       all_goals have hf := HF.out
       ·
        rw [if_pos hcmp] at hf; subst hf; go_ret; exact ⟨rfl, below_alloc (pw_below_drewN HB3.out _) _⟩
       rw [if_neg (by omega)] at hf
       go_roundg (a0.size - m)
       case measure =>
        have := HI.out; have := HM.out; have := HJM.out; have := HIJ.out
        omega
       case rel => exact ⟨m, rfl, ⟨by have := HM.out; omega⟩, ⟨hf⟩, ⟨below_alloc (pw_below_drewN HB3.out _) _⟩⟩
      have d1 := decide_eq_false (show ¬ (m : Int) < (a0.size : Int) by omega); have d2 := decide_eq_false (show ¬ m < a0.size from hml); have hjm : 1 ≤ m - j := by have := HM.out; omega
      have HF := aM (show (if ((m - j : Nat) : Int) > impl_isRepoPart.most (bt a0 (j : Int)) then false else impl_isRepoPart.A 0 ((bytesOf a0).drop m)) = r by
       have h1 := impl_isRepoPart.mark (bt a0 (j : Int)) HNO.out (m - j) hjm (by have := HG.out; have := HM.out; omega) ((bytesOf a0).drop m) (by rw [List.drop_eq_nil_of_le (by rw [HZ.out]; omega)]; simp); rw [← HD.out, impl_isRepoPart.drop a0 j hlt, HS.out] at h1; exact h1.symm)
      have em : ∀ W : World, (Instr.makeMap 76 none).run Tryd.prog W = .ok (.map (some W.heap.size)) (W.alloc (.map #[] 0)) := fun _ => rfl; have e0 : ∀ (W : World) (n : Nat), (Instr.mapUpdate 76 (.map (some W.heap.size)) (.int .u8 46) (.int .i64 1)).run Tryd.prog ((W.drewN n).alloc (.map #[] 0)) = .ok () ((W.drewN n).alloc (.map #[impl_isRepoPart.en 46 1 0] 1)) := fun W n => impl_isRepoPart.ins (W.drewN n) #[] 0 46 1 rfl; have e1 : ∀ (W : World) (n : Nat), (Instr.mapUpdate 76 (.map (some W.heap.size)) (.int .u8 95) (.int .i64 2)).run Tryd.prog ((W.drewN n).alloc (.map #[impl_isRepoPart.en 46 1 0] 1)) = .ok () ((W.drewN n).alloc (.map #[impl_isRepoPart.en 46 1 0, impl_isRepoPart.en 95 2 1] 2)) := fun W n => impl_isRepoPart.ins (W.drewN n) #[impl_isRepoPart.en 46 1 0] 1 95 2 rfl; have e2 : ∀ (W : World) (n : Nat), (Instr.mapUpdate 76 (.map (some W.heap.size)) (.int .u8 45) (.int .i64 100)).run Tryd.prog ((W.drewN n).alloc (.map #[impl_isRepoPart.en 46 1 0, impl_isRepoPart.en 95 2 1] 2)) = .ok () ((W.drewN n).alloc (.map #[impl_isRepoPart.en 46 1 0, impl_isRepoPart.en 95 2 1, impl_isRepoPart.en 45 100 2] 3)) := fun W n => impl_isRepoPart.ins (W.drewN n) #[impl_isRepoPart.en 46 1 0, impl_isRepoPart.en 95 2 1] 2 45 100 rfl
      have e3 : ∀ (W : World) (n : Nat) (c : Int), (Instr.lookup 76 (.map (some W.heap.size)) (.int .u8 c) false).run Tryd.prog ((W.drewN n).alloc (.map #[impl_isRepoPart.en 46 1 0, impl_isRepoPart.en 95 2 1, impl_isRepoPart.en 45 100 2] 3)) = .ok (.int .i64 (impl_isRepoPart.most c)) ((W.drewN n).alloc (.map #[impl_isRepoPart.en 46 1 0, impl_isRepoPart.en 95 2 1, impl_isRepoPart.en 45 100 2] 3)) := fun W n c => impl_isRepoPart.look (W.drewN n) c; go_wp2
      repeat (go_quiet (fail))
      go_wp2
      all_goals rename_i hcmp
      all_goals have hm100 : m ≤ 100 := by have := HG.out; have := HM.out; omega
      all_goals rw [impl_isRepoPart.wsub m j hm100 HJM.out] at hcmp
      all_goals have hf := HF.out
      ·
       rw [if_pos hcmp] at hf; subst hf; go_ret; exact ⟨rfl, below_alloc (pw_below_drewN HB3.out _) _⟩
      rw [if_neg (by omega)] at hf
      go_roundg (a0.size - m)
      case measure =>
       have := HI.out; have := HM.out; have := HJM.out; have := HIJ.out
       omega
      case rel => exact ⟨m, rfl, ⟨by have := HM.out; omega⟩, ⟨hf⟩, ⟨below_alloc (pw_below_drewN HB3.out _) _⟩⟩
   have c1 := decide_eq_false (show ¬ (j : Int) < (a0.size : Int) by omega); have c2 := decide_eq_false (show ¬ j < a0.size from hlt); have ej : j = a0.size := by have := HJ.out; omega
   have c6 : ((j : Int) == (a0.size : Int)) = true := beq_iff_eq.2 (by omega); have hs := HA2.out; rw [List.drop_eq_nil_of_le (by rw [HZ.out]; omega)] at hs; by_cases hij : i = j
   ·
    have c5 : ((j : Int) == (i : Int)) = true := beq_iff_eq.2 (by omega); rw [if_pos hij] at hs; subst hs; go_wp2; go_ret; exact ⟨rfl, HB2.out⟩
   have c5 : ((j : Int) == (i : Int)) = false := beq_eq_false_iff_ne.2 (by omega); rw [if_neg hij] at hs; subst hs; go_wp2; go_ret; exact ⟨rfl, HB2.out⟩

end Go.Proofs.YtldpdaifajjaeaaDoor.QFnExactWriteRef
