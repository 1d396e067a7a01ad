/- For every text and number the program's Nibble returns what the reference's returns. No condition but the size that the model lets a text have. -/
import Derived.Test.YthepjblpjlhglaaDoorQFnExactNibblex
import Derived.Test.YthepjblpjlhglaaDoorDigFnExactNibble
namespace Go.Proofs.YthepjblpjlhglaaDoor.Pure
open Go.RowKit Go.Proofs.YthepjblpjlhglaaDoor.QFnExactNibble Go.Proofs.YthepjblpjlhglaaDoorW.PrintWords Go.Proofs.YthepjblpjlhglaaDoorW.PrintLast Go.Proofs.YthepjblpjlhglaaDoorW.PrintMore Go.Proofs.YthepjblpjlhglaaDoor.Bits Go.Proofs.YthepjblpjlhglaaDoor.Num Go.Proofs.YthepjblpjlhglaaDoor.Dig
set_option linter.unusedSimpArgs false
set_option linter.unusedVariables false
namespace NibbleOf
theorem l1Digit_eq (c : Int) : spec_l1Digit.f c = some (decide (48 ≤ c ∧ c ≤ 57)) := by
  unfold spec_l1Digit.f
  by_cases h1 : c ≥ 48 <;> by_cases h2 : c ≤ 57 <;> simp [h1, h2] <;> omega
theorem l1Hexit_eq (c : Int) (h0 : 0 ≤ c) (h1 : c ≤ 255) : spec_l1Hexit.f c = some (hexV c) := by
  unfold spec_l1Hexit.f
  rw [l1Digit_eq]
  simp only [Option.bind_some, decide_eq_true_eq, hexV]
  repeat' split
  all_goals first | rfl | (exfalso; omega) | (congr 1; omega)
theorem spec_dig_loop (s : ByteArray) (hs : s.size = 71) (d : Nat) : ∀ i : Nat, i + d = 71 → Ev (fun k => spec_DigestOk.l0 k s (i : Int)) (((bytesOf s).drop i).all hexB) := by
  induction d with
  | zero =>
    intro i hi
    rw [List.drop_eq_nil_of_le (by rw [bytesOf_length]; omega)]
    refine Ev.step (f := fun _ => some true) (fun k => ?_) (Ev.now _)
    simp only [spec_DigestOk.l0]; rw [if_neg (by omega)]
  | succ d ih =>
    intro i hi
    have hlt : i < s.size := by omega
    rw [drop_bytes s i hlt]
    have hb := bt_range s i
    refine Ev.step (f := fun k => if hexV (bt s i) < 0 then some false else spec_DigestOk.l0 k s ((i + 1 : Nat) : Int)) (fun k => ?_) ?_
    · simp only [spec_DigestOk.l0]; rw [if_pos (by omega), if_pos (by omega), if_pos (by omega), l1Hexit_eq _ hb.1 hb.2]; simp only [Option.bind_some]
      rw [wrap_succ i _ hlt (by omega)]
    · by_cases h : hexB (bt s i) = true
      · have hn : ¬ hexV (bt s i) < 0 := by rw [hexV_neg]; exact fun hh => hh h
        simp only [if_neg hn, List.all_cons, h, Bool.true_and]; exact ih (i + 1) (by omega)
      · have hn : hexV (bt s i) < 0 := by rw [hexV_neg]; exact h
        simp only [if_pos hn, List.all_cons, h, Bool.false_and]; exact Ev.now _
theorem spec_dig (s : ByteArray) : Ev (fun k => spec_DigestOk.f k s) (digestOk s) := by
  unfold spec_DigestOk.f digestOk
  by_cases h1 : (s.size : Int) = 71
  · have hs : s.size = 71 := by omega
    simp only [if_pos h1, show decide (s.size = 71) = true from decide_eq_true hs, Bool.true_and, show (0 : Nat) ≤ 7 by omega, show (7 : Int) ≤ (s.size : Int) by omega, if_true]
    refine Ev.step (f := fun k => if ((s.extract 0 7).toList != ([115, 104, 97, 50, 53, 54, 58] : List UInt8)) = true then some false else spec_DigestOk.l0 k s 7) (fun k => by simp only [spec_DigestOk.j0]) ?_
    cases h : ((s.extract 0 7).toList == digHead) with
    | true =>
      have h' : ((s.extract 0 7).toList != ([115, 104, 97, 50, 53, 54, 58] : List UInt8)) = false := by
        show (!((s.extract 0 7).toList == digHead)) = false; rw [h]; rfl
      simp only [h', Bool.false_eq_true, if_false, Bool.true_and]
      exact spec_dig_loop s hs 64 7 rfl
    | false =>
      have h' : ((s.extract 0 7).toList != ([115, 104, 97, 50, 53, 54, 58] : List UInt8)) = true := by
        show (!((s.extract 0 7).toList == digHead)) = true; rw [h]; rfl
      simp only [h', if_true, Bool.false_and]
      exact Ev.now _
  · have hs : ¬ s.size = 71 := by omega
    simp only [if_neg h1, hs, decide_false, Bool.false_and]
    refine Ev.step (f := fun k => some false) (fun k => by simp only [spec_DigestOk.j0, if_true]) (Ev.now _)
theorem head_size : (⟨#[115, 104, 97, 50, 53, 54, 58]⟩ : ByteArray).size = 7 := rfl
theorem head_list : (⟨#[115, 104, 97, 50, 53, 54, 58]⟩ : ByteArray).toList = digHead := toL _
theorem cutHead (s : ByteArray) : strings_CutPrefix.f s (⟨#[115, 104, 97, 50, 53, 54, 58]⟩ : ByteArray) = some (if (decide (7 ≤ s.size) && ((s.extract 0 7).toList == digHead)) = true then (s.extract 7 s.size, true) else (s, false)) := by
  unfold strings_CutPrefix.f stringslite_CutPrefix.f stringslite_HasPrefix.f
  rw [head_size, head_list]
  by_cases h : 7 ≤ s.size
  · have h2 : (s.size : Int) ≥ ((7 : Nat) : Int) := by omega
    simp only [if_pos h2, show (0 : Int) ≤ ((7 : Nat) : Int) by omega, show ((7 : Nat) : Int) ≤ (s.size : Int) from h2, if_true, Option.bind_some, h, decide_true, Bool.true_and, Int.toNat_natCast]
    cases hh : ((s.extract 0 7).toList == digHead) <;> simp
  · have h2 : ¬ (s.size : Int) ≥ ((7 : Nat) : Int) := by omega
    simp only [if_neg h2, Option.bind_some, h, decide_false, Bool.false_and, Bool.false_eq_true, if_false]
theorem trimHex (s : ByteArray) (hs : s.size ≤ 140737488351232) : ∃ t, strings_Trim.f s (⟨#[48, 49, 50, 51, 52, 53, 54, 55, 56, 57, 97, 98, 99, 100, 101, 102]⟩ : ByteArray) = some t ∧ (t.toList == ([] : List UInt8)) = (bytesOf s).all hexB := by
  unfold strings_Trim.f
  refine ⟨_, if_pos ⟨by omega, by decide, by decide⟩, ?_⟩
  rw [toL]
  show (Lib.trimS s.data.toList hexSet == []) = _
  rw [trimS_nil]
  have := all_bytes s hexB 0
  rw [List.drop_zero, List.drop_zero] at this
  rw [this]
  congr 1; funext b; exact hexSet_is b
theorem impl_dig (s : ByteArray) (hs : s.size ≤ 140737488351232) : impl_isDigest.f s = some (digestOk s) := by
  unfold impl_isDigest.f
  rw [cutHead]
  simp only [Option.bind_some]
  unfold digestOk
  by_cases h71 : s.size = 71
  · cases hh : ((s.extract 0 7).toList == digHead) with
    | true =>
      have hx : (s.extract 7 s.size).size = 64 := by rw [ByteArray.size_extract]; omega
      obtain ⟨t, ht, he⟩ := trimHex (s.extract 7 s.size) (by omega)
      rw [h71] at hx ht he ⊢
      simp only [show (7 : Nat) ≤ 71 by omega, decide_true, Bool.true_and, if_true, hx, show ((64 : Nat) : Int) = 64 from rfl, ht, Option.bind_some, he]
      rw [show (bytesOf (s.extract 7 71)) = (bytesOf s).drop 7 by
        simp only [bytesOf, extract_data, List.map_take, List.map_drop]
        rw [List.take_of_length_le]
        simp only [List.length_drop, List.length_map, Array.length_toList]
        have : s.data.size = 71 := h71
        omega]
    | false => simp
  · simp only [h71, decide_false, Bool.false_and]
    cases hh : (decide (7 ≤ s.size) && ((s.extract 0 7).toList == digHead)) with
    | true =>
      have h7 : 7 ≤ s.size := by simp only [Bool.and_eq_true, decide_eq_true_eq] at hh; exact hh.1
      have hx : ¬ ((s.extract 7 s.size).size : Int) = 64 := by rw [ByteArray.size_extract]; omega
      simp only [if_true, if_neg hx]
    | false => simp
set_option maxRecDepth 100000 in
theorem index_hex (c : Int) (h0 : 0 ≤ c) (h1 : c ≤ 255) : Lib.indexByte hexSet c.toNat.toUInt8 = hexV c := by
  have key : ∀ n : Fin 256, Lib.indexByte hexSet (n.1).toUInt8 = hexV (n.1 : Int) := by decide
  have := key ⟨c.toNat, by omega⟩
  rw [show ((⟨c.toNat, by omega⟩ : Fin 256).1 : Int) = c from Int.toNat_of_nonneg h0] at this
  exact this
/-- The k-th digit's value, or -1. -/
def nibM (s : ByteArray) (n : Int) : Int := if digestOk s = true then (if 0 ≤ n ∧ n ≤ 63 then hexV (bt s (7 + n)) else -1) else -1
end NibbleOf
open NibbleOf

theorem FnExactNibble : laws_FnExactNibble.Pure := by
  intro s n hs hn
  have hw := wf_i64 hn
  refine Ev.rounds (g := fun k => laws_FnExactNibble.f k s n) ?_
  unfold laws_FnExactNibble.f
  by_cases h0 : (s.size : Int) > 1048576
  · simp only [if_pos h0]; exact Ev.now _
  · simp only [if_neg h0]
    refine Ev.bind (a := nibM s n) ?_ (Ev.bind (a := nibM s n) ?_ ?_)
    · unfold spec_Nibble.f nibM
      refine Ev.bind (spec_dig s) ?_
      cases hd : digestOk s with
      | false => simp only [Bool.false_eq_true, if_false]; exact Ev.now _
      | true =>
        have h71 := digestOk_size hd
        simp only [if_true]
        unfold spec_l1In.f
        by_cases ha : n ≥ 0
        · by_cases hb : n ≤ 63
          · have hwr : wrap64 (7 + n) = 7 + n := by unfold wrap64; omega
            have hbt := bt_range s (7 + n)
            simp only [if_pos ha, hb, decide_true, Option.bind_some, if_true, show 0 ≤ n from ha, and_self, hwr]
            rw [if_pos (by omega), if_pos (by omega), l1Hexit_eq _ hbt.1 hbt.2]
            exact Ev.now _
          · simp only [if_pos ha, hb, decide_false, Option.bind_some, Bool.false_eq_true, if_false, and_false]; exact Ev.now _
        · simp only [if_neg ha, Option.bind_some, Bool.false_eq_true, if_false, show ¬ (0 ≤ n) from ha, false_and]; exact Ev.now _
    · unfold impl_Nibble.f nibM
      rw [impl_dig s hs]
      simp only [Option.bind_some]
      cases hd : digestOk s with
      | false => simp only [Bool.false_eq_true, if_false]; exact Ev.now _
      | true =>
        have h71 := digestOk_size hd
        simp only [if_true]
        by_cases ha : n < 0
        · simp only [if_pos ha, show ¬ (0 ≤ n) by omega, false_and, if_false]; exact Ev.now _
        · by_cases hb : n > 63
          · simp only [if_neg ha, if_pos hb, show ¬ (n ≤ 63) by omega, and_false, if_false]; exact Ev.now _
          · have hwr : wrap64 (7 + n) = 7 + n := by unfold wrap64; omega
            have hbt := bt_range s (7 + n)
            simp only [if_neg ha, if_neg hb, hwr, show 0 ≤ n by omega, show n ≤ 63 by omega, and_self, if_true]
            rw [if_pos (by omega), if_pos (by omega)]
            unfold strings_IndexByte.f
            rw [show (⟨#[48, 49, 50, 51, 52, 53, 54, 55, 56, 57, 97, 98, 99, 100, 101, 102]⟩ : ByteArray).data.toList = hexSet from rfl, index_hex _ hbt.1 hbt.2]
            exact Ev.now _
    · simp only [if_true]; exact Ev.now _

end Go.Proofs.YthepjblpjlhglaaDoor.Pure
