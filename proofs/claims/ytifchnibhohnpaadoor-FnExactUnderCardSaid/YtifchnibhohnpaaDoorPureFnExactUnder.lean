/- For every set and prefix the program's Under returns what the reference's returns, leaves the set as it was, and what it returns owns its memory. No condition but that the arguments can be read. -/
import Derived.Test.YtifchnibhohnpaaDoorQFnExactUnderx
import Derived.Test.YtifchnibhohnpaaDoorSetFnExactUnder
namespace Go.Proofs.YtifchnibhohnpaaDoor.Pure
open Go.RowKit Go.Proofs.YtifchnibhohnpaaDoor.QFnExactUnder Go.Proofs.YtifchnibhohnpaaDoorW.PrintWords Go.Proofs.YtifchnibhohnpaaDoorW.PrintLast Go.Proofs.YtifchnibhohnpaaDoorW.PrintMore Go.Proofs.YtifchnibhohnpaaDoor.Bits Go.Proofs.YtifchnibhohnpaaDoor.Num Go.Proofs.YtifchnibhohnpaaDoor.Dig Go.Proofs.YtifchnibhohnpaaDoor.Loops Go.Proofs.YtifchnibhohnpaaDoor.SetOf
set_option linter.unusedSimpArgs false
set_option linter.unusedVariables false
namespace UnderOf
theorem rdS (xs : List ByteArray) (i : Nat) (h : i < xs.length) : rdOf ByteArray.empty xs (i : Int) = xs[i] := getD_at xs i _ h
/-- What the sizes come to: less than nothing, or the list is short and its texts are. -/
theorem szS_loop (xs : List ByteArray) (hx : ∀ x ∈ xs, x.size ≤ maxLen) (hl : xs.length ≤ 1048576) (d : Nat) : ∀ (i : Nat) (left : Int), i + d = xs.length → 0 ≤ left → left ≤ 1048576 →
    ∃ r, Ev (fun k => laws_szStringS.l0 k xs left (i : Int)) r ∧ r ≤ left ∧ (0 ≤ r → ∀ j, i ≤ j → (h : j < xs.length) → xs[j].size ≤ 1048576) := by
  induction d with
  | zero =>
    intro i left hi h0 h1
    refine ⟨left, Ev.step (f := fun _ => some left) (fun k => ?_) (Ev.now _), by omega, fun _ j hj h => by omega⟩
    simp only [laws_szStringS.l0]; rw [if_neg (by omega)]
  | succ d ih =>
    intro i left hi h0 h1
    have hlt : i < xs.length := by omega
    have hs := hx _ (List.getElem_mem hlt)
    unfold maxLen at hs
    have ew : wrap64 (left - (xs[i].size : Int)) = left - xs[i].size := by unfold wrap64; omega
    by_cases hn : left - (xs[i].size : Int) < 0
    · refine ⟨-1, Ev.step (f := fun _ => some (-1)) (fun k => ?_) (Ev.now _), by omega, fun h => absurd h (by omega)⟩
      simp only [laws_szStringS.l0]; rw [if_pos (by omega), if_pos (by omega), rdS xs i hlt, ew, if_pos hn]
    · obtain ⟨r, hr, hr1, hr2⟩ := ih (i + 1) (left - xs[i].size) (by omega) (by omega) (by omega)
      refine ⟨r, Ev.step (f := fun k => laws_szStringS.l0 k xs (left - xs[i].size) ((i + 1 : Nat) : Int)) (fun k => ?_) hr, by omega, fun h j hj hjl => ?_⟩
      · simp only [laws_szStringS.l0]; rw [if_pos (by omega), if_pos (by omega), rdS xs i hlt, ew, if_neg hn, wrap_nat i (by omega)]
      · by_cases e : i = j
        · subst e; omega
        · exact hr2 h j (by omega) hjl
theorem szS_ok (xs : List ByteArray) (left : Int) (h0 : 0 ≤ left) (h1 : left ≤ 1048576) (hl : xs.length ≤ maxLen) (hx : ∀ x ∈ xs, x.size ≤ maxLen) :
    ∃ r, Ev (fun k => laws_szStringS.f k xs left) r ∧ r ≤ left ∧ (0 ≤ r → xs.length ≤ 1048576 ∧ ∀ x ∈ xs, x.size ≤ 1048576) := by
  unfold laws_szStringS.f
  unfold maxLen at hl
  have ew : wrap64 (left - (xs.length : Int)) = left - xs.length := by unfold wrap64; omega
  by_cases hn : (left - (xs.length : Int)) < 0
  · refine ⟨-1, ?_, by omega, fun h => absurd h (by omega)⟩
    simp only [ew, if_pos hn]; exact Ev.now _
  · obtain ⟨r, hr, hr1, hr2⟩ := szS_loop xs hx (by omega) xs.length 0 (left - xs.length) (by omega) (by omega) (by omega)
    simp only [ew, if_neg hn]
    refine ⟨r, hr, by omega, fun h => ⟨by omega, fun x hxm => ?_⟩⟩
    obtain ⟨j, hj, rfl⟩ := List.getElem_of_mem hxm
    exact hr2 h j (by omega) hj
theorem toS_ok (l : List ByteArray) (hl : l.length ≤ 1048576) : Ev (fun k => laws_toStringS.f k l) l := by
  unfold laws_toStringS.f
  simp only [if_pos (show (0 : Int) ≤ (l.length : Int) by omega), if_pos (show ((l.length : Int)).toNat ≤ 17592186044416 by omega)]
  have := fill_loop l id (F := fun k acc i => laws_toStringS.l0 k l acc i) (fun i h acc ha k => by
    simp only [laws_toStringS.l0]; rw [if_pos (by omega), if_pos (by omega), if_pos (by omega), rdS l i h, wrap_nat i (by omega), Int.toNat_natCast]; rfl) (fun acc ha k => by
    simp only [laws_toStringS.l0]; rw [if_neg (by omega)]) (List.replicate ((l.length : Int)).toNat ⟨#[]⟩) (by simp)
  simpa using this
theorem eqS_refl (l : List ByteArray) (hl : l.length ≤ 2097152) : Ev (fun k => laws_eqStringS.f k l l) true := by
  unfold laws_eqStringS.f
  simp only [if_true]
  refine on_loop (n := l.length) (F := fun k i => laws_eqStringS.l0 k l l i) (fun i hi k => ?_) (Ev.step (f := fun _ => some true) (fun k => ?_) (Ev.now _))
  · simp only [laws_eqStringS.l0]; rw [if_pos (by omega), if_pos (by omega), if_pos (by omega), if_pos trivial, wrap_nat i (by omega)]
  · simp only [laws_eqStringS.l0]; rw [if_neg (by omega)]
theorem markText_loop (n : Nat) : ∀ (v : Int) (acc : ByteArray), v.toNat ≤ n → 0 ≤ v → v ≤ 4611686018427387904 → acc.size + v.toNat ≤ 4611686018427387905 → ∃ t, Ev (fun k => laws_markText.l0 k v acc) t := by
  induction n with
  | zero =>
    intro v acc hn h0 h1 hs
    refine ⟨(⟨#[109]⟩ : ByteArray) ++ acc, Ev.step (f := fun _ => some ((⟨#[109]⟩ : ByteArray) ++ acc)) (fun k => ?_) (Ev.now _)⟩
    simp only [laws_markText.l0]; rw [if_neg (by omega), if_pos (by omega)]
  | succ n ih =>
    intro v acc hn h0 h1 hs
    by_cases hv : v > 0
    · have e1 : wrap64 (Int.tdiv v 10) = v / 10 := by rw [Int.tdiv_eq_ediv_of_nonneg h0]; unfold wrap64; omega
      have sz : (strOfNums [wrap64 (48 + Int.tmod v 10) % 256]).size = 1 := by rw [size_strOfNums]; rfl
      have sz2 : (strOfNums [wrap64 (48 + Int.tmod v 10) % 256] ++ acc).size = 1 + acc.size := by rw [ByteArray.size_append, sz]
      obtain ⟨t, ht⟩ := ih (v / 10) (strOfNums [wrap64 (48 + Int.tmod v 10) % 256] ++ acc) (by omega) (by omega) (by omega) (by rw [sz2]; omega)
      refine ⟨t, Ev.step (f := fun k => laws_markText.l0 k (v / 10) (strOfNums [wrap64 (48 + Int.tmod v 10) % 256] ++ acc)) (fun k => ?_) ht⟩
      simp only [laws_markText.l0, Option.bind_some]; rw [if_pos hv, if_pos (by rw [sz]; omega), e1]
    · refine ⟨(⟨#[109]⟩ : ByteArray) ++ acc, Ev.step (f := fun _ => some ((⟨#[109]⟩ : ByteArray) ++ acc)) (fun k => ?_) (Ev.now _)⟩
      simp only [laws_markText.l0]; rw [if_neg hv, if_pos (by omega)]
/-- The text of a mark. -/
noncomputable def markT (v : Int) : ByteArray := open Classical in if h : ∃ t, Ev (fun k => laws_markText.f k v) t then Classical.choose h else ⟨#[]⟩
theorem markT_ok (v : Int) (h0 : 0 < v) (h1 : v ≤ 4611686018427387904) : Ev (fun k => laws_markText.f k v) (markT v) := by
  have h : ∃ t, Ev (fun k => laws_markText.f k v) t := by
    obtain ⟨t, ht⟩ := markText_loop v.toNat v ⟨#[]⟩ (Nat.le_refl _) (by omega) h1 (by show 0 + v.toNat ≤ _; omega)
    refine ⟨t, ?_⟩
    unfold laws_markText.f
    simp only [if_neg (show ¬ v ≤ 0 by omega)]; exact ht
  unfold markT
  rw [dif_pos h]; exact Classical.choose_spec h
theorem markS_ok (l : List ByteArray) (hl : l.length ≤ 2097152) (m : Int) (h0 : 1 ≤ m) (h1 : m ≤ 1000000000) :
    ∃ ys : List ByteArray, Ev (fun k => laws_markStringS.f k l m) (m + l.length, ys) ∧ ys.length = l.length ∧ ∀ (i : Nat) (h : i < ys.length), ys[i] = markT (m + i) := by
  obtain ⟨ys, he, hyl, hy⟩ := mark_loop (c := 1) (upd := fun v _ => markT v) (F := fun k acc v i => laws_markStringS.l0 k acc v i) l m
    (fun i acc h ha r hr => by
      refine Ev.step (f := fun k => (laws_markText.f k (m + 1 * (i : Int))).bind fun t => laws_markStringS.l0 k (acc.set i t) (m + 1 * ((i + 1 : Nat) : Int)) ((i + 1 : Nat) : Int)) (fun k => ?_) (Ev.bind (markT_ok _ (by omega) (by omega)) hr)
      simp only [laws_markStringS.l0]; rw [if_pos (by omega), Int.toNat_natCast, wrap_nat i (by omega), show wrap64 (m + 1 * (i : Int) + 1) = m + 1 * ((i + 1 : Nat) : Int) by unfold wrap64; omega]
      simp only [show (0 : Int) ≤ (i : Int) by omega, if_true])
    (fun acc ha => Ev.step (f := fun _ => some (m + 1 * (l.length : Int), acc)) (fun k => by simp only [laws_markStringS.l0]; rw [if_neg (by omega)]) (Ev.now _))
  refine ⟨ys, ?_, hyl, fun i h => ?_⟩
  · unfold laws_markStringS.f
    rw [Int.one_mul] at he; exact he
  · rw [hy i h (by omega), Int.one_mul]
theorem heldS_ok (ys : List ByteArray) (m : Int) (h0 : 1 ≤ m) (h1 : m ≤ 1000000000) (hl : ys.length ≤ 2097152) (hy : ∀ (i : Nat) (h : i < ys.length), ys[i] = markT (m + i)) : Ev (fun k => laws_heldStringS.f k ys m) (m + ys.length) := by
  unfold laws_heldStringS.f
  have := fold_loop (r := m + (ys.length : Int)) (n := ys.length) (F := fun k v i => laws_heldStringS.l0 k ys v i) (st := fun i => m + (i : Int)) (fun i hi hr => ?_) (Ev.step (f := fun _ => some (m + (ys.length : Int))) (fun k => ?_) (Ev.now _))
  · rw [show m + ((0 : Nat) : Int) = m by omega] at this; exact this
  · refine Ev.step (f := fun k => (laws_markText.f k (m + (i : Int))).bind fun t => if (markT (m + i)).toList = t.toList then laws_heldStringS.l0 k ys (m + ((i + 1 : Nat) : Int)) ((i + 1 : Nat) : Int) else some (-1)) (fun k => ?_) (Ev.bind (markT_ok _ (by omega) (by omega)) (by simp only [if_true]; exact hr))
    simp only [laws_heldStringS.l0]; rw [if_pos (by omega), if_pos (by omega), rdS ys i hi, hy i hi, wrap_nat i (by omega), show wrap64 (m + (i : Int) + 1) = m + ((i + 1 : Nat) : Int) by unfold wrap64; omega]
  · simp only [laws_heldStringS.l0]; rw [if_neg (by omega)]
theorem l1Digit_eq (c : Int) : spec_l1Digit.f c = some (decide (48 ≤ c ∧ c ≤ 57)) := by
  unfold spec_l1Digit.f
  by_cases h1 : c ≥ 48 <;> by_cases h2 : c ≤ 57 <;> simp [h1, h2] <;> omega
theorem l1Hexit_eq (c : Int) (h0 : 0 ≤ c) (h1 : c ≤ 255) : spec_l1Hexit.f c = some (hexV c) := by
  unfold spec_l1Hexit.f
  rw [l1Digit_eq]
  simp only [Option.bind_some, decide_eq_true_eq, hexV]
  repeat' split
  all_goals first | rfl | (exfalso; omega) | (congr 1; omega)
theorem spec_dig_loop (s : ByteArray) (hs : s.size = 71) (d : Nat) : ∀ i : Nat, i + d = 71 → Ev (fun k => spec_DigestOk.l0 k s (i : Int)) (((bytesOf s).drop i).all hexB) := by
  induction d with
  | zero =>
    intro i hi
    rw [List.drop_eq_nil_of_le (by rw [bytesOf_length]; omega)]
    refine Ev.step (f := fun _ => some true) (fun k => ?_) (Ev.now _)
    simp only [spec_DigestOk.l0]; rw [if_neg (by omega)]
  | succ d ih =>
    intro i hi
    have hlt : i < s.size := by omega
    rw [drop_bytes s i hlt]
    have hb := bt_range s i
    refine Ev.step (f := fun k => if hexV (bt s i) < 0 then some false else spec_DigestOk.l0 k s ((i + 1 : Nat) : Int)) (fun k => ?_) ?_
    · simp only [spec_DigestOk.l0]; rw [if_pos (by omega), if_pos (by omega), if_pos (by omega), l1Hexit_eq _ hb.1 hb.2]; simp only [Option.bind_some]
      rw [wrap_succ i _ hlt (by omega)]
    · by_cases h : hexB (bt s i) = true
      · have hn : ¬ hexV (bt s i) < 0 := by rw [hexV_neg]; exact fun hh => hh h
        simp only [if_neg hn, List.all_cons, h, Bool.true_and]; exact ih (i + 1) (by omega)
      · have hn : hexV (bt s i) < 0 := by rw [hexV_neg]; exact h
        simp only [if_pos hn, List.all_cons, h, Bool.false_and]; exact Ev.now _
theorem spec_dig (s : ByteArray) : Ev (fun k => spec_DigestOk.f k s) (digestOk s) := by
  unfold spec_DigestOk.f digestOk
  by_cases h1 : (s.size : Int) = 71
  · have hs : s.size = 71 := by omega
    simp only [if_pos h1, show decide (s.size = 71) = true from decide_eq_true hs, Bool.true_and, show (0 : Nat) ≤ 7 by omega, show (7 : Int) ≤ (s.size : Int) by omega, if_true]
    refine Ev.step (f := fun k => if ((s.extract 0 7).toList != ([115, 104, 97, 50, 53, 54, 58] : List UInt8)) = true then some false else spec_DigestOk.l0 k s 7) (fun k => by simp only [spec_DigestOk.j0]) ?_
    cases h : ((s.extract 0 7).toList == digHead) with
    | true =>
      have h' : ((s.extract 0 7).toList != ([115, 104, 97, 50, 53, 54, 58] : List UInt8)) = false := by
        show (!((s.extract 0 7).toList == digHead)) = false; rw [h]; rfl
      simp only [h', Bool.false_eq_true, if_false, Bool.true_and]
      exact spec_dig_loop s hs 64 7 rfl
    | false =>
      have h' : ((s.extract 0 7).toList != ([115, 104, 97, 50, 53, 54, 58] : List UInt8)) = true := by
        show (!((s.extract 0 7).toList == digHead)) = true; rw [h]; rfl
      simp only [h', if_true, Bool.false_and]
      exact Ev.now _
  · have hs : ¬ s.size = 71 := by omega
    simp only [if_neg h1, hs, decide_false, Bool.false_and]
    refine Ev.step (f := fun k => some false) (fun k => by simp only [spec_DigestOk.j0, if_true]) (Ev.now _)
theorem head_size : (⟨#[115, 104, 97, 50, 53, 54, 58]⟩ : ByteArray).size = 7 := rfl
theorem head_list : (⟨#[115, 104, 97, 50, 53, 54, 58]⟩ : ByteArray).toList = digHead := toL _
theorem cutHead (s : ByteArray) : strings_CutPrefix.f s (⟨#[115, 104, 97, 50, 53, 54, 58]⟩ : ByteArray) = some (if (decide (7 ≤ s.size) && ((s.extract 0 7).toList == digHead)) = true then (s.extract 7 s.size, true) else (s, false)) := by
  unfold strings_CutPrefix.f stringslite_CutPrefix.f stringslite_HasPrefix.f
  rw [head_size, head_list]
  by_cases h : 7 ≤ s.size
  · have h2 : (s.size : Int) ≥ ((7 : Nat) : Int) := by omega
    simp only [if_pos h2, show (0 : Int) ≤ ((7 : Nat) : Int) by omega, show ((7 : Nat) : Int) ≤ (s.size : Int) from h2, if_true, Option.bind_some, h, decide_true, Bool.true_and, Int.toNat_natCast]
    cases hh : ((s.extract 0 7).toList == digHead) <;> simp
  · have h2 : ¬ (s.size : Int) ≥ ((7 : Nat) : Int) := by omega
    simp only [if_neg h2, Option.bind_some, h, decide_false, Bool.false_and, Bool.false_eq_true, if_false]
theorem trimHex (s : ByteArray) (hs : s.size ≤ 140737488351232) : ∃ t, strings_Trim.f s (⟨#[48, 49, 50, 51, 52, 53, 54, 55, 56, 57, 97, 98, 99, 100, 101, 102]⟩ : ByteArray) = some t ∧ (t.toList == ([] : List UInt8)) = (bytesOf s).all hexB := by
  unfold strings_Trim.f
  refine ⟨_, if_pos ⟨by omega, by decide, by decide⟩, ?_⟩
  rw [toL]
  show (Lib.trimS s.data.toList hexSet == []) = _
  rw [trimS_nil]
  have := all_bytes s hexB 0
  rw [List.drop_zero, List.drop_zero] at this
  rw [this]
  congr 1; funext b; exact hexSet_is b
theorem impl_dig (s : ByteArray) (hs : s.size ≤ 140737488351232) : impl_isDigest.f s = some (digestOk s) := by
  unfold impl_isDigest.f
  rw [cutHead]
  simp only [Option.bind_some]
  unfold digestOk
  by_cases h71 : s.size = 71
  · cases hh : ((s.extract 0 7).toList == digHead) with
    | true =>
      have hx : (s.extract 7 s.size).size = 64 := by rw [ByteArray.size_extract]; omega
      obtain ⟨t, ht, he⟩ := trimHex (s.extract 7 s.size) (by omega)
      rw [h71] at hx ht he ⊢
      simp only [show (7 : Nat) ≤ 71 by omega, decide_true, Bool.true_and, if_true, hx, show ((64 : Nat) : Int) = 64 from rfl, ht, Option.bind_some, he]
      rw [show (bytesOf (s.extract 7 71)) = (bytesOf s).drop 7 by
        simp only [bytesOf, extract_data, List.map_take, List.map_drop]
        rw [List.take_of_length_le]
        simp only [List.length_drop, List.length_map, Array.length_toList]
        have : s.data.size = 71 := h71
        omega]
    | false => simp
  · simp only [h71, decide_false, Bool.false_and]
    cases hh : (decide (7 ≤ s.size) && ((s.extract 0 7).toList == digHead)) with
    | true =>
      have h7 : 7 ≤ s.size := by simp only [Bool.and_eq_true, decide_eq_true_eq] at hh; exact hh.1
      have hx : ¬ ((s.extract 7 s.size).size : Int) = 64 := by rw [ByteArray.size_extract]; omega
      simp only [if_true, if_neg hx]
    | false => simp
theorem spec_rises (l : List ByteArray) (hl : l.length ≤ 2097152) : Ev (fun k => spec_l1Rises.f k l) (risesM l) := by
  unfold spec_l1Rises.f risesM
  have := all_loop (n := l.length - 1) (F := fun k z => spec_l1Rises.l0 k l (z + 1)) (p := fun i => less (atS l i) (atS l (i + 1)))
    (fun i hi r hr => by
      have e1 : wrap64 ((i : Int) + 1 - 1) = (i : Int) := by unfold wrap64; omega
      have e2 : wrap64 ((i : Int) + 1 + 1) = ((i + 1 : Nat) : Int) + 1 := by unfold wrap64; omega
      refine Ev.step (f := fun k => if less (atS l i) (atS l (i + 1)) = true then spec_l1Rises.l0 k l (((i + 1 : Nat) : Int) + 1) else some false) (fun k => ?_) ?_
      · simp only [spec_l1Rises.l0]
        rw [if_pos (by omega), if_pos (by omega), e1, e2, if_pos (by omega), if_pos (by omega), show (i : Int) + 1 = ((i + 1 : Nat) : Int) by omega, rdS l i (by omega), rdS l (i + 1) (by omega), atS_is l i (by omega), atS_is l (i + 1) (by omega)]
        rfl
      · cases less (atS l i) (atS l (i + 1)) with
        | true => simp only [if_true, Bool.true_and]; exact hr
        | false => simp only [Bool.false_eq_true, if_false, Bool.false_and]; exact Ev.now _)
    (Ev.step (f := fun _ => some true) (fun k => by simp only [spec_l1Rises.l0]; rw [if_neg (by omega)]) (Ev.now _))
  exact this
theorem spec_set (l : List ByteArray) (hl : l.length ≤ 2097152) : Ev (fun k => spec_l7Set.f k l) (setOk l) := by
  rw [setOk_is]
  unfold spec_l7Set.f
  by_cases h0 : (l.length : Int) > 200
  · simp only [if_pos h0, show decide (l.length ≤ 200) = false from decide_eq_false (by omega), Bool.false_and]
    exact Ev.step (f := fun _ => some false) (fun k => by simp only [spec_l7Set.j0, if_true]) (Ev.now _)
  · simp only [if_neg h0, show decide (l.length ≤ 200) = true from decide_eq_true (by omega), Bool.true_and]
    refine Ev.bind (spec_rises l hl) ?_
    cases hr : risesM l with
    | false =>
      simp only [Bool.not_false, Bool.false_and]
      exact Ev.step (f := fun _ => some false) (fun k => by simp only [spec_l7Set.j0, if_true]) (Ev.now _)
    | true =>
      simp only [Bool.not_true, Bool.true_and]
      refine Ev.step (f := fun k => spec_l7Set.l0 k l 0) (fun k => by simp only [spec_l7Set.j0, Bool.false_eq_true, if_false]) ?_
      exact all_loop (n := l.length) (F := fun k z => spec_l7Set.l0 k l z) (p := fun i => digestOk (atS l i))
        (fun i hi r hr => by
          refine Ev.step (f := fun k => (spec_DigestOk.f k (atS l i)).bind fun t => if t = true then spec_l7Set.l0 k l ((i + 1 : Nat) : Int) else some false) (fun k => ?_) (Ev.bind (spec_dig _) ?_)
          · simp only [spec_l7Set.l0]; rw [if_pos (by omega), if_pos (by omega), rdS l i hi, wrap_nat i (by omega), atS_is l i hi]
          · cases digestOk (atS l i) with
            | true => simp only [if_true, Bool.true_and]; exact hr
            | false => simp only [Bool.false_eq_true, if_false, Bool.false_and]; exact Ev.now _)
        (Ev.step (f := fun _ => some true) (fun k => by simp only [spec_l7Set.l0]; rw [if_neg (by omega)]) (Ev.now _))
theorem impl_set (l : List ByteArray) (hl : l.length ≤ 2097152) (hx : ∀ x ∈ l, x.size ≤ 140737488351232) : Ev (fun k => impl_isSet.f k l) (setOk l) := by
  unfold impl_isSet.f
  have key : ∀ d i : Nat, i + d = l.length → Ev (fun k => impl_isSet.l0 k l l (l.length : Int) (i : Int)) (((List.range' i d).all fun i => digestOk (atS l i) && (decide (i = 0) || less (atS l (i - 1)) (atS l i))) && decide (l.length ≤ 200)) := by
    intro d
    induction d with
    | zero =>
      intro i hi
      refine Ev.step (f := fun _ => some (decide (l.length ≤ 200))) (fun k => ?_) (Ev.now _)
      simp only [impl_isSet.l0]; rw [if_neg (by omega)]; congr 1; rw [decide_eq_decide]; omega
    | succ d ih =>
      intro i hi
      have hlt : i < l.length := by omega
      rw [List.range'_succ, List.all_cons, Bool.and_assoc]
      have hn := ih (i + 1) (by omega)
      refine Ev.step (f := fun k => if digestOk (atS l i) = true then (if i = 0 then impl_isSet.l0 k l l (l.length : Int) ((i + 1 : Nat) : Int) else if less (atS l (i - 1)) (atS l i) = true then impl_isSet.l0 k l l (l.length : Int) ((i + 1 : Nat) : Int) else some false) else some false) (fun k => ?_) ?_
      · simp only [impl_isSet.l0]
        rw [if_pos (by omega), if_pos (by omega), if_pos (by omega), rdS l i hlt, impl_dig _ (hx _ (List.getElem_mem hlt)), wrap_nat i (by omega), atS_is l i hlt, Option.bind_some]
        cases hdg : digestOk l[i] with
        | false => simp only [Bool.false_eq_true, if_false]
        | true =>
          simp only [if_true]
          by_cases h0 : i = 0
          · rw [if_neg (show ¬ ((i : Int) > 0) by omega), if_pos h0]
          · rw [if_pos (show ((i : Int) > 0) by omega), if_neg h0, show wrap64 ((i : Int) - 1) = ((i - 1 : Nat) : Int) from wrap_pred i (by omega) (by omega), if_pos (by omega), if_pos (by omega), rdS l (i - 1) (by omega), atS_is l (i - 1) (by omega)]
            rfl
      · cases digestOk (atS l i) with
        | false => simp only [Bool.false_eq_true, if_false, Bool.false_and]; exact Ev.now _
        | true =>
          by_cases h0 : i = 0
          · simp only [if_pos h0, if_true, decide_eq_true h0, Bool.true_or, Bool.true_and]; exact hn
          · simp only [if_neg h0, if_true, decide_eq_false h0, Bool.false_or, Bool.true_and]
            cases less (atS l (i - 1)) (atS l i) with
            | true => simp only [if_true, Bool.true_and]; exact hn
            | false => simp only [Bool.false_eq_true, if_false, Bool.false_and]; exact Ev.now _
  have := key l.length 0 (by omega)
  rw [← List.range_eq_range'] at this
  exact this
theorem spec_pref (p : ByteArray) (hp : p.size ≤ 140737488351232) : Ev (fun k => spec_l7Prefix.f k p) (prefOk p) := by
  unfold spec_l7Prefix.f prefOk
  have key : ∀ d i : Nat, i + d = p.size → Ev (fun k => spec_l7Prefix.l0 k p (i : Int)) (decide (p.size ≤ 2) && ((bytesOf p).drop i).all hexB) := by
    intro d
    induction d with
    | zero =>
      intro i hi
      rw [List.drop_eq_nil_of_le (by rw [bytesOf_length]; omega), List.all_nil, Bool.and_true]
      refine Ev.step (f := fun _ => some (decide (p.size ≤ 2))) (fun k => ?_) (Ev.now _)
      simp only [spec_l7Prefix.l0]; rw [if_neg (by omega)]; congr 1; rw [decide_eq_decide]; omega
    | succ d ih =>
      intro i hi
      have hlt : i < p.size := by omega
      rw [drop_bytes p i hlt, List.all_cons]
      have hb := bt_range p i
      refine Ev.step (f := fun k => if hexV (bt p i) < 0 then some false else spec_l7Prefix.l0 k p ((i + 1 : Nat) : Int)) (fun k => ?_) ?_
      · simp only [spec_l7Prefix.l0]; rw [if_pos (by omega), if_pos (by omega), l1Hexit_eq _ hb.1 hb.2]; simp only [Option.bind_some]
        rw [wrap_succ i _ hlt hp]
      · by_cases h : hexB (bt p i) = true
        · have hn : ¬ hexV (bt p i) < 0 := by rw [hexV_neg]; exact fun hh => hh h
          simp only [if_neg hn, h, Bool.true_and]; exact ih (i + 1) (by omega)
        · have hn : hexV (bt p i) < 0 := by rw [hexV_neg]; exact h
          simp only [if_pos hn, h, Bool.false_and, Bool.and_false]; exact Ev.now _
  exact key p.size 0 (by omega)
theorem spec_under (l : List ByteArray) (p : ByteArray) (hl : l.length ≤ 2097152) (hd : ∀ d ∈ l, digestOk d = true) (hp : p.size ≤ 2) : Ev (fun k => spec_l7Under.f k l p) (underM l p) := by
  unfold spec_l7Under.f underM
  have e7 : wrap64 (7 + (p.size : Int)) = ((7 + p.size : Nat) : Int) := by unfold wrap64; omega
  refine fold_loop (n := l.length) (F := fun k acc i => spec_l7Under.l0 k l p acc i) (st := fun i => (l.take i).filter (startsB p)) (fun i hi hr => ?_) (Ev.step (f := fun _ => some (l.filter (startsB p))) (fun k => ?_) (Ev.now _))
  · refine Ev.step (fun k => ?_) hr
    have hds := digestOk_size (hd _ (List.getElem_mem hi))
    have hfl : ((l.take i).filter (startsB p)).length ≤ i := Nat.le_trans (List.length_filter_le _ _) (by rw [List.length_take]; omega)
    simp only [spec_l7Under.l0]
    rw [if_pos (by omega), if_pos (by omega), e7, if_pos (by omega), rdS l i hi, if_pos (by omega), Int.toNat_natCast, wrap_nat i (by omega), filter_take_succ _ l i hi]
    by_cases hs : (l[i].extract 7 (7 + p.size)).toList = p.toList
    · rw [if_pos hs, if_pos (show startsB p l[i] = true by simp only [startsB, hs, beq_self_eq_true]), if_pos (by omega)]
    · rw [if_neg hs, if_neg (show ¬ startsB p l[i] = true by simp only [startsB, beq_iff_eq]; exact hs)]
  · simp only [spec_l7Under.l0]; rw [if_neg (by omega), List.take_length]
theorem impl_pref (p : ByteArray) (hp : p.size ≤ 140737488351232) : impl_isPrefix.f p = some (prefOk p) := by
  unfold impl_isPrefix.f prefOk
  by_cases h : (p.size : Int) ≤ 2
  · obtain ⟨t, ht, he⟩ := trimHex p hp
    rw [if_pos h, ht, decide_eq_true (show p.size ≤ 2 by omega), Bool.true_and, Option.bind_some, he]
  · rw [if_neg h, decide_eq_false (show ¬ p.size ≤ 2 by omega), Bool.false_and]
theorem impl_under_ (l : List ByteArray) (p : ByteArray) (hl : l.length ≤ 2097152) (hd : ∀ d ∈ l, digestOk d = true) (hp : p.size ≤ 2) : Ev (fun k => impl_under.f k l p) (underM l p) := by
  unfold impl_under.f underM
  refine fold_loop (n := l.length) (F := fun k acc i => impl_under.l0 k p acc l (l.length : Int) i) (st := fun i => (l.take i).filter (startsB p)) (fun i hi hr => ?_) (Ev.step (f := fun _ => some (l.filter (startsB p))) (fun k => ?_) (Ev.now _))
  · refine Ev.step (fun k => ?_) hr
    have hds := hd _ (List.getElem_mem hi)
    have hdz := digestOk_size hds
    have hfl : ((l.take i).filter (startsB p)).length ≤ i := Nat.le_trans (List.length_filter_le _ _) (by rw [List.length_take]; omega)
    have hz : ((⟨#[115, 104, 97, 50, 53, 54, 58]⟩ : ByteArray) ++ p).size = 7 + p.size := by rw [ByteArray.size_append, head_size]
    have hst := head_starts l[i] p hds hp
    have hpre : strings_HasPrefix.f l[i] ((⟨#[115, 104, 97, 50, 53, 54, 58]⟩ : ByteArray) ++ p) = some (startsB p l[i]) := by
      unfold strings_HasPrefix.f stringslite_HasPrefix.f
      rw [hz, if_pos (by omega), if_pos (by omega), if_pos (by omega), Option.bind_some, Int.toNat_natCast, hst]
    simp only [impl_under.l0]
    rw [if_pos (by omega), if_pos (by omega), if_pos (by omega), if_pos (by omega), rdS l i hi, hpre, Option.bind_some, wrap_nat i (by omega), filter_take_succ _ l i hi]
    by_cases hs : startsB p l[i] = true
    · rw [if_pos hs, if_pos hs, if_pos (by omega)]
    · rw [if_neg hs, if_neg hs]
  · simp only [impl_under.l0]; rw [if_neg (by omega), List.take_length]
def UnderM (l : List ByteArray) (p : ByteArray) : List ByteArray := if setOk l = true then (if prefOk p = true then underM l p else []) else []
theorem UnderM_len (l : List ByteArray) (p : ByteArray) : (UnderM l p).length ≤ l.length := by
  unfold UnderM
  repeat' split
  · exact underM_len l p
  all_goals exact Nat.zero_le _
theorem specU (l : List ByteArray) (p : ByteArray) (hl : l.length ≤ 1048576) (hp : p.size ≤ 140737488351232) : Ev (fun k => spec_Under.f k l p) (UnderM l p) := by
  unfold spec_Under.f UnderM
  refine Ev.bind (spec_set l (by omega)) ?_
  cases hs : setOk l with
  | false => simp only [Bool.false_eq_true, if_false]; exact Ev.now _
  | true =>
    simp only [if_true]
    refine Ev.bind (spec_pref p hp) ?_
    cases hq : prefOk p with
    | false => simp only [Bool.false_eq_true, if_false]; exact Ev.now _
    | true => simp only [if_true]; exact Ev.bind (spec_under l p (by omega) (setOk_dig hs) (prefOk_size hq)) (Ev.now _)
theorem implU (l : List ByteArray) (p : ByteArray) (hl : l.length ≤ 1048576) (hx : ∀ x ∈ l, x.size ≤ 1048576) (hp : p.size ≤ 140737488351232) : Ev (fun k => impl_Under.f k l p) (UnderM l p) := by
  unfold impl_Under.f UnderM
  refine Ev.bind (impl_set l (by omega) (fun x h => by have := hx x h; omega)) ?_
  cases hs : setOk l with
  | false => simp only [Bool.false_eq_true, if_false]; exact Ev.now _
  | true =>
    simp only [if_true]
    rw [impl_pref p hp]
    simp only [Option.bind_some]
    cases hq : prefOk p with
    | false => simp only [Bool.false_eq_true, if_false]; exact Ev.now _
    | true => simp only [if_true]; exact Ev.bind (impl_under_ l p (by omega) (setOk_dig hs) (prefOk_size hq)) (Ev.now _)
end UnderOf
open UnderOf

theorem FnExactUnder : laws_FnExactUnder.Pure := by
  intro l p hl hp
  refine Ev.rounds (g := fun k => laws_FnExactUnder.f k l p) ?_
  unfold laws_FnExactUnder.f
  by_cases hs : (p.size : Int) > 1048576
  · simp only [if_pos hs]; exact Ev.now _
  simp only [if_neg hs]
  obtain ⟨r, hr, _, hr2⟩ := szS_ok l 1048576 (by omega) (by omega) hl.1 hl.2
  refine Ev.bind hr ?_
  by_cases h0 : r < 0
  · simp only [if_pos h0]; exact Ev.now _
  simp only [if_neg h0]
  obtain ⟨hn, hx⟩ := hr2 (by omega)
  have ht := toS_ok l hn
  have hspec := specU l p hn hp
  have himpl := implU l p hn hx hp
  have hlen := UnderM_len l p
  generalize UnderM l p = P at hspec himpl hlen
  have he := eqS_refl P (by omega)
  obtain ⟨y1, hm1, hy1, _⟩ := markS_ok l (by omega) 1 (by omega) (by omega)
  obtain ⟨y2, hm2, hy2l, hy2⟩ := markS_ok P (by omega) 1 (by omega) (by omega)
  have hh2 := heldS_ok y2 1 (by omega) (by omega) (by omega) hy2
  rw [hy2l] at hh2
  refine Ev.bind ht (Ev.bind hspec (Ev.bind ht (Ev.bind himpl (Ev.bind he ?_))))
  simp only [if_true]
  refine Ev.bind ht (Ev.bind (eqS_refl l (by omega)) ?_)
  simp only [if_true]
  refine Ev.bind hm1 ?_
  simp only [if_neg (show ¬ 1 + (l.length : Int) < 0 by omega)]
  refine Ev.bind he ?_
  simp only [Bool.not_true]
  refine Ev.step (f := fun k => _) (fun k => by simp only [laws_FnExactUnder.j0, Bool.false_eq_true, if_false]; rfl) ?_
  refine Ev.bind hm2 (Ev.bind hh2 ?_)
  simp only [if_neg (show ¬ 1 + (P.length : Int) < 0 by omega), if_true]
  refine Ev.bind ht (Ev.bind himpl (Ev.bind he ?_))
  simp only [if_true]
  refine Ev.bind hh2 ?_
  simp only [if_neg (show ¬ 1 + (P.length : Int) < 0 by omega), if_true]; exact Ev.now _

end Go.Proofs.YtifchnibhohnpaaDoor.Pure
