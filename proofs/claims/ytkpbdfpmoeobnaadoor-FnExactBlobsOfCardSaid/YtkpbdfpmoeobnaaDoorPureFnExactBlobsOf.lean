/- For every manifest of at most 2^20 elements and bytes the program's BlobsOf returns what the reference's returns, leaves its argument as it was, and what it returns owns its memory. No condition but the sizes that the model lets an argument have. -/
import Derived.Test.YtkpbdfpmoeobnaaDoorQFnExactBlobsOfx
import Derived.Test.YtkpbdfpmoeobnaaDoorOrderFnExactBlobsOf
import Derived.Test.YtkpbdfpmoeobnaaDoorSortedFnExactBlobsOf
namespace Go.Proofs.YtkpbdfpmoeobnaaDoor.Pure
open Go.RowKit Go.Proofs.YtkpbdfpmoeobnaaDoor.QFnExactBlobsOf Go.Proofs.YtkpbdfpmoeobnaaDoorW.PrintWords Go.Proofs.YtkpbdfpmoeobnaaDoorW.PrintLast Go.Proofs.YtkpbdfpmoeobnaaDoorW.PrintMore Go.Proofs.YtkpbdfpmoeobnaaDoor.Bits Go.Proofs.YtkpbdfpmoeobnaaDoor.Num Go.Proofs.YtkpbdfpmoeobnaaDoor.Dig Go.Proofs.YtkpbdfpmoeobnaaDoor.Loops Go.Proofs.YtkpbdfpmoeobnaaDoor.SetOf Go.Proofs.YtkpbdfpmoeobnaaDoor.Order Go.Proofs.YtkpbdfpmoeobnaaDoor.Sorted
set_option linter.unusedSimpArgs false
set_option linter.unusedVariables false
namespace BlobsOfM
theorem rdS (xs : List ByteArray) (i : Nat) (h : i < xs.length) : rdOf ByteArray.empty xs (i : Int) = xs[i] := getD_at xs i _ h
/-- What the sizes come to: less than nothing, or the list is short and its texts are. -/
theorem szS_loop (xs : List ByteArray) (hx : ∀ x ∈ xs, x.size ≤ maxLen) (hl : xs.length ≤ 1048576) (d : Nat) : ∀ (i : Nat) (left : Int), i + d = xs.length → 0 ≤ left → left ≤ 1048576 →
    ∃ r, Ev (fun k => laws_szStringS.l0 k xs left (i : Int)) r ∧ r ≤ left ∧ (0 ≤ r → ∀ j, i ≤ j → (h : j < xs.length) → xs[j].size ≤ 1048576) := by
  induction d with
  | zero =>
    intro i left hi h0 h1
    refine ⟨left, Ev.step (f := fun _ => some left) (fun k => ?_) (Ev.now _), by omega, fun _ j hj h => by omega⟩
    simp only [laws_szStringS.l0]; rw [if_neg (by omega)]
  | succ d ih =>
    intro i left hi h0 h1
    have hlt : i < xs.length := by omega
    have hs := hx _ (List.getElem_mem hlt)
    unfold maxLen at hs
    have ew : wrap64 (left - (xs[i].size : Int)) = left - xs[i].size := by unfold wrap64; omega
    by_cases hn : left - (xs[i].size : Int) < 0
    · refine ⟨-1, Ev.step (f := fun _ => some (-1)) (fun k => ?_) (Ev.now _), by omega, fun h => absurd h (by omega)⟩
      simp only [laws_szStringS.l0]; rw [if_pos (by omega), if_pos (by omega), rdS xs i hlt, ew, if_pos hn]
    · obtain ⟨r, hr, hr1, hr2⟩ := ih (i + 1) (left - xs[i].size) (by omega) (by omega) (by omega)
      refine ⟨r, Ev.step (f := fun k => laws_szStringS.l0 k xs (left - xs[i].size) ((i + 1 : Nat) : Int)) (fun k => ?_) hr, by omega, fun h j hj hjl => ?_⟩
      · simp only [laws_szStringS.l0]; rw [if_pos (by omega), if_pos (by omega), rdS xs i hlt, ew, if_neg hn, wrap_nat i (by omega)]
      · by_cases e : i = j
        · subst e; omega
        · exact hr2 h j (by omega) hjl
theorem szS_ok (xs : List ByteArray) (left : Int) (h0 : 0 ≤ left) (h1 : left ≤ 1048576) (hl : xs.length ≤ maxLen) (hx : ∀ x ∈ xs, x.size ≤ maxLen) :
    ∃ r, Ev (fun k => laws_szStringS.f k xs left) r ∧ r ≤ left ∧ (0 ≤ r → xs.length ≤ 1048576 ∧ ∀ x ∈ xs, x.size ≤ 1048576) := by
  unfold laws_szStringS.f
  unfold maxLen at hl
  have ew : wrap64 (left - (xs.length : Int)) = left - xs.length := by unfold wrap64; omega
  by_cases hn : (left - (xs.length : Int)) < 0
  · refine ⟨-1, ?_, by omega, fun h => absurd h (by omega)⟩
    simp only [ew, if_pos hn]; exact Ev.now _
  · obtain ⟨r, hr, hr1, hr2⟩ := szS_loop xs hx (by omega) xs.length 0 (left - xs.length) (by omega) (by omega) (by omega)
    simp only [ew, if_neg hn]
    refine ⟨r, hr, by omega, fun h => ⟨by omega, fun x hxm => ?_⟩⟩
    obtain ⟨j, hj, rfl⟩ := List.getElem_of_mem hxm
    exact hr2 h j (by omega) hj
theorem toS_ok (l : List ByteArray) (hl : l.length ≤ 1048576) : Ev (fun k => laws_toStringS.f k l) l := by
  unfold laws_toStringS.f
  simp only [if_pos (show (0 : Int) ≤ (l.length : Int) by omega), if_pos (show ((l.length : Int)).toNat ≤ 17592186044416 by omega)]
  have := fill_loop l id (F := fun k acc i => laws_toStringS.l0 k l acc i) (fun i h acc ha k => by
    simp only [laws_toStringS.l0]; rw [if_pos (by omega), if_pos (by omega), if_pos (by omega), rdS l i h, wrap_nat i (by omega), Int.toNat_natCast]; rfl) (fun acc ha k => by
    simp only [laws_toStringS.l0]; rw [if_neg (by omega)]) (List.replicate ((l.length : Int)).toNat ⟨#[]⟩) (by simp)
  simpa using this
theorem eqS_refl (l : List ByteArray) (hl : l.length ≤ 2097152) : Ev (fun k => laws_eqStringS.f k l l) true := by
  unfold laws_eqStringS.f
  simp only [if_true]
  refine on_loop (n := l.length) (F := fun k i => laws_eqStringS.l0 k l l i) (fun i hi k => ?_) (Ev.step (f := fun _ => some true) (fun k => ?_) (Ev.now _))
  · simp only [laws_eqStringS.l0]; rw [if_pos (by omega), if_pos (by omega), if_pos (by omega), if_pos trivial, wrap_nat i (by omega)]
  · simp only [laws_eqStringS.l0]; rw [if_neg (by omega)]
theorem markText_loop (n : Nat) : ∀ (v : Int) (acc : ByteArray), v.toNat ≤ n → 0 ≤ v → v ≤ 4611686018427387904 → acc.size + v.toNat ≤ 4611686018427387905 → ∃ t, Ev (fun k => laws_markText.l0 k v acc) t := by
  induction n with
  | zero =>
    intro v acc hn h0 h1 hs
    refine ⟨(⟨#[109]⟩ : ByteArray) ++ acc, Ev.step (f := fun _ => some ((⟨#[109]⟩ : ByteArray) ++ acc)) (fun k => ?_) (Ev.now _)⟩
    simp only [laws_markText.l0]; rw [if_neg (by omega), if_pos (by omega)]
  | succ n ih =>
    intro v acc hn h0 h1 hs
    by_cases hv : v > 0
    · have e1 : wrap64 (Int.tdiv v 10) = v / 10 := by rw [Int.tdiv_eq_ediv_of_nonneg h0]; unfold wrap64; omega
      have sz : (strOfNums [wrap64 (48 + Int.tmod v 10) % 256]).size = 1 := by rw [size_strOfNums]; rfl
      have sz2 : (strOfNums [wrap64 (48 + Int.tmod v 10) % 256] ++ acc).size = 1 + acc.size := by rw [ByteArray.size_append, sz]
      obtain ⟨t, ht⟩ := ih (v / 10) (strOfNums [wrap64 (48 + Int.tmod v 10) % 256] ++ acc) (by omega) (by omega) (by omega) (by rw [sz2]; omega)
      refine ⟨t, Ev.step (f := fun k => laws_markText.l0 k (v / 10) (strOfNums [wrap64 (48 + Int.tmod v 10) % 256] ++ acc)) (fun k => ?_) ht⟩
      simp only [laws_markText.l0, Option.bind_some]; rw [if_pos hv, if_pos (by rw [sz]; omega), e1]
    · refine ⟨(⟨#[109]⟩ : ByteArray) ++ acc, Ev.step (f := fun _ => some ((⟨#[109]⟩ : ByteArray) ++ acc)) (fun k => ?_) (Ev.now _)⟩
      simp only [laws_markText.l0]; rw [if_neg hv, if_pos (by omega)]
/-- The text of a mark. -/
noncomputable def markT (v : Int) : ByteArray := open Classical in if h : ∃ t, Ev (fun k => laws_markText.f k v) t then Classical.choose h else ⟨#[]⟩
theorem markT_ok (v : Int) (h0 : 0 < v) (h1 : v ≤ 4611686018427387904) : Ev (fun k => laws_markText.f k v) (markT v) := by
  have h : ∃ t, Ev (fun k => laws_markText.f k v) t := by
    obtain ⟨t, ht⟩ := markText_loop v.toNat v ⟨#[]⟩ (Nat.le_refl _) (by omega) h1 (by show 0 + v.toNat ≤ _; omega)
    refine ⟨t, ?_⟩
    unfold laws_markText.f
    simp only [if_neg (show ¬ v ≤ 0 by omega)]; exact ht
  unfold markT
  rw [dif_pos h]; exact Classical.choose_spec h
theorem markS_ok (l : List ByteArray) (hl : l.length ≤ 2097152) (m : Int) (h0 : 1 ≤ m) (h1 : m ≤ 1000000000) :
    ∃ ys : List ByteArray, Ev (fun k => laws_markStringS.f k l m) (m + l.length, ys) ∧ ys.length = l.length ∧ ∀ (i : Nat) (h : i < ys.length), ys[i] = markT (m + i) := by
  obtain ⟨ys, he, hyl, hy⟩ := mark_loop (c := 1) (upd := fun v _ => markT v) (F := fun k acc v i => laws_markStringS.l0 k acc v i) l m
    (fun i acc h ha r hr => by
      refine Ev.step (f := fun k => (laws_markText.f k (m + 1 * (i : Int))).bind fun t => laws_markStringS.l0 k (acc.set i t) (m + 1 * ((i + 1 : Nat) : Int)) ((i + 1 : Nat) : Int)) (fun k => ?_) (Ev.bind (markT_ok _ (by omega) (by omega)) hr)
      simp only [laws_markStringS.l0]; rw [if_pos (by omega), Int.toNat_natCast, wrap_nat i (by omega), show wrap64 (m + 1 * (i : Int) + 1) = m + 1 * ((i + 1 : Nat) : Int) by unfold wrap64; omega]
      simp only [show (0 : Int) ≤ (i : Int) by omega, if_true])
    (fun acc ha => Ev.step (f := fun _ => some (m + 1 * (l.length : Int), acc)) (fun k => by simp only [laws_markStringS.l0]; rw [if_neg (by omega)]) (Ev.now _))
  refine ⟨ys, ?_, hyl, fun i h => ?_⟩
  · unfold laws_markStringS.f
    rw [Int.one_mul] at he; exact he
  · rw [hy i h (by omega), Int.one_mul]
theorem heldS_ok (ys : List ByteArray) (m : Int) (h0 : 1 ≤ m) (h1 : m ≤ 1000000000) (hl : ys.length ≤ 2097152) (hy : ∀ (i : Nat) (h : i < ys.length), ys[i] = markT (m + i)) : Ev (fun k => laws_heldStringS.f k ys m) (m + ys.length) := by
  unfold laws_heldStringS.f
  have := fold_loop (r := m + (ys.length : Int)) (n := ys.length) (F := fun k v i => laws_heldStringS.l0 k ys v i) (st := fun i => m + (i : Int)) (fun i hi hr => ?_) (Ev.step (f := fun _ => some (m + (ys.length : Int))) (fun k => ?_) (Ev.now _))
  · rw [show m + ((0 : Nat) : Int) = m by omega] at this; exact this
  · refine Ev.step (f := fun k => (laws_markText.f k (m + (i : Int))).bind fun t => if (markT (m + i)).toList = t.toList then laws_heldStringS.l0 k ys (m + ((i + 1 : Nat) : Int)) ((i + 1 : Nat) : Int) else some (-1)) (fun k => ?_) (Ev.bind (markT_ok _ (by omega) (by omega)) (by simp only [if_true]; exact hr))
    simp only [laws_heldStringS.l0]; rw [if_pos (by omega), if_pos (by omega), rdS ys i hi, hy i hi, wrap_nat i (by omega), show wrap64 (m + (i : Int) + 1) = m + ((i + 1 : Nat) : Int) by unfold wrap64; omega]
  · simp only [laws_heldStringS.l0]; rw [if_neg (by omega)]
theorem l1Digit_eq (c : Int) : spec_l1Digit.f c = some (decide (48 ≤ c ∧ c ≤ 57)) := by
  unfold spec_l1Digit.f
  by_cases h1 : c ≥ 48 <;> by_cases h2 : c ≤ 57 <;> simp [h1, h2] <;> omega
theorem l1Hexit_eq (c : Int) (h0 : 0 ≤ c) (h1 : c ≤ 255) : spec_l1Hexit.f c = some (hexV c) := by
  unfold spec_l1Hexit.f
  rw [l1Digit_eq]
  simp only [Option.bind_some, decide_eq_true_eq, hexV]
  repeat' split
  all_goals first | rfl | (exfalso; omega) | (congr 1; omega)
theorem spec_dig_loop (s : ByteArray) (hs : s.size = 71) (d : Nat) : ∀ i : Nat, i + d = 71 → Ev (fun k => spec_DigestOk.l0 k s (i : Int)) (((bytesOf s).drop i).all hexB) := by
  induction d with
  | zero =>
    intro i hi
    rw [List.drop_eq_nil_of_le (by rw [bytesOf_length]; omega)]
    refine Ev.step (f := fun _ => some true) (fun k => ?_) (Ev.now _)
    simp only [spec_DigestOk.l0]; rw [if_neg (by omega)]
  | succ d ih =>
    intro i hi
    have hlt : i < s.size := by omega
    rw [drop_bytes s i hlt]
    have hb := bt_range s i
    refine Ev.step (f := fun k => if hexV (bt s i) < 0 then some false else spec_DigestOk.l0 k s ((i + 1 : Nat) : Int)) (fun k => ?_) ?_
    · simp only [spec_DigestOk.l0]; rw [if_pos (by omega), if_pos (by omega), if_pos (by omega), l1Hexit_eq _ hb.1 hb.2]; simp only [Option.bind_some]
      rw [wrap_succ i _ hlt (by omega)]
    · by_cases h : hexB (bt s i) = true
      · have hn : ¬ hexV (bt s i) < 0 := by rw [hexV_neg]; exact fun hh => hh h
        simp only [if_neg hn, List.all_cons, h, Bool.true_and]; exact ih (i + 1) (by omega)
      · have hn : hexV (bt s i) < 0 := by rw [hexV_neg]; exact h
        simp only [if_pos hn, List.all_cons, h, Bool.false_and]; exact Ev.now _
theorem spec_dig (s : ByteArray) : Ev (fun k => spec_DigestOk.f k s) (digestOk s) := by
  unfold spec_DigestOk.f digestOk
  by_cases h1 : (s.size : Int) = 71
  · have hs : s.size = 71 := by omega
    simp only [if_pos h1, show decide (s.size = 71) = true from decide_eq_true hs, Bool.true_and, show (0 : Nat) ≤ 7 by omega, show (7 : Int) ≤ (s.size : Int) by omega, if_true]
    refine Ev.step (f := fun k => if ((s.extract 0 7).toList != ([115, 104, 97, 50, 53, 54, 58] : List UInt8)) = true then some false else spec_DigestOk.l0 k s 7) (fun k => by simp only [spec_DigestOk.j0]) ?_
    cases h : ((s.extract 0 7).toList == digHead) with
    | true =>
      have h' : ((s.extract 0 7).toList != ([115, 104, 97, 50, 53, 54, 58] : List UInt8)) = false := by
        show (!((s.extract 0 7).toList == digHead)) = false; rw [h]; rfl
      simp only [h', Bool.false_eq_true, if_false, Bool.true_and]
      exact spec_dig_loop s hs 64 7 rfl
    | false =>
      have h' : ((s.extract 0 7).toList != ([115, 104, 97, 50, 53, 54, 58] : List UInt8)) = true := by
        show (!((s.extract 0 7).toList == digHead)) = true; rw [h]; rfl
      simp only [h', if_true, Bool.false_and]
      exact Ev.now _
  · have hs : ¬ s.size = 71 := by omega
    simp only [if_neg h1, hs, decide_false, Bool.false_and]
    refine Ev.step (f := fun k => some false) (fun k => by simp only [spec_DigestOk.j0, if_true]) (Ev.now _)
theorem head_size : (⟨#[115, 104, 97, 50, 53, 54, 58]⟩ : ByteArray).size = 7 := rfl
theorem head_list : (⟨#[115, 104, 97, 50, 53, 54, 58]⟩ : ByteArray).toList = digHead := toL _
theorem cutHead (s : ByteArray) : strings_CutPrefix.f s (⟨#[115, 104, 97, 50, 53, 54, 58]⟩ : ByteArray) = some (if (decide (7 ≤ s.size) && ((s.extract 0 7).toList == digHead)) = true then (s.extract 7 s.size, true) else (s, false)) := by
  unfold strings_CutPrefix.f stringslite_CutPrefix.f stringslite_HasPrefix.f
  rw [head_size, head_list]
  by_cases h : 7 ≤ s.size
  · have h2 : (s.size : Int) ≥ ((7 : Nat) : Int) := by omega
    simp only [if_pos h2, show (0 : Int) ≤ ((7 : Nat) : Int) by omega, show ((7 : Nat) : Int) ≤ (s.size : Int) from h2, if_true, Option.bind_some, h, decide_true, Bool.true_and, Int.toNat_natCast]
    cases hh : ((s.extract 0 7).toList == digHead) <;> simp
  · have h2 : ¬ (s.size : Int) ≥ ((7 : Nat) : Int) := by omega
    simp only [if_neg h2, Option.bind_some, h, decide_false, Bool.false_and, Bool.false_eq_true, if_false]
theorem trimHex (s : ByteArray) (hs : s.size ≤ 140737488351232) : ∃ t, strings_Trim.f s (⟨#[48, 49, 50, 51, 52, 53, 54, 55, 56, 57, 97, 98, 99, 100, 101, 102]⟩ : ByteArray) = some t ∧ (t.toList == ([] : List UInt8)) = (bytesOf s).all hexB := by
  unfold strings_Trim.f
  refine ⟨_, if_pos ⟨by omega, by decide, by decide⟩, ?_⟩
  rw [toL]
  show (Lib.trimS s.data.toList hexSet == []) = _
  rw [trimS_nil]
  have := all_bytes s hexB 0
  rw [List.drop_zero, List.drop_zero] at this
  rw [this]
  congr 1; funext b; exact hexSet_is b
theorem impl_dig (s : ByteArray) (hs : s.size ≤ 140737488351232) : impl_isDigest.f s = some (digestOk s) := by
  unfold impl_isDigest.f
  rw [cutHead]
  simp only [Option.bind_some]
  unfold digestOk
  by_cases h71 : s.size = 71
  · cases hh : ((s.extract 0 7).toList == digHead) with
    | true =>
      have hx : (s.extract 7 s.size).size = 64 := by rw [ByteArray.size_extract]; omega
      obtain ⟨t, ht, he⟩ := trimHex (s.extract 7 s.size) (by omega)
      rw [h71] at hx ht he ⊢
      simp only [show (7 : Nat) ≤ 71 by omega, decide_true, Bool.true_and, if_true, hx, show ((64 : Nat) : Int) = 64 from rfl, ht, Option.bind_some, he]
      rw [show (bytesOf (s.extract 7 71)) = (bytesOf s).drop 7 by
        simp only [bytesOf, extract_data, List.map_take, List.map_drop]
        rw [List.take_of_length_le]
        simp only [List.length_drop, List.length_map, Array.length_toList]
        have : s.data.size = 71 := h71
        omega]
    | false => simp
  · simp only [h71, decide_false, Bool.false_and]
    cases hh : (decide (7 ≤ s.size) && ((s.extract 0 7).toList == digHead)) with
    | true =>
      have h7 : 7 ≤ s.size := by simp only [Bool.and_eq_true, decide_eq_true_eq] at hh; exact hh.1
      have hx : ¬ ((s.extract 7 s.size).size : Int) = 64 := by rw [ByteArray.size_extract]; omega
      simp only [if_true, if_neg hx]
    | false => simp
/-- Is a manifest right. -/
def manOk (c : ByteArray) (ls : List ByteArray) : Bool := digestOk c && (decide (1 ≤ (ls.length : Int)) && (decide ((ls.length : Int) ≤ 40) && ls.all digestOk))
theorem manAt_ok (l : List ByteArray) (hx : ∀ x ∈ l, x.size ≤ 140737488351232) : ∀ d i : Nat, i + d = l.length → ∃ r, impl_isManifest.at l d i = some r ∧ decide (0 ≤ r) = !((l.drop i).all digestOk) := by
  intro d
  induction d with
  | zero =>
    intro i hi
    exact ⟨-1, rfl, by rw [List.drop_eq_nil_of_le (by omega)]; rfl⟩
  | succ d ih =>
    intro i hi
    have h1 : i < l.length := by omega
    obtain ⟨r, h2, h3⟩ := ih (i + 1) (by omega)
    unfold impl_isManifest.at
    rw [rdS l i h1, impl_dig _ (hx _ (List.getElem_mem h1)), Option.bind_some, List.drop_eq_getElem_cons h1, List.all_cons]
    cases ht : digestOk l[i] with
    | true => rw [if_pos rfl, Bool.true_and]; exact ⟨r, h2, h3⟩
    | false => rw [if_neg (by decide), Bool.false_and]; exact ⟨(i : Int), rfl, by simp⟩
theorem impl_man (c : ByteArray) (ls : List ByteArray) (hc : c.size ≤ 140737488351232) (hx : ∀ x ∈ ls, x.size ≤ 140737488351232) : impl_isManifest.f c ls = some (manOk c ls) := by
  unfold impl_isManifest.f manOk
  rw [impl_dig c hc, Option.bind_some]
  cases digestOk c with
  | false => rfl
  | true =>
    rw [if_pos rfl, Bool.true_and]
    by_cases g1 : 1 ≤ (ls.length : Int)
    · rw [if_pos g1, decide_eq_true g1, Bool.true_and]
      by_cases g2 : (ls.length : Int) ≤ 40
      · obtain ⟨r, h1, h2⟩ := manAt_ok ls hx ls.length 0 (by omega)
        rw [if_pos g2, decide_eq_true g2, Bool.true_and, h1, Option.bind_some, h2, Bool.not_not, List.drop_zero]
      · rw [if_neg g2, decide_eq_false g2, Bool.false_and]
    · rw [if_neg g1, decide_eq_false g1, Bool.false_and]
theorem spec_man (c : ByteArray) (ls : List ByteArray) (hl : ls.length ≤ 1048576) : Ev (fun k => spec_l3Manifest.f k c ls) (manOk c ls) := by
  have lu : ∀ d i : Nat, i + d = ls.length → Ev (fun k => spec_l3Manifest.l0 k (i : Int) c ls) ((ls.drop i).all digestOk) := by
    intro d
    induction d with
    | zero =>
      intro i hi
      rw [List.drop_eq_nil_of_le (by omega)]
      exact Ev.step (f := fun _ => some true) (fun k => by simp only [spec_l3Manifest.l0]; rw [if_neg (by omega)]) (Ev.now _)
    | succ d ih =>
      intro i hi
      have h1 : i < ls.length := by omega
      refine Ev.step (f := fun k => (spec_DigestOk.f k ls[i]).bind fun t => if t = true then spec_l3Manifest.l0 k ((i + 1 : Nat) : Int) c ls else some false) (fun k => ?_) ?_
      · simp only [spec_l3Manifest.l0]; rw [if_pos (by omega), if_pos (by omega), rdS ls i h1, wrap_nat i (by omega)]
      · refine Ev.bind (spec_dig ls[i]) ?_
        rw [List.drop_eq_getElem_cons h1, List.all_cons]
        cases digestOk ls[i] with
        | true => simp only [if_true, Bool.true_and]; exact ih (i + 1) (by omega)
        | false => simp only [Bool.false_eq_true, if_false, Bool.false_and]; exact Ev.now _
  have j0 : ∀ b : Bool, Ev (fun k => spec_l3Manifest.j0 k b c ls) (!b && ls.all digestOk) := by
    intro b
    refine Ev.step (f := fun k => if b = true then some false else spec_l3Manifest.l0 k 0 c ls) (fun k => by simp only [spec_l3Manifest.j0]) ?_
    cases b with
    | true => exact Ev.now _
    | false => exact lu ls.length 0 (by omega)
  have jt := j0 true
  simp only [Bool.not_true, Bool.false_and] at jt
  unfold spec_l3Manifest.f manOk
  refine Ev.bind (spec_dig c) ?_
  cases digestOk c with
  | false => simp only [Bool.false_eq_true, if_false, Bool.false_and]; exact jt
  | true =>
    simp only [if_true, Bool.true_and]
    by_cases g1 : (ls.length : Int) < 1
    · simp only [if_pos g1, decide_eq_false (show ¬ 1 ≤ (ls.length : Int) by omega), Bool.false_and]; exact jt
    · simp only [if_neg g1, decide_eq_true (show 1 ≤ (ls.length : Int) by omega), Bool.true_and]
      have h := j0 (decide ((ls.length : Int) > 40))
      rwa [show (!decide ((ls.length : Int) > 40)) = decide ((ls.length : Int) ≤ 40) by by_cases h : (ls.length : Int) > 40 <;> simp [h] <;> omega] at h
theorem spec_has (l : List ByteArray) (x : ByteArray) (hl : l.length ≤ 2097152) : Ev (fun k => spec_l1Has.f k l x) (decide (x ∈ l)) := by
  unfold spec_l1Has.f
  have key : ∀ d i : Nat, i + d = l.length → Ev (fun k => spec_l1Has.l0 k l x (i : Int)) (decide (x ∈ l.drop i)) := by
    intro d
    induction d with
    | zero =>
      intro i hi
      rw [List.drop_eq_nil_of_le (by omega)]
      exact Ev.step (f := fun _ => some (decide (x ∈ ([] : List ByteArray)))) (fun k => by simp only [spec_l1Has.l0]; rw [if_neg (by omega)]; simp) (Ev.now _)
    | succ d ih =>
      intro i hi
      have hlt : i < l.length := by omega
      rw [List.drop_eq_getElem_cons hlt]
      by_cases h : l[i] = x
      · rw [decide_eq_true (by rw [h]; exact List.mem_cons_self)]
        exact Ev.step (f := fun _ => some true) (fun k => by simp only [spec_l1Has.l0]; rw [if_pos (by omega), if_pos (by omega), rdS l i hlt, if_pos (by rw [h])]) (Ev.now _)
      · have : decide (x ∈ l[i] :: l.drop (i + 1)) = decide (x ∈ l.drop (i + 1)) := by
          rw [decide_eq_decide, List.mem_cons]
          exact ⟨fun hh => hh.resolve_left (fun e => h e.symm), .inr⟩
        rw [this]
        exact Ev.step (fun k => by simp only [spec_l1Has.l0]; rw [if_pos (by omega), if_pos (by omega), rdS l i hlt, if_neg (fun e => h ((same_is _ _).1 e)), wrap_nat i (by omega)]) (ih (i + 1) (by omega))
  exact key l.length 0 (by omega)
theorem spec_sift (l : List ByteArray) (out : List ByteArray) (i : Nat) (hi : i < l.length) (hl : l.length ≤ 2097152) (ho : out.length ≤ 2097152) (hr : Rising out) (hx : ¬ l[i] ∈ out) {r : List ByteArray}
    (hend : Ev (fun k => spec_l1Rising.l0 k l (insM out l[i]) ((i + 1 : Nat) : Int)) r) (j : Nat) : ∀ acc : List ByteArray, j ≤ out.length → acc.length = out.length + 1 → acc.take j = out.take j → acc.drop (j + 1) = out.drop j → (∀ (q : Nat) (h : q < out.length), j ≤ q → ¬ less out[q] l[i] = true) →
    Ev (fun k => spec_l1Rising.l1 k l acc (i : Int) (j : Int)) r := by
  have fin : ∀ (j : Nat) (acc : List ByteArray), j ≤ out.length → acc.length = out.length + 1 → acc.take j = out.take j → acc.drop (j + 1) = out.drop j → PlaceS out l[i] j → acc.set j l[i] = insM out l[i] := by
    intro j acc h1 h2 h3 h4 h5
    rw [insM_at hr hx h5, List.set_eq_take_append_cons_drop, if_pos (by omega), h3, h4]
  induction j with
  | zero =>
    intro acc h1 h2 h3 h4 h5
    have hpl : PlaceS out l[i] 0 := ⟨Nat.zero_le _, fun q h h0 => absurd h0 (by omega), fun q h _ => h5 q h (Nat.zero_le _)⟩
    refine Ev.step (fun k => ?_) hend
    simp only [spec_l1Rising.l1]
    rw [if_neg (by omega), if_pos (by omega), if_pos (by omega), if_pos (by omega), if_pos (by omega), rdS l i hi, wrap_nat i (by omega), Int.toNat_natCast, fin 0 acc h1 h2 h3 h4 hpl]
  | succ j ih =>
    intro acc h1 h2 h3 h4 h5
    have hj : j < out.length := by omega
    have hacc : acc[j]? = some out[j] := by
      have e1 : (acc.take (j + 1))[j]? = acc[j]? := List.getElem?_take_of_lt (by omega)
      have e2 : (out.take (j + 1))[j]? = out[j]? := List.getElem?_take_of_lt (by omega)
      rw [← e1, h3, e2, List.getElem?_eq_getElem hj]
    have haj : acc[j]'(by omega) = out[j] := by
      have := List.getElem?_eq_getElem (l := acc) (i := j) (by omega)
      rw [hacc] at this; exact (Option.some.inj this).symm
    have hw : wrap64 (((j + 1 : Nat) : Int) - 1) = (j : Int) := by unfold wrap64; omega
    cases hc : less l[i] out[j] with
    | true =>
      have hn : ¬ less out[j] l[i] = true := fun h => less_irrefl _ (less_trans h hc)
      refine Ev.step (fun k => ?_) (ih (acc.set (j + 1) out[j]) (by omega) (by rw [List.length_set]; exact h2) ?_ ?_ ?_)
      · simp only [spec_l1Rising.l1]
        rw [if_pos (by omega), hw, if_pos (by omega), if_pos (by omega), if_pos (by omega), if_pos (by omega), rdS l i hi, rdS acc j (by omega), haj, if_pos (show Op.bytesLess l[i].toList out[j].toList = true from hc), if_pos (by omega), if_pos (by omega), Int.toNat_natCast]
      · rw [List.take_set_of_le (by omega)]
        have := congrArg (List.take j) h3
        rwa [List.take_take, List.take_take, Nat.min_eq_left (by omega)] at this
      · rw [List.drop_set]
        simp only [Nat.lt_irrefl, if_false, Nat.sub_self]
        rw [List.drop_eq_getElem_cons (show j + 1 < acc.length by omega), List.set_cons_zero, h4, ← List.drop_eq_getElem_cons hj]
      · intro q hq hge
        rcases Nat.lt_or_ge j q with h | h
        · exact h5 q hq (by omega)
        · obtain rfl : q = j := by omega
          exact hn
    | false =>
      have hlt : less out[j] l[i] = true := by
        cases h : less out[j] l[i] with
        | true => rfl
        | false => exact absurd (less_total (by rw [hc]; decide) (by rw [h]; decide) ▸ List.getElem_mem hj) hx
      have hpl : PlaceS out l[i] (j + 1) := ⟨h1, fun q h hq => by
        rcases Nat.lt_or_ge q j with h' | h'
        · exact less_trans (hr q j h hj h') hlt
        · obtain rfl : q = j := by omega
          exact hlt, h5⟩
      refine Ev.step (fun k => ?_) hend
      simp only [spec_l1Rising.l1]
      rw [if_pos (by omega), hw, if_pos (by omega), if_pos (by omega), if_pos (by omega), if_pos (by omega), rdS l i hi, rdS acc j (by omega), haj, if_neg (show ¬ Op.bytesLess l[i].toList out[j].toList = true by rw [show Op.bytesLess l[i].toList out[j].toList = false from hc]; decide), if_pos (by omega), if_pos (by omega), wrap_nat i (by omega), Int.toNat_natCast, fin (j + 1) acc h1 h2 h3 h4 hpl]
theorem spec_rising (l : List ByteArray) (hl : l.length ≤ 2097152) : Ev (fun k => spec_l1Rising.f k l) (riseM l) := by
  unfold spec_l1Rising.f
  have hst : ∀ i : Nat, Rising (riseM (l.take i)) ∧ (riseM (l.take i)).length ≤ i := fun i => by
    have := riseM_fold (l.take i) [] rising_nil
    rw [List.length_take, List.length_nil] at this
    exact ⟨this.1, by unfold riseM; omega⟩
  refine fold_loop (n := l.length) (F := fun k acc i => spec_l1Rising.l0 k l acc i) (st := fun i => riseM (l.take i)) (fun i hi hr => ?_) (Ev.step (f := fun _ => some (riseM l)) (fun k => ?_) (Ev.now _))
  · obtain ⟨h1, h2⟩ := hst i
    rw [riseM_take_succ l i hi] at hr
    generalize riseM (l.take i) = out at h1 h2 hr
    refine Ev.step (f := fun k => (spec_l1Has.f k out l[i]).bind fun t => if t = true then spec_l1Rising.l0 k l out ((i + 1 : Nat) : Int) else spec_l1Rising.l1 k l (out ++ [l[i]]) (i : Int) (out.length : Int)) (fun k => ?_) (Ev.bind (spec_has out _ (by omega)) ?_)
    · simp only [spec_l1Rising.l0]
      rw [if_pos (by omega), if_pos (by omega), rdS l i hi, wrap_nat i (by omega), if_pos (by omega)]
    · by_cases hx : l[i] ∈ out
      · simp only [decide_eq_true hx, if_true]
        rwa [insM, if_pos hx] at hr
      · simp only [decide_eq_false hx, Bool.false_eq_true, if_false]
        exact spec_sift l out i hi hl (by omega) h1 hx hr out.length (out ++ [l[i]]) (Nat.le_refl _) (by simp) (by simp) (by simp) (fun q h hge => absurd h (by omega))
  · simp only [spec_l1Rising.l0]; rw [if_neg (by omega), List.take_length]
/-- The blobs of a manifest. -/
def blobsM (c : ByteArray) (ls : List ByteArray) : List ByteArray := if manOk c ls = true then riseM (c :: ls) else []
theorem blobsM_len (c : ByteArray) (ls : List ByteArray) : (blobsM c ls).length ≤ ls.length + 1 := by
  unfold blobsM
  split
  · have := (riseM_fold (c :: ls) [] rising_nil).2
    rw [List.length_cons, List.length_nil] at this
    unfold riseM; omega
  · exact Nat.zero_le _
theorem spec_blobs (c : ByteArray) (ls : List ByteArray) (hl : ls.length ≤ 1048576) : Ev (fun k => spec_BlobsOf.f k c ls) (blobsM c ls) := by
  unfold spec_BlobsOf.f blobsM
  refine Ev.bind (spec_man c ls hl) ?_
  cases manOk c ls with
  | false => simp only [Bool.false_eq_true, if_false]; exact Ev.now _
  | true =>
    simp only [if_true]
    refine Ev.bind (Ev.now [c]) ?_
    simp only [List.length_cons, List.length_nil, if_pos (show 0 + 1 + ls.length < 8796093022208 by omega)]
    exact Ev.bind (spec_rising (c :: ls) (by rw [List.length_cons]; omega)) (Ev.now _)
theorem back (ts : List (List UInt8)) : (ts.map fun b => (⟨b.toArray⟩ : ByteArray)).map (fun s => s.data.toList) = ts := by
  rw [List.map_map]
  exact (List.map_congr_left fun b _ => rfl).trans (List.map_id _)
theorem impl_blobs (c : ByteArray) (ls : List ByteArray) (hc : c.size ≤ 1048576) (hl : ls.length ≤ 1048576) (hx : ∀ x ∈ ls, x.size ≤ 1048576) : impl_BlobsOf.f c ls = some (blobsM c ls) := by
  unfold impl_BlobsOf.f impl_blobsOf.f blobsM
  rw [impl_man c ls (by omega) (fun x h => by have := hx x h; omega)]
  cases manOk c ls with
  | false => rfl
  | true =>
    have h1 : slices_Sort_string_string.f (c :: ls) = some ((((c :: ls).map fun s => s.data.toList).mergeSort fun x y => decide (x ≤ y)).map fun b => ⟨b.toArray⟩) := by
      unfold slices_Sort_string_string.f
      rw [if_pos ⟨by rw [List.length_cons]; omega, by rw [List.length_cons]; omega⟩]
    have hml : (((c :: ls).map fun s => s.data.toList).mergeSort fun x y => decide (x ≤ y)).length = ls.length + 1 := by rw [List.length_mergeSort, List.length_map, List.length_cons]
    have h2 : slices_Compact_string_string.f ((((c :: ls).map fun s => s.data.toList).mergeSort fun x y => decide (x ≤ y)).map fun b => ⟨b.toArray⟩) = some (riseM (c :: ls)) := by
      unfold slices_Compact_string_string.f
      rw [if_pos ⟨by rw [List.length_map, hml]; omega, by rw [List.length_map, hml]; omega⟩, back, ← sortC_rise]
      rfl
    simp only [Option.bind_some, if_true, List.length_cons, List.length_nil, if_pos (show 0 + 1 + ls.length < 8796093022208 by omega)]
    rw [show [c] ++ ls = c :: ls from rfl, h1, Option.bind_some, h2, Option.bind_some, Option.bind_some]
theorem szM_ok (c : ByteArray) (ls : List ByteArray) (hc : c.size ≤ maxLen) (hl : ls.length ≤ maxLen) (hx : ∀ x ∈ ls, x.size ≤ maxLen) :
    ∃ r, Ev (fun k => laws_szManifest.f k c ls 1048576) r ∧ (0 ≤ r → c.size ≤ 1048576 ∧ ls.length ≤ 1048576 ∧ ∀ x ∈ ls, x.size ≤ 1048576) := by
  unfold laws_szManifest.f
  have ew : wrap64 (1048576 - (c.size : Int)) = 1048576 - (c.size : Int) := by unfold maxLen at hc; unfold wrap64; omega
  rw [ew]
  by_cases g : 1048576 - (c.size : Int) < 0
  · exact ⟨-1, by simp only [if_pos g]; exact Ev.now _, fun h => by omega⟩
  · obtain ⟨r, hr, hle, h2⟩ := szS_ok ls (1048576 - (c.size : Int)) (by omega) (by omega) hl hx
    by_cases g2 : r < 0
    · exact ⟨-1, by simp only [if_neg g]; exact Ev.bind hr (by simp only [if_pos g2]; exact Ev.now _), fun h => by omega⟩
    · exact ⟨r, by simp only [if_neg g]; exact Ev.bind hr (by simp only [if_neg g2]; exact Ev.now _), fun _ => ⟨by omega, h2 (by omega)⟩⟩
theorem toM_ok (c : ByteArray) (ls : List ByteArray) (hl : ls.length ≤ 1048576) : Ev (fun k => laws_toManifest.f k c ls) (c, ls) := by
  unfold laws_toManifest.f
  exact Ev.bind (toS_ok ls hl) (Ev.now _)
theorem eqM_refl (c : ByteArray) (ls : List ByteArray) (hl : ls.length ≤ 2097152) : Ev (fun k => laws_eqManifest.f k c ls c ls) true := by
  unfold laws_eqManifest.f
  simp only [if_true]
  exact Ev.bind (eqS_refl ls hl) (by simp only [if_true]; exact Ev.now _)
end BlobsOfM
open BlobsOfM
theorem FnExactBlobsOf : laws_FnExactBlobsOf.Pure := by
  intro c ls hc hl
  refine Ev.rounds (g := fun k => laws_FnExactBlobsOf.f k c ls) ?_
  unfold laws_FnExactBlobsOf.f
  obtain ⟨r, hr, h2⟩ := szM_ok c ls hc hl.1 hl.2
  refine Ev.bind hr ?_
  by_cases h0 : r < 0
  · simp only [if_pos h0]; exact Ev.now _
  simp only [if_neg h0]
  obtain ⟨h3, h4, h5⟩ := h2 (by omega)
  have ht := toM_ok c ls h4
  have hspec := spec_blobs c ls h4
  have himpl : Ev (fun _ => impl_BlobsOf.f c ls) (blobsM c ls) := Ev.is (impl_blobs c ls h3 h4 h5)
  have hlen := blobsM_len c ls
  generalize blobsM c ls = P at hspec himpl hlen
  have he := eqS_refl P (by omega)
  obtain ⟨y1, hm1, hy1, _⟩ := markS_ok ls (by omega) 1 (by omega) (by omega)
  obtain ⟨y2, hm2, hy2l, hy2⟩ := markS_ok P (by omega) 1 (by omega) (by omega)
  have hh2 := heldS_ok y2 1 (by omega) (by omega) (by omega) hy2
  rw [hy2l] at hh2
  have hmm : Ev (fun k => laws_markManifest.f k c ls 1) (1 + (ls.length : Int), y1) := by
    unfold laws_markManifest.f
    exact Ev.bind hm1 (Ev.now _)
  refine Ev.bind ht (Ev.bind hspec (Ev.bind ht (Ev.bind himpl (Ev.bind he ?_))))
  simp only [if_true]
  refine Ev.bind ht (Ev.bind (eqM_refl c ls (by omega)) ?_)
  simp only [if_true]
  refine Ev.bind hmm ?_
  simp only [if_neg (show ¬ 1 + (ls.length : Int) < 0 by omega)]
  refine Ev.bind he ?_
  simp only [Bool.not_true]
  refine Ev.step (f := fun k => _) (fun k => by simp only [laws_FnExactBlobsOf.j0, Bool.false_eq_true, if_false]; rfl) ?_
  refine Ev.bind hm2 (Ev.bind hh2 ?_)
  simp only [if_neg (show ¬ 1 + (P.length : Int) < 0 by omega), if_true]
  refine Ev.bind ht (Ev.bind himpl (Ev.bind he ?_))
  simp only [if_true]
  refine Ev.bind hh2 ?_
  simp only [if_neg (show ¬ 1 + (P.length : Int) < 0 by omega), if_true]; exact Ev.now _

end Go.Proofs.YtkpbdfpmoeobnaaDoor.Pure
