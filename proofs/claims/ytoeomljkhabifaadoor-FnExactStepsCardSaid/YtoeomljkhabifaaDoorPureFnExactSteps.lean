/- For every two sets the program's Steps returns what the reference's returns, and leaves the sets as they were; what it returns owns its memory. No condition but that the arguments can be read. -/
import Derived.Test.YtoeomljkhabifaaDoorQFnExactStepsx
import Derived.Test.YtoeomljkhabifaaDoorStepsFnExactSteps
namespace Go.Proofs.YtoeomljkhabifaaDoor.Pure
open Go.RowKit Go.Proofs.YtoeomljkhabifaaDoor.QFnExactSteps Go.Proofs.YtoeomljkhabifaaDoorW.PrintWords Go.Proofs.YtoeomljkhabifaaDoorW.PrintLast Go.Proofs.YtoeomljkhabifaaDoorW.PrintMore Go.Proofs.YtoeomljkhabifaaDoor.Bits Go.Proofs.YtoeomljkhabifaaDoor.Num Go.Proofs.YtoeomljkhabifaaDoor.Dig Go.Proofs.YtoeomljkhabifaaDoor.Loops Go.Proofs.YtoeomljkhabifaaDoor.SetOf Go.Proofs.YtoeomljkhabifaaDoor.Sha Go.Proofs.YtoeomljkhabifaaDoor.Digest Go.Proofs.YtoeomljkhabifaaDoor.FrameRead Go.Proofs.YtoeomljkhabifaaDoor.Frame Go.Proofs.YtoeomljkhabifaaDoor.TreeOf Go.Proofs.YtoeomljkhabifaaDoor.StepsOf Go.Proofs.YtoeomljkhabifaaDoor.Order
set_option linter.unusedSimpArgs false
set_option linter.unusedVariables false
namespace StepsO
theorem rdS (xs : List ByteArray) (i : Nat) (h : i < xs.length) : rdOf ByteArray.empty xs (i : Int) = xs[i] := getD_at xs i _ h
/-- What the sizes come to: less than nothing, or the list is short and its texts are. -/
theorem szS_loop (xs : List ByteArray) (hx : ∀ x ∈ xs, x.size ≤ maxLen) (hl : xs.length ≤ 1048576) (d : Nat) : ∀ (i : Nat) (left : Int), i + d = xs.length → 0 ≤ left → left ≤ 1048576 →
    ∃ r, Ev (fun k => laws_szStringS.l0 k xs left (i : Int)) r ∧ r ≤ left ∧ (0 ≤ r → ∀ j, i ≤ j → (h : j < xs.length) → xs[j].size ≤ 1048576) := by
  induction d with
  | zero =>
    intro i left hi h0 h1
    refine ⟨left, Ev.step (f := fun _ => some left) (fun k => ?_) (Ev.now _), by omega, fun _ j hj h => by omega⟩
    simp only [laws_szStringS.l0]; rw [if_neg (by omega)]
  | succ d ih =>
    intro i left hi h0 h1
    have hlt : i < xs.length := by omega
    have hs := hx _ (List.getElem_mem hlt)
    unfold maxLen at hs
    have ew : wrap64 (left - (xs[i].size : Int)) = left - xs[i].size := by unfold wrap64; omega
    by_cases hn : left - (xs[i].size : Int) < 0
    · refine ⟨-1, Ev.step (f := fun _ => some (-1)) (fun k => ?_) (Ev.now _), by omega, fun h => absurd h (by omega)⟩
      simp only [laws_szStringS.l0]; rw [if_pos (by omega), if_pos (by omega), rdS xs i hlt, ew, if_pos hn]
    · obtain ⟨r, hr, hr1, hr2⟩ := ih (i + 1) (left - xs[i].size) (by omega) (by omega) (by omega)
      refine ⟨r, Ev.step (f := fun k => laws_szStringS.l0 k xs (left - xs[i].size) ((i + 1 : Nat) : Int)) (fun k => ?_) hr, by omega, fun h j hj hjl => ?_⟩
      · simp only [laws_szStringS.l0]; rw [if_pos (by omega), if_pos (by omega), rdS xs i hlt, ew, if_neg hn, wrap_nat i (by omega)]
      · by_cases e : i = j
        · subst e; omega
        · exact hr2 h j (by omega) hjl
theorem szS_ok (xs : List ByteArray) (left : Int) (h0 : 0 ≤ left) (h1 : left ≤ 1048576) (hl : xs.length ≤ maxLen) (hx : ∀ x ∈ xs, x.size ≤ maxLen) :
    ∃ r, Ev (fun k => laws_szStringS.f k xs left) r ∧ r ≤ left ∧ (0 ≤ r → xs.length ≤ 1048576 ∧ ∀ x ∈ xs, x.size ≤ 1048576) := by
  unfold laws_szStringS.f
  unfold maxLen at hl
  have ew : wrap64 (left - (xs.length : Int)) = left - xs.length := by unfold wrap64; omega
  by_cases hn : (left - (xs.length : Int)) < 0
  · refine ⟨-1, ?_, by omega, fun h => absurd h (by omega)⟩
    simp only [ew, if_pos hn]; exact Ev.now _
  · obtain ⟨r, hr, hr1, hr2⟩ := szS_loop xs hx (by omega) xs.length 0 (left - xs.length) (by omega) (by omega) (by omega)
    simp only [ew, if_neg hn]
    refine ⟨r, hr, by omega, fun h => ⟨by omega, fun x hxm => ?_⟩⟩
    obtain ⟨j, hj, rfl⟩ := List.getElem_of_mem hxm
    exact hr2 h j (by omega) hj
theorem toS_ok (l : List ByteArray) (hl : l.length ≤ 1048576) : Ev (fun k => laws_toStringS.f k l) l := by
  unfold laws_toStringS.f
  simp only [if_pos (show (0 : Int) ≤ (l.length : Int) by omega), if_pos (show ((l.length : Int)).toNat ≤ 17592186044416 by omega)]
  have := fill_loop l id (F := fun k acc i => laws_toStringS.l0 k l acc i) (fun i h acc ha k => by
    simp only [laws_toStringS.l0]; rw [if_pos (by omega), if_pos (by omega), if_pos (by omega), rdS l i h, wrap_nat i (by omega), Int.toNat_natCast]; rfl) (fun acc ha k => by
    simp only [laws_toStringS.l0]; rw [if_neg (by omega)]) (List.replicate ((l.length : Int)).toNat ⟨#[]⟩) (by simp)
  simpa using this
theorem eqS_refl (l : List ByteArray) (hl : l.length ≤ 2097152) : Ev (fun k => laws_eqStringS.f k l l) true := by
  unfold laws_eqStringS.f
  simp only [if_true]
  refine on_loop (n := l.length) (F := fun k i => laws_eqStringS.l0 k l l i) (fun i hi k => ?_) (Ev.step (f := fun _ => some true) (fun k => ?_) (Ev.now _))
  · simp only [laws_eqStringS.l0]; rw [if_pos (by omega), if_pos (by omega), if_pos (by omega), if_pos trivial, wrap_nat i (by omega)]
  · simp only [laws_eqStringS.l0]; rw [if_neg (by omega)]
theorem markText_loop (n : Nat) : ∀ (v : Int) (acc : ByteArray), v.toNat ≤ n → 0 ≤ v → v ≤ 4611686018427387904 → acc.size + v.toNat ≤ 4611686018427387905 → ∃ t, Ev (fun k => laws_markText.l0 k v acc) t := by
  induction n with
  | zero =>
    intro v acc hn h0 h1 hs
    refine ⟨(⟨#[109]⟩ : ByteArray) ++ acc, Ev.step (f := fun _ => some ((⟨#[109]⟩ : ByteArray) ++ acc)) (fun k => ?_) (Ev.now _)⟩
    simp only [laws_markText.l0]; rw [if_neg (by omega), if_pos (by omega)]
  | succ n ih =>
    intro v acc hn h0 h1 hs
    by_cases hv : v > 0
    · have e1 : wrap64 (Int.tdiv v 10) = v / 10 := by rw [Int.tdiv_eq_ediv_of_nonneg h0]; unfold wrap64; omega
      have sz : (strOfNums [wrap64 (48 + Int.tmod v 10) % 256]).size = 1 := by rw [size_strOfNums]; rfl
      have sz2 : (strOfNums [wrap64 (48 + Int.tmod v 10) % 256] ++ acc).size = 1 + acc.size := by rw [ByteArray.size_append, sz]
      obtain ⟨t, ht⟩ := ih (v / 10) (strOfNums [wrap64 (48 + Int.tmod v 10) % 256] ++ acc) (by omega) (by omega) (by omega) (by rw [sz2]; omega)
      refine ⟨t, Ev.step (f := fun k => laws_markText.l0 k (v / 10) (strOfNums [wrap64 (48 + Int.tmod v 10) % 256] ++ acc)) (fun k => ?_) ht⟩
      simp only [laws_markText.l0, Option.bind_some]; rw [if_pos hv, if_pos (by rw [sz]; omega), e1]
    · refine ⟨(⟨#[109]⟩ : ByteArray) ++ acc, Ev.step (f := fun _ => some ((⟨#[109]⟩ : ByteArray) ++ acc)) (fun k => ?_) (Ev.now _)⟩
      simp only [laws_markText.l0]; rw [if_neg hv, if_pos (by omega)]
/-- The text of a mark. -/
noncomputable def markT (v : Int) : ByteArray := open Classical in if h : ∃ t, Ev (fun k => laws_markText.f k v) t then Classical.choose h else ⟨#[]⟩
theorem markT_ok (v : Int) (h0 : 0 < v) (h1 : v ≤ 4611686018427387904) : Ev (fun k => laws_markText.f k v) (markT v) := by
  have h : ∃ t, Ev (fun k => laws_markText.f k v) t := by
    obtain ⟨t, ht⟩ := markText_loop v.toNat v ⟨#[]⟩ (Nat.le_refl _) (by omega) h1 (by show 0 + v.toNat ≤ _; omega)
    refine ⟨t, ?_⟩
    unfold laws_markText.f
    simp only [if_neg (show ¬ v ≤ 0 by omega)]; exact ht
  unfold markT
  rw [dif_pos h]; exact Classical.choose_spec h
theorem markS_ok (l : List ByteArray) (hl : l.length ≤ 2097152) (m : Int) (h0 : 1 ≤ m) (h1 : m ≤ 1000000000) :
    ∃ ys : List ByteArray, Ev (fun k => laws_markStringS.f k l m) (m + l.length, ys) ∧ ys.length = l.length ∧ ∀ (i : Nat) (h : i < ys.length), ys[i] = markT (m + i) := by
  obtain ⟨ys, he, hyl, hy⟩ := mark_loop (c := 1) (upd := fun v _ => markT v) (F := fun k acc v i => laws_markStringS.l0 k acc v i) l m
    (fun i acc h ha r hr => by
      refine Ev.step (f := fun k => (laws_markText.f k (m + 1 * (i : Int))).bind fun t => laws_markStringS.l0 k (acc.set i t) (m + 1 * ((i + 1 : Nat) : Int)) ((i + 1 : Nat) : Int)) (fun k => ?_) (Ev.bind (markT_ok _ (by omega) (by omega)) hr)
      simp only [laws_markStringS.l0]; rw [if_pos (by omega), Int.toNat_natCast, wrap_nat i (by omega), show wrap64 (m + 1 * (i : Int) + 1) = m + 1 * ((i + 1 : Nat) : Int) by unfold wrap64; omega]
      simp only [show (0 : Int) ≤ (i : Int) by omega, if_true])
    (fun acc ha => Ev.step (f := fun _ => some (m + 1 * (l.length : Int), acc)) (fun k => by simp only [laws_markStringS.l0]; rw [if_neg (by omega)]) (Ev.now _))
  refine ⟨ys, ?_, hyl, fun i h => ?_⟩
  · unfold laws_markStringS.f
    rw [Int.one_mul] at he; exact he
  · rw [hy i h (by omega), Int.one_mul]
theorem heldS_ok (ys : List ByteArray) (m : Int) (h0 : 1 ≤ m) (h1 : m ≤ 1000000000) (hl : ys.length ≤ 2097152) (hy : ∀ (i : Nat) (h : i < ys.length), ys[i] = markT (m + i)) : Ev (fun k => laws_heldStringS.f k ys m) (m + ys.length) := by
  unfold laws_heldStringS.f
  have := fold_loop (r := m + (ys.length : Int)) (n := ys.length) (F := fun k v i => laws_heldStringS.l0 k ys v i) (st := fun i => m + (i : Int)) (fun i hi hr => ?_) (Ev.step (f := fun _ => some (m + (ys.length : Int))) (fun k => ?_) (Ev.now _))
  · rw [show m + ((0 : Nat) : Int) = m by omega] at this; exact this
  · refine Ev.step (f := fun k => (laws_markText.f k (m + (i : Int))).bind fun t => if (markT (m + i)).toList = t.toList then laws_heldStringS.l0 k ys (m + ((i + 1 : Nat) : Int)) ((i + 1 : Nat) : Int) else some (-1)) (fun k => ?_) (Ev.bind (markT_ok _ (by omega) (by omega)) (by simp only [if_true]; exact hr))
    simp only [laws_heldStringS.l0]; rw [if_pos (by omega), if_pos (by omega), rdS ys i hi, hy i hi, wrap_nat i (by omega), show wrap64 (m + (i : Int) + 1) = m + ((i + 1 : Nat) : Int) by unfold wrap64; omega]
  · simp only [laws_heldStringS.l0]; rw [if_neg (by omega)]
theorem l1Digit_eq (c : Int) : spec_l1Digit.f c = some (decide (48 ≤ c ∧ c ≤ 57)) := by
  unfold spec_l1Digit.f
  by_cases h1 : c ≥ 48 <;> by_cases h2 : c ≤ 57 <;> simp [h1, h2] <;> omega
theorem l1Hexit_eq (c : Int) (h0 : 0 ≤ c) (h1 : c ≤ 255) : spec_l1Hexit.f c = some (hexV c) := by
  unfold spec_l1Hexit.f
  rw [l1Digit_eq]
  simp only [Option.bind_some, decide_eq_true_eq, hexV]
  repeat' split
  all_goals first | rfl | (exfalso; omega) | (congr 1; omega)
theorem spec_dig_loop (s : ByteArray) (hs : s.size = 71) (d : Nat) : ∀ i : Nat, i + d = 71 → Ev (fun k => spec_DigestOk.l0 k s (i : Int)) (((bytesOf s).drop i).all hexB) := by
  induction d with
  | zero =>
    intro i hi
    rw [List.drop_eq_nil_of_le (by rw [bytesOf_length]; omega)]
    refine Ev.step (f := fun _ => some true) (fun k => ?_) (Ev.now _)
    simp only [spec_DigestOk.l0]; rw [if_neg (by omega)]
  | succ d ih =>
    intro i hi
    have hlt : i < s.size := by omega
    rw [drop_bytes s i hlt]
    have hb := bt_range s i
    refine Ev.step (f := fun k => if hexV (bt s i) < 0 then some false else spec_DigestOk.l0 k s ((i + 1 : Nat) : Int)) (fun k => ?_) ?_
    · simp only [spec_DigestOk.l0]; rw [if_pos (by omega), if_pos (by omega), if_pos (by omega), l1Hexit_eq _ hb.1 hb.2]; simp only [Option.bind_some]
      rw [wrap_succ i _ hlt (by omega)]
    · by_cases h : hexB (bt s i) = true
      · have hn : ¬ hexV (bt s i) < 0 := by rw [hexV_neg]; exact fun hh => hh h
        simp only [if_neg hn, List.all_cons, h, Bool.true_and]; exact ih (i + 1) (by omega)
      · have hn : hexV (bt s i) < 0 := by rw [hexV_neg]; exact h
        simp only [if_pos hn, List.all_cons, h, Bool.false_and]; exact Ev.now _
theorem spec_dig (s : ByteArray) : Ev (fun k => spec_DigestOk.f k s) (digestOk s) := by
  unfold spec_DigestOk.f digestOk
  by_cases h1 : (s.size : Int) = 71
  · have hs : s.size = 71 := by omega
    simp only [if_pos h1, show decide (s.size = 71) = true from decide_eq_true hs, Bool.true_and, show (0 : Nat) ≤ 7 by omega, show (7 : Int) ≤ (s.size : Int) by omega, if_true]
    refine Ev.step (f := fun k => if ((s.extract 0 7).toList != ([115, 104, 97, 50, 53, 54, 58] : List UInt8)) = true then some false else spec_DigestOk.l0 k s 7) (fun k => by simp only [spec_DigestOk.j0]) ?_
    cases h : ((s.extract 0 7).toList == digHead) with
    | true =>
      have h' : ((s.extract 0 7).toList != ([115, 104, 97, 50, 53, 54, 58] : List UInt8)) = false := by
        show (!((s.extract 0 7).toList == digHead)) = false; rw [h]; rfl
      simp only [h', Bool.false_eq_true, if_false, Bool.true_and]
      exact spec_dig_loop s hs 64 7 rfl
    | false =>
      have h' : ((s.extract 0 7).toList != ([115, 104, 97, 50, 53, 54, 58] : List UInt8)) = true := by
        show (!((s.extract 0 7).toList == digHead)) = true; rw [h]; rfl
      simp only [h', if_true, Bool.false_and]
      exact Ev.now _
  · have hs : ¬ s.size = 71 := by omega
    simp only [if_neg h1, hs, decide_false, Bool.false_and]
    refine Ev.step (f := fun k => some false) (fun k => by simp only [spec_DigestOk.j0, if_true]) (Ev.now _)
theorem head_size : (⟨#[115, 104, 97, 50, 53, 54, 58]⟩ : ByteArray).size = 7 := rfl
theorem head_list : (⟨#[115, 104, 97, 50, 53, 54, 58]⟩ : ByteArray).toList = digHead := toL _
theorem cutHead (s : ByteArray) : strings_CutPrefix.f s (⟨#[115, 104, 97, 50, 53, 54, 58]⟩ : ByteArray) = some (if (decide (7 ≤ s.size) && ((s.extract 0 7).toList == digHead)) = true then (s.extract 7 s.size, true) else (s, false)) := by
  unfold strings_CutPrefix.f stringslite_CutPrefix.f stringslite_HasPrefix.f
  rw [head_size, head_list]
  by_cases h : 7 ≤ s.size
  · have h2 : (s.size : Int) ≥ ((7 : Nat) : Int) := by omega
    simp only [if_pos h2, show (0 : Int) ≤ ((7 : Nat) : Int) by omega, show ((7 : Nat) : Int) ≤ (s.size : Int) from h2, if_true, Option.bind_some, h, decide_true, Bool.true_and, Int.toNat_natCast]
    cases hh : ((s.extract 0 7).toList == digHead) <;> simp
  · have h2 : ¬ (s.size : Int) ≥ ((7 : Nat) : Int) := by omega
    simp only [if_neg h2, Option.bind_some, h, decide_false, Bool.false_and, Bool.false_eq_true, if_false]
theorem trimHex (s : ByteArray) (hs : s.size ≤ 140737488351232) : ∃ t, strings_Trim.f s (⟨#[48, 49, 50, 51, 52, 53, 54, 55, 56, 57, 97, 98, 99, 100, 101, 102]⟩ : ByteArray) = some t ∧ (t.toList == ([] : List UInt8)) = (bytesOf s).all hexB := by
  unfold strings_Trim.f
  refine ⟨_, if_pos ⟨by omega, by decide, by decide⟩, ?_⟩
  rw [toL]
  show (Lib.trimS s.data.toList hexSet == []) = _
  rw [trimS_nil]
  have := all_bytes s hexB 0
  rw [List.drop_zero, List.drop_zero] at this
  rw [this]
  congr 1; funext b; exact hexSet_is b
theorem impl_dig (s : ByteArray) (hs : s.size ≤ 140737488351232) : impl_isDigest.f s = some (digestOk s) := by
  unfold impl_isDigest.f
  rw [cutHead]
  simp only [Option.bind_some]
  unfold digestOk
  by_cases h71 : s.size = 71
  · cases hh : ((s.extract 0 7).toList == digHead) with
    | true =>
      have hx : (s.extract 7 s.size).size = 64 := by rw [ByteArray.size_extract]; omega
      obtain ⟨t, ht, he⟩ := trimHex (s.extract 7 s.size) (by omega)
      rw [h71] at hx ht he ⊢
      simp only [show (7 : Nat) ≤ 71 by omega, decide_true, Bool.true_and, if_true, hx, show ((64 : Nat) : Int) = 64 from rfl, ht, Option.bind_some, he]
      rw [show (bytesOf (s.extract 7 71)) = (bytesOf s).drop 7 by
        simp only [bytesOf, extract_data, List.map_take, List.map_drop]
        rw [List.take_of_length_le]
        simp only [List.length_drop, List.length_map, Array.length_toList]
        have : s.data.size = 71 := h71
        omega]
    | false => simp
  · simp only [h71, decide_false, Bool.false_and]
    cases hh : (decide (7 ≤ s.size) && ((s.extract 0 7).toList == digHead)) with
    | true =>
      have h7 : 7 ≤ s.size := by simp only [Bool.and_eq_true, decide_eq_true_eq] at hh; exact hh.1
      have hx : ¬ ((s.extract 7 s.size).size : Int) = 64 := by rw [ByteArray.size_extract]; omega
      simp only [if_true, if_neg hx]
    | false => simp
theorem spec_rises (l : List ByteArray) (hl : l.length ≤ 2097152) : Ev (fun k => spec_l1Rises.f k l) (risesM l) := by
  unfold spec_l1Rises.f risesM
  have := all_loop (n := l.length - 1) (F := fun k z => spec_l1Rises.l0 k l (z + 1)) (p := fun i => less (atS l i) (atS l (i + 1)))
    (fun i hi r hr => by
      have e1 : wrap64 ((i : Int) + 1 - 1) = (i : Int) := by unfold wrap64; omega
      have e2 : wrap64 ((i : Int) + 1 + 1) = ((i + 1 : Nat) : Int) + 1 := by unfold wrap64; omega
      refine Ev.step (f := fun k => if less (atS l i) (atS l (i + 1)) = true then spec_l1Rises.l0 k l (((i + 1 : Nat) : Int) + 1) else some false) (fun k => ?_) ?_
      · simp only [spec_l1Rises.l0]
        rw [if_pos (by omega), if_pos (by omega), e1, e2, if_pos (by omega), if_pos (by omega), show (i : Int) + 1 = ((i + 1 : Nat) : Int) by omega, rdS l i (by omega), rdS l (i + 1) (by omega), atS_is l i (by omega), atS_is l (i + 1) (by omega)]
        rfl
      · cases less (atS l i) (atS l (i + 1)) with
        | true => simp only [if_true, Bool.true_and]; exact hr
        | false => simp only [Bool.false_eq_true, if_false, Bool.false_and]; exact Ev.now _)
    (Ev.step (f := fun _ => some true) (fun k => by simp only [spec_l1Rises.l0]; rw [if_neg (by omega)]) (Ev.now _))
  exact this
theorem spec_set (l : List ByteArray) (hl : l.length ≤ 2097152) : Ev (fun k => spec_l7Set.f k l) (setOk l) := by
  rw [setOk_is]
  unfold spec_l7Set.f
  by_cases h0 : (l.length : Int) > 200
  · simp only [if_pos h0, show decide (l.length ≤ 200) = false from decide_eq_false (by omega), Bool.false_and]
    exact Ev.step (f := fun _ => some false) (fun k => by simp only [spec_l7Set.j0, if_true]) (Ev.now _)
  · simp only [if_neg h0, show decide (l.length ≤ 200) = true from decide_eq_true (by omega), Bool.true_and]
    refine Ev.bind (spec_rises l hl) ?_
    cases hr : risesM l with
    | false =>
      simp only [Bool.not_false, Bool.false_and]
      exact Ev.step (f := fun _ => some false) (fun k => by simp only [spec_l7Set.j0, if_true]) (Ev.now _)
    | true =>
      simp only [Bool.not_true, Bool.true_and]
      refine Ev.step (f := fun k => spec_l7Set.l0 k l 0) (fun k => by simp only [spec_l7Set.j0, Bool.false_eq_true, if_false]) ?_
      exact all_loop (n := l.length) (F := fun k z => spec_l7Set.l0 k l z) (p := fun i => digestOk (atS l i))
        (fun i hi r hr => by
          refine Ev.step (f := fun k => (spec_DigestOk.f k (atS l i)).bind fun t => if t = true then spec_l7Set.l0 k l ((i + 1 : Nat) : Int) else some false) (fun k => ?_) (Ev.bind (spec_dig _) ?_)
          · simp only [spec_l7Set.l0]; rw [if_pos (by omega), if_pos (by omega), rdS l i hi, wrap_nat i (by omega), atS_is l i hi]
          · cases digestOk (atS l i) with
            | true => simp only [if_true, Bool.true_and]; exact hr
            | false => simp only [Bool.false_eq_true, if_false, Bool.false_and]; exact Ev.now _)
        (Ev.step (f := fun _ => some true) (fun k => by simp only [spec_l7Set.l0]; rw [if_neg (by omega)]) (Ev.now _))
theorem impl_set (l : List ByteArray) (hl : l.length ≤ 2097152) (hx : ∀ x ∈ l, x.size ≤ 140737488351232) : Ev (fun k => impl_isSet.f k l) (setOk l) := by
  unfold impl_isSet.f
  have key : ∀ d i : Nat, i + d = l.length → Ev (fun k => impl_isSet.l0 k l l (l.length : Int) (i : Int)) (((List.range' i d).all fun i => digestOk (atS l i) && (decide (i = 0) || less (atS l (i - 1)) (atS l i))) && decide (l.length ≤ 200)) := by
    intro d
    induction d with
    | zero =>
      intro i hi
      refine Ev.step (f := fun _ => some (decide (l.length ≤ 200))) (fun k => ?_) (Ev.now _)
      simp only [impl_isSet.l0]; rw [if_neg (by omega)]; congr 1; rw [decide_eq_decide]; omega
    | succ d ih =>
      intro i hi
      have hlt : i < l.length := by omega
      rw [List.range'_succ, List.all_cons, Bool.and_assoc]
      have hn := ih (i + 1) (by omega)
      refine Ev.step (f := fun k => if digestOk (atS l i) = true then (if i = 0 then impl_isSet.l0 k l l (l.length : Int) ((i + 1 : Nat) : Int) else if less (atS l (i - 1)) (atS l i) = true then impl_isSet.l0 k l l (l.length : Int) ((i + 1 : Nat) : Int) else some false) else some false) (fun k => ?_) ?_
      · simp only [impl_isSet.l0]
        rw [if_pos (by omega), if_pos (by omega), if_pos (by omega), rdS l i hlt, impl_dig _ (hx _ (List.getElem_mem hlt)), wrap_nat i (by omega), atS_is l i hlt, Option.bind_some]
        cases hdg : digestOk l[i] with
        | false => simp only [Bool.false_eq_true, if_false]
        | true =>
          simp only [if_true]
          by_cases h0 : i = 0
          · rw [if_neg (show ¬ ((i : Int) > 0) by omega), if_pos h0]
          · rw [if_pos (show ((i : Int) > 0) by omega), if_neg h0, show wrap64 ((i : Int) - 1) = ((i - 1 : Nat) : Int) from wrap_pred i (by omega) (by omega), if_pos (by omega), if_pos (by omega), rdS l (i - 1) (by omega), atS_is l (i - 1) (by omega)]
            rfl
      · cases digestOk (atS l i) with
        | false => simp only [Bool.false_eq_true, if_false, Bool.false_and]; exact Ev.now _
        | true =>
          by_cases h0 : i = 0
          · simp only [if_pos h0, if_true, decide_eq_true h0, Bool.true_or, Bool.true_and]; exact hn
          · simp only [if_neg h0, if_true, decide_eq_false h0, Bool.false_or, Bool.true_and]
            cases less (atS l (i - 1)) (atS l i) with
            | true => simp only [if_true, Bool.true_and]; exact hn
            | false => simp only [Bool.false_eq_true, if_false, Bool.false_and]; exact Ev.now _
  have := key l.length 0 (by omega)
  rw [← List.range_eq_range'] at this
  exact this
theorem spec_under (l : List ByteArray) (p : ByteArray) (hl : l.length ≤ 2097152) (hd : ∀ d ∈ l, digestOk d = true) (hp : p.size ≤ 2) : Ev (fun k => spec_l7Under.f k l p) (underM l p) := by
  unfold spec_l7Under.f underM
  have e7 : wrap64 (7 + (p.size : Int)) = ((7 + p.size : Nat) : Int) := by unfold wrap64; omega
  refine fold_loop (n := l.length) (F := fun k acc i => spec_l7Under.l0 k l p acc i) (st := fun i => (l.take i).filter (startsB p)) (fun i hi hr => ?_) (Ev.step (f := fun _ => some (l.filter (startsB p))) (fun k => ?_) (Ev.now _))
  · refine Ev.step (fun k => ?_) hr
    have hds := digestOk_size (hd _ (List.getElem_mem hi))
    have hfl : ((l.take i).filter (startsB p)).length ≤ i := Nat.le_trans (List.length_filter_le _ _) (by rw [List.length_take]; omega)
    simp only [spec_l7Under.l0]
    rw [if_pos (by omega), if_pos (by omega), e7, if_pos (by omega), rdS l i hi, if_pos (by omega), Int.toNat_natCast, wrap_nat i (by omega), filter_take_succ _ l i hi]
    by_cases hs : (l[i].extract 7 (7 + p.size)).toList = p.toList
    · rw [if_pos hs, if_pos (show startsB p l[i] = true by simp only [startsB, hs, beq_self_eq_true]), if_pos (by omega)]
    · rw [if_neg hs, if_neg (show ¬ startsB p l[i] = true by simp only [startsB, beq_iff_eq]; exact hs)]
  · simp only [spec_l7Under.l0]; rw [if_neg (by omega), List.take_length]
theorem impl_under_ (l : List ByteArray) (p : ByteArray) (hl : l.length ≤ 2097152) (hd : ∀ d ∈ l, digestOk d = true) (hp : p.size ≤ 2) : Ev (fun k => impl_under.f k l p) (underM l p) := by
  unfold impl_under.f underM
  refine fold_loop (n := l.length) (F := fun k acc i => impl_under.l0 k p acc l (l.length : Int) i) (st := fun i => (l.take i).filter (startsB p)) (fun i hi hr => ?_) (Ev.step (f := fun _ => some (l.filter (startsB p))) (fun k => ?_) (Ev.now _))
  · refine Ev.step (fun k => ?_) hr
    have hds := hd _ (List.getElem_mem hi)
    have hdz := digestOk_size hds
    have hfl : ((l.take i).filter (startsB p)).length ≤ i := Nat.le_trans (List.length_filter_le _ _) (by rw [List.length_take]; omega)
    have hz : ((⟨#[115, 104, 97, 50, 53, 54, 58]⟩ : ByteArray) ++ p).size = 7 + p.size := by rw [ByteArray.size_append, head_size]
    have hst := head_starts l[i] p hds hp
    have hpre : strings_HasPrefix.f l[i] ((⟨#[115, 104, 97, 50, 53, 54, 58]⟩ : ByteArray) ++ p) = some (startsB p l[i]) := by
      unfold strings_HasPrefix.f stringslite_HasPrefix.f
      rw [hz, if_pos (by omega), if_pos (by omega), if_pos (by omega), Option.bind_some, Int.toNat_natCast, hst]
    simp only [impl_under.l0]
    rw [if_pos (by omega), if_pos (by omega), if_pos (by omega), if_pos (by omega), rdS l i hi, hpre, Option.bind_some, wrap_nat i (by omega), filter_take_succ _ l i hi]
    by_cases hs : startsB p l[i] = true
    · rw [if_pos hs, if_pos hs, if_pos (by omega)]
    · rw [if_neg hs, if_neg hs]
  · simp only [impl_under.l0]; rw [if_neg (by omega), List.take_length]
theorem spec_rot (x n : Int) (h0 : 0 ≤ x) (h1 : x < 4294967296) : spec_Rotate.f x n = some (rotr x (n % 32).toNat) := by
  have ht := Int.tmod_lt_of_pos n (show (0 : Int) < 32 by decide)
  have ht2 : -32 < Int.tmod n 32 := by have := Int.lt_tmod_of_pos n (show (0 : Int) < 32 by decide); omega
  have hm : (Int.tmod n 32) % 32 = n % 32 := by have := Int.tmod_add_mul_tdiv n 32; omega
  have hk : IntKind.u64.wrap (Int.tmod (wrap64 ((Int.tmod n 32) + 32)) 32) = n % 32 := by
    have e1 : wrap64 ((Int.tmod n 32) + 32) = (Int.tmod n 32) + 32 := by unfold wrap64; omega
    rw [e1, Int.tmod_eq_emod_of_nonneg (by omega), IntKind.wrap_u64]; omega
  have hk2 : IntKind.u64.wrap (32 - n % 32) = 32 - n % 32 := by rw [IntKind.wrap_u64]; omega
  unfold spec_Rotate.f
  rw [hk, if_pos (by omega), hk2, if_pos (by omega)]
  have e2 : (32 - n % 32).toNat = 32 - (n % 32).toNat := by omega
  unfold shr shl
  rw [show min (n % 32).toNat IntKind.u32.bits = (n % 32).toNat by simp [IntKind.bits]; omega, show min (32 - n % 32).toNat IntKind.u32.bits = (32 - n % 32).toNat by simp [IntKind.bits]; omega, e2, bits_or_comm, or_rotr x _ h0 h1 (by omega)]
theorem spec_rot1 (x : Int) (hx : 0 ≤ x ∧ x < 4294967296) (n : Int) (m : Nat) (hm : (n % 32).toNat = m) : spec_Rotate.f x n = some (rotr x m) := by rw [spec_rot x n hx.1 hx.2, hm]
theorem spec_words (h K b : List Int) (hb : b.length = 64) {r : List Int} (hend : Ev (fun k => spec_l1Block.l0 k h K b (wordsM b 64) 64) r) : Ev (fun k => spec_l1Block.l0 k h K b (List.replicate 64 0) 0) r := by
  refine fold_loop (n := 64) (F := fun k w i => spec_l1Block.l0 k h K b w i) (st := fun i => wordsM b i) (fun t ht hr => ?_) hend
  obtain ⟨hl, hR⟩ := wordsM_ok b t
  rw [wordsM_succ] at hr
  refine Ev.step (fun k => ?_) hr
  simp only [spec_l1Block.l0]
  rw [if_pos (by omega), wrap_nat t (by omega)]
  unfold stepW
  generalize wordsM b t = w at hl hR
  by_cases h16 : t < 16
  · have e0 : wrap64 (4 * (t : Int)) = ((4 * t : Nat) : Int) := by unfold wrap64; omega
    have e1 : wrap64 (((4 * t : Nat) : Int) + 1) = ((4 * t + 1 : Nat) : Int) := by unfold wrap64; omega
    have e2 : wrap64 (((4 * t : Nat) : Int) + 2) = ((4 * t + 2 : Nat) : Int) := by unfold wrap64; omega
    have e3 : wrap64 (((4 * t : Nat) : Int) + 3) = ((4 * t + 3 : Nat) : Int) := by unfold wrap64; omega
    rw [if_pos (by omega), e0, e1, e2, e3]
    repeat rw [if_pos (by omega)]
    rw [Int.toNat_natCast]; rfl
  · have e15 : wrap64 ((t : Int) - 15) = ((t - 15 : Nat) : Int) := by unfold wrap64; omega
    have e2 : wrap64 ((t : Int) - 2) = ((t - 2 : Nat) : Int) := by unfold wrap64; omega
    have e7 : wrap64 ((t : Int) - 7) = ((t - 7 : Nat) : Int) := by unfold wrap64; omega
    have e16 : wrap64 ((t : Int) - 16) = ((t - 16 : Nat) : Int) := by unfold wrap64; omega
    rw [if_neg (by omega), e15, e2, e7, e16]
    rw [if_pos (by omega), if_pos (by omega), if_pos (by omega), if_pos (by omega), spec_rot1 _ (hR.at _) 7 7 rfl, bindS, spec_rot1 _ (hR.at _) 18 18 rfl, bindS, spec_rot1 _ (hR.at _) 17 17 rfl, bindS, spec_rot1 _ (hR.at _) 19 19 rfl, bindS]
    rw [if_pos (by omega), if_pos (by omega), if_pos (by omega), if_pos (by omega), if_pos (by omega), if_pos (by omega), Int.toNat_natCast, if_neg h16]
    congr 2
    simp only [nextW, sml0, sml1]
    omega
theorem spec_rounds (h K b W : List Int) (hK : K.length = 64) (hW : W.length = 64) (hl : h.length = 8) (hr : R32 h) {r : List Int} (hend : Ev (fun k => spec_l1Block.l1 k h K W (roundsM K W h 64) 64) r) : Ev (fun k => spec_l1Block.l1 k h K W h 0) r := by
  refine fold_loop (n := 64) (F := fun k v i => spec_l1Block.l1 k h K W v i) (st := fun i => roundsM K W h i) (fun t ht hr' => ?_) hend
  obtain ⟨hvl, hR⟩ := roundsM_ok K W h hl hr t
  rw [roundsM_succ] at hr'
  refine Ev.step (fun k => ?_) hr'
  simp only [spec_l1Block.l1]
  generalize roundsM K W h t = v at hvl hR
  rw [if_pos (by omega), if_pos (by omega), if_pos (by omega), if_pos (by omega), spec_rot1 _ (hR.at _) 6 6 rfl, bindS, spec_rot1 _ (hR.at _) 11 11 rfl, bindS, spec_rot1 _ (hR.at _) 25 25 rfl, bindS]
  rw [if_pos (by omega), if_pos (by omega), if_pos (by omega), if_pos (by omega), if_pos (by omega), spec_rot1 _ (hR.at _) 2 2 rfl, bindS, spec_rot1 _ (hR.at _) 13 13 rfl, bindS, spec_rot1 _ (hR.at _) 22 22 rfl, bindS]
  rw [if_pos (by omega), if_pos (by omega), if_pos (by omega), wrap_nat t (by omega)]
  congr 1
  simp only [roundM, oneM, twoM, big0, big1, ch, maj]
  congr 1
  · omega
  · congr 4
    omega
theorem spec_add (h v : List Int) (hl : h.length = 8) (hvl : v.length = 8) : Ev (fun k => spec_l1Block.l2 k h v [] 0) (addM h v 8) := by
  refine fold_loop (n := 8) (F := fun k a i => spec_l1Block.l2 k h v a i) (st := fun i => addM h v i) (fun i hi hr => ?_) (Ev.step (f := fun _ => some (addM h v 8)) (fun k => ?_) (Ev.now _))
  · rw [addM_succ] at hr
    refine Ev.step (fun k => ?_) hr
    have := addM_len h v i
    simp only [spec_l1Block.l2]
    rw [if_pos (by omega), if_pos (by omega), if_pos (by omega), if_pos (by omega), if_pos (by omega), wrap_nat i (by omega)]
  · simp only [spec_l1Block.l2]; rw [if_neg (by omega)]
theorem spec_block (h K b : List Int) (hK : K.length = 64) (hb : b.length = 64) (hl : h.length = 8) (hr : R32 h) : Ev (fun k => spec_l1Block.f k h K b) (blockM h K b) := by
  unfold spec_l1Block.f blockM
  simp only [show (64 : Nat) ≤ 70368744177664 by omega, if_true]
  obtain ⟨hwl, _⟩ := wordsM_ok b 64
  refine spec_words h K b hb ?_
  generalize wordsM b 64 = W at hwl
  refine Ev.step (f := fun k => spec_l1Block.l1 k h K W h 0) (fun k => ?_) ?_
  · simp only [spec_l1Block.l0]
    rw [if_neg (by omega), bindS, if_pos (by simp; omega), List.nil_append]
  · refine spec_rounds h K b W hK hwl hl hr ?_
    obtain ⟨hvl, _⟩ := roundsM_ok K W h hl hr 64
    refine Ev.step (f := fun k => spec_l1Block.l2 k h (roundsM K W h 64) [] 0) (fun k => ?_) (spec_add h _ hl hvl)
    simp only [spec_l1Block.l1]
    rw [if_neg (by omega)]
theorem spec_runs (s : ByteArray) (p : List Int) (n : Nat) (hp : p.length = 64 * n) (hn : n ≤ 4611686018427387904 / 64) : Ev (fun k => spec_Sum.l2 k p kM hM 0) (runM p n) := by
  have key : ∀ d i : Nat, i + d = n → Ev (fun k => spec_Sum.l2 k p kM (runM p i) ((64 * i : Nat) : Int)) (runM p n) := by
    intro d
    induction d with
    | zero =>
      intro i hi
      obtain rfl : i = n := by omega
      refine Ev.step (f := fun _ => some (runM p i)) (fun k => ?_) (Ev.now _)
      simp only [spec_Sum.l2]; rw [if_neg (by omega)]
    | succ d ih =>
      intro i hi
      obtain ⟨hl, hr⟩ := runM_ok p i
      have hw : wrap64 (((64 * i : Nat) : Int) + 64) = ((64 * (i + 1) : Nat) : Int) := by unfold wrap64; omega
      have hbl : ((p.drop (64 * i)).take 64).length = 64 := by rw [List.length_take, List.length_drop]; omega
      have hcut : (p.take (64 * (i + 1))).drop (64 * i) = (p.drop (64 * i)).take 64 := by
        rw [List.drop_take]; congr 1; omega
      refine Ev.step (f := fun k => (spec_l1Block.f k (runM p i) kM ((p.drop (64 * i)).take 64)).bind fun t => spec_Sum.l2 k p kM t ((64 * (i + 1) : Nat) : Int)) (fun k => ?_) (Ev.bind (spec_block _ kM _ rfl hbl hl hr) ?_)
      · simp only [spec_Sum.l2]
        rw [if_pos (by omega), if_pos (by omega), hw, if_pos (by omega), if_pos (by omega), Int.toNat_natCast, Int.toNat_natCast, hcut]
      · rw [← runM_succ]; exact ih (i + 1) (by omega)
  exact key n 0 (by omega)
theorem spec_lens (s : ByteArray) (p0 : List Int) (n : Int) (hp : p0.length ≤ 4611686018427387904 / 64) {r : List Int} (hl : p0.length < 140737488355320) (hend : Ev (fun k => spec_Sum.l2 k (p0 ++ lenM n 8) kM hM 0) r) : Ev (fun k => spec_Sum.l1 k p0 n 7) r := by
  have key : ∀ d i : Nat, i + d = 8 → Ev (fun k => spec_Sum.l1 k (p0 ++ lenM n i) n (7 - (i : Int))) r := by
    intro d
    induction d with
    | zero =>
      intro i hi
      obtain rfl : i = 8 := by omega
      refine Ev.step (f := fun k => spec_Sum.l2 k (p0 ++ lenM n 8) kM hM 0) (fun k => ?_) hend
      simp only [spec_Sum.l1]
      rw [if_neg (by omega)]
      unfold spec_l1K.f
      rw [bindS]; rfl
    | succ d ih =>
      intro i hi
      have hi8 : i ≤ 7 := by omega
      have e7 : (7 - (i : Int)) = ((7 - i : Nat) : Int) := by omega
      have hw : wrap64 ((7 - (i : Int)) - 1) = 7 - ((i + 1 : Nat) : Int) := by unfold wrap64; omega
      have hnn : (0 : Int) ≤ IntKind.u64.wrap (wrap64 (8 * (7 - (i : Int)))) := by rw [IntKind.wrap_u64]; omega
      refine Ev.step (fun k => ?_) (ih (i + 1) (by omega))
      simp only [spec_Sum.l1]
      rw [if_pos (by omega), if_pos hnn, if_pos (by rw [List.length_append, lenM_len]; omega), hw, List.append_assoc]
      rw [lenM, ← e7]
  have := key 8 0 (by omega)
  simpa [lenM] using this
theorem spec_sum (s : ByteArray) (hs : s.size ≤ 70368744177664) : Ev (fun k => spec_Sum.f k s) (sumM s) := by
  unfold spec_Sum.f
  have hbl := bytesOf_length s
  simp only [if_pos (show (s.size : Int) ≤ 140737488351232 by omega)]
  refine Ev.bind (Ev.now _) ?_
  simp only [if_pos (show (bytesOf s).length < 140737488355328 by omega)]
  have key : ∀ d i : Nat, i + d = zerosM s.size → Ev (fun k => spec_Sum.l0 k s (bytesOf s ++ [128] ++ List.replicate i 0)) (sumM s) := by
    intro d
    induction d with
    | zero =>
      intro i hi
      obtain rfl : i = zerosM s.size := by omega
      have hz : zerosM s.size < 64 := by unfold zerosM; omega
      have h56 : ((bytesOf s ++ [128] ++ List.replicate (zerosM s.size) (0 : Int)).length : Int) % 64 = 56 := by
        simp only [List.length_append, List.length_replicate, List.length_singleton, hbl, zerosM]; omega
      have hlen : (bytesOf s ++ [128] ++ List.replicate (zerosM s.size) (0 : Int)).length = s.size + 1 + zerosM s.size := by simp [hbl]; omega
      refine Ev.step (f := fun k => spec_Sum.l1 k (bytesOf s ++ [128] ++ List.replicate (zerosM s.size) 0) (IntKind.u64.wrap ((IntKind.u64.wrap ((s.size : Int))) * 8)) 7) (fun k => ?_) ?_
      · simp only [spec_Sum.l0]; rw [if_pos h56]
      · refine spec_lens s _ _ (by omega) (by omega) ?_
        have hp := padM_len s
        unfold sumM
        exact spec_runs s (padM s) _ hp (by omega)
    | succ d ih =>
      intro i hi
      have hz : zerosM s.size < 64 := by unfold zerosM; omega
      have h56 : ¬ ((bytesOf s ++ [128] ++ List.replicate i (0 : Int)).length : Int) % 64 = 56 := by
        simp only [List.length_append, List.length_replicate, List.length_singleton, hbl]
        unfold zerosM at hi hz
        omega
      refine Ev.step (fun k => ?_) (ih (i + 1) (by omega))
      simp only [spec_Sum.l0]
      rw [if_neg h56, if_pos (by simp [hbl]; omega), List.append_assoc _ (List.replicate i 0), ← List.replicate_succ']
  have := key (zerosM s.size) 0 (by omega)
  simpa using this
theorem spec_hex (n : Int) (hn : 0 ≤ n ∧ n < 4294967296) : Ev (fun k => spec_l1Hex.f k n) (hexM n) := by
  unfold spec_l1Hex.f
  have key : ∀ d i : Nat, i + d = 8 → Ev (fun k => spec_l1Hex.l0 k n (hexL n i) (7 - (i : Int))) (hexM n) := by
    intro d
    induction d with
    | zero =>
      intro i hi
      obtain rfl : i = 8 := by omega
      exact Ev.step (f := fun _ => some (hexM n)) (fun k => by simp only [spec_l1Hex.l0]; rw [if_neg (by omega)]; rfl) (Ev.now _)
    | succ d ih =>
      intro i hi
      have e7 : (7 - (i : Int)) = ((7 - i : Nat) : Int) := by omega
      have hw : wrap64 ((7 - (i : Int)) - 1) = 7 - ((i + 1 : Nat) : Int) := by unfold wrap64; omega
      have hnn : (0 : Int) ≤ IntKind.u64.wrap (wrap64 (4 * (7 - (i : Int)))) := by rw [IntKind.wrap_u64]; omega
      have hr := nib_range n i hn
      have hnib : Go.bits .and .u32 (shr .u32 n (IntKind.u64.wrap (wrap64 (4 * (7 - (i : Int)))))) 15 = nibM n i := by rw [nibM, e7]
      refine Ev.step (fun k => ?_) (ih (i + 1) (by omega))
      simp only [spec_l1Hex.l0]
      rw [if_pos (by omega), if_pos hnn, hnib, if_pos hr.1, if_pos hr.2, if_pos (by rw [hexL_len]; omega), hw, hexL_succ]
      rfl
  exact key 8 0 (by omega)
theorem spec_digest (s : ByteArray) (hs : s.size ≤ 70368744177664) : Ev (fun k => spec_Digest.f k s) (digestM s) := by
  unfold spec_Digest.f
  refine Ev.bind (spec_sum s hs) ?_
  obtain ⟨hl, hr⟩ := sumM_ok s
  unfold digestM
  generalize sumM s = h at hl hr
  refine fold_loop (n := 8) (F := fun k t i => spec_Digest.l0 k h t i) (st := fun i => digL h i) (fun i hi hh => ?_) (Ev.step (f := fun _ => some (digL h 8)) (fun k => ?_) (Ev.now _))
  · refine Ev.step (f := fun k => (spec_l1Hex.f k (rd h (i : Int))).bind fun t => if (digL h i).size + t.size ≤ 9223372036854775807 then spec_Digest.l0 k h (digL h i ++ t) ((i + 1 : Nat) : Int) else none) (fun k => ?_) (Ev.bind (spec_hex _ (hr.at _)) ?_)
    · simp only [spec_Digest.l0]
      rw [if_pos (by omega), if_pos (by omega), if_pos (by omega), wrap_nat i (by omega)]
    · simp only [if_pos (show (digL h i).size + (hexM (rd h (i : Int))).size ≤ 9223372036854775807 by rw [digL_size, hexM_size]; omega)]
      exact hh
  · simp only [spec_Digest.l0]; rw [if_neg (by omega)]
theorem digL_next (h : List Int) (hr : R32 h) (i : Nat) : bytesOf (digL h (i + 1)) = bytesOf (digL h i) ++ hexL (rd h (i : Int)) 8 := by
  rw [digL, bytesOf_append, hexM, bytesOf_strOfNums _ (fun x hx => (hexL_hex _ (hr.at _) 8 x hx).2)]
theorem impl_nib (n : Int) (j : Nat) (hj : j < 8) : Go.bits .and .u32 (shr .u32 n (28 - 4 * (j : Int))) 15 = nibM n j := by
  unfold nibM
  rw [show IntKind.u64.wrap (wrap64 (4 * ((7 - j : Nat) : Int))) = 28 - 4 * (j : Int) by rw [IntKind.wrap_u64]; unfold wrap64; omega]
theorem impl_word (h : List Int) (hr : R32 h) (i : Nat) (hi : i < 8) (l : Int) {r : ByteArray} (hend : Ev (fun k => impl_digest.l0 k (bytesOf (digL h (i + 1))) h l ((i + 1 : Nat) : Int)) r) : Ev (fun k => impl_digest.l1 k (bytesOf (digL h i)) (rd h (i : Int)) 28 h l (i : Int)) r := by
  have hlen : (bytesOf (digL h i)).length = 7 + 8 * i := by rw [bytesOf_length, digL_size]
  have key : ∀ d j : Nat, j + d = 8 → Ev (fun k => impl_digest.l1 k (bytesOf (digL h i) ++ hexL (rd h (i : Int)) j) (rd h (i : Int)) (28 - 4 * (j : Int)) h l (i : Int)) r := by
    intro d
    induction d with
    | zero =>
      intro j hj
      obtain rfl : j = 8 := by omega
      refine Ev.step (fun k => ?_) hend
      simp only [impl_digest.l1]
      rw [if_neg (by omega), wrap_nat i (by omega), digL_next h hr i]
    | succ d ih =>
      intro j hj
      have hn := nib_range (rd h (i : Int)) j (hr.at _)
      refine Ev.step (fun k => ?_) (ih (j + 1) (by omega))
      simp only [impl_digest.l1]
      rw [if_pos (by omega), if_pos (by omega), impl_nib _ j (by omega), if_pos hn.1, if_pos hn.2, if_pos (by rw [List.length_append, hlen, hexL_len]; omega), hexL_succ, ← List.append_assoc]
      rw [show wrap64 (28 - 4 * (j : Int) - 4) = 28 - 4 * ((j + 1 : Nat) : Int) by unfold wrap64; omega]
      rfl
  have := key 8 0 (by omega)
  simpa [hexL] using this
theorem impl_digest_ok (s : ByteArray) (hs : s.size ≤ 70368744177664) : Ev (fun k => impl_digest.f k s) (digestM s) := by
  unfold impl_digest.f
  refine Ev.bind (Ev.is (show impl_sum.f s = some (sumM s) by unfold impl_sum.f; rw [if_pos hs])) ?_
  obtain ⟨hl, hr⟩ := sumM_ok s
  unfold digestM
  generalize sumM s = h at hl hr
  have key : ∀ d i : Nat, i + d = 8 → Ev (fun k => impl_digest.l0 k (bytesOf (digL h i)) h (h.length : Int) (i : Int)) (digL h 8) := by
    intro d
    induction d with
    | zero =>
      intro i hi
      obtain rfl : i = 8 := by omega
      refine Ev.step (f := fun _ => some (digL h 8)) (fun k => ?_) (Ev.now _)
      simp only [impl_digest.l0]; rw [if_neg (by omega), strOfNums_bytesOf]
    | succ d ih =>
      intro i hi
      refine Ev.step (f := fun k => impl_digest.l1 k (bytesOf (digL h i)) (rd h (i : Int)) 28 h (h.length : Int) (i : Int)) (fun k => ?_) (impl_word h hr i (by omega) _ (ih (i + 1) (by omega)))
      simp only [impl_digest.l0]; rw [if_pos (by omega), if_pos (by omega), if_pos (by omega)]
  exact key 8 0 (by omega)
theorem spec_below (p : ByteArray) (hp : p.size ≤ 140737488351232) : Ev (fun k => spec_l7Below.f k p) ((List.range 16).map (kid p)) := by
  unfold spec_l7Below.f
  refine fold_loop (n := 16) (F := fun k acc i => spec_l7Below.l0 k p acc i) (st := fun i => (List.range i).map (kid p)) (fun i hi hr => ?_) (Ev.step (f := fun _ => some ((List.range 16).map (kid p))) (fun k => ?_) (Ev.now _))
  · refine Ev.step (fun k => ?_) hr
    have hz := hexS_size i hi
    simp only [spec_l7Below.l0]
    rw [if_pos (by omega), if_pos (by omega), wrap_nat i (by omega), if_pos (by omega), if_pos (by omega), Int.toNat_natCast, Int.toNat_natCast]
    rw [show (⟨#[48, 49, 50, 51, 52, 53, 54, 55, 56, 57, 97, 98, 99, 100, 101, 102]⟩ : ByteArray).extract i (i + 1) = hexS i from rfl, if_pos (by omega), if_pos (by simp; omega), List.range_succ, List.map_append]
    rfl
  · simp only [spec_l7Below.l0]; rw [if_neg (by omega)]
theorem spec_node (d : Nat) : ∀ (l : List ByteArray) (p : ByteArray), p.size + d = 2 → l.length ≤ 200 → (∀ x ∈ l, digestOk x = true) → Ev (fun k => spec_l7Node.f k l p) (nodeM d l p) := by
  induction d with
  | zero =>
    intro l p hp hl hd
    refine Ev.step (f := fun k => (spec_l7Under.f k l p).bind fun t => spec_l7Node.l0 k (⟨#[]⟩ : ByteArray) t 0) (fun k => ?_) ?_
    · simp only [spec_l7Node.f]; rw [if_pos (by omega)]
    refine Ev.bind (spec_under l p (by omega) hd (by omega)) ?_
    have hdu := under_dig hd p
    have hul := underM_len l p
    have hj := under_join hd hl p
    simp only [nodeM]
    generalize underM l p = u at hdu hul hj
    refine fold_loop (n := u.length) (F := fun k s i => spec_l7Node.l0 k s u i) (st := fun i => joinM (u.take i)) (fun i hi hr => ?_) (Ev.step (f := fun k => (spec_Digest.f k (joinM u)).bind fun t => some t) (fun k => ?_) (Ev.bind (spec_digest _ (by omega)) (Ev.now _)))
    · refine Ev.step (fun k => ?_) hr
      have hx := digestOk_size (hdu _ (List.getElem_mem hi))
      have hs : (joinM (u.take i)).size ≤ 71 * i := by
        rw [joinM_size 71 _ (fun s hs => digestOk_size (hdu s (List.mem_of_mem_take hs))), List.length_take]
        exact Nat.mul_le_mul_left _ (Nat.min_le_left _ _)
      simp only [spec_l7Node.l0]
      rw [if_pos (by omega), if_pos (by omega), rdS u i hi, if_pos (by omega), wrap_nat i (by omega), List.take_succ_eq_append_getElem hi, joinM_snoc]
    · simp only [spec_l7Node.l0]; rw [if_neg (by omega), List.take_length]
  | succ d ih =>
    intro l p hp hl hd
    refine Ev.step (f := fun k => (spec_l7Below.f k p).bind fun t => spec_l7Node.l1 k l (⟨#[]⟩ : ByteArray) t 0) (fun k => ?_) ?_
    · simp only [spec_l7Node.f]; rw [if_neg (by omega)]
    refine Ev.bind (spec_below p (by omega)) ?_
    simp only [nodeM]
    have hbl : ((List.range 16).map (kid p)).length = 16 := by simp
    have hat : ∀ i : Nat, (hi : i < 16) → rdOf ByteArray.empty ((List.range 16).map (kid p)) (i : Int) = kid p i := by
      intro i hi
      rw [rdS _ i (by omega)]
      simp
    generalize (List.range 16).map (kid p) = b at hbl hat
    refine fold_loop (n := 16) (F := fun k s i => spec_l7Node.l1 k l s b i) (st := fun i => joinM (kidsM d l p i)) (fun i hi hr => ?_) (Ev.step (f := fun k => (spec_Digest.f k (joinM (kidsM d l p 16))).bind fun t => some t) (fun k => ?_) (Ev.bind (spec_digest _ (by rw [kidsM_size]; omega)) (Ev.now _)))
    · have hk := kid_size p i hi
      have hks := kidsM_size d l p i
      have hn := nodeM_size d l (kid p i)
      have hr2 := ih (underM l (kid p i)) (kid p i) (by omega) (Nat.le_trans (underM_len _ _) hl) (under_dig hd _)
      rw [node_self] at hr2
      refine Ev.step (f := fun k => (spec_l7Under.f k l (kid p i)).bind fun t => ((spec_l7Node.f k t (kid p i)).bind fun u => (if (joinM (kidsM d l p i)).size + u.size ≤ 9223372036854775807 then (spec_l7Node.l1 k l ((joinM (kidsM d l p i)) ++ u) b ((i + 1 : Nat) : Int)) else none))) (fun k => ?_) (Ev.bind (spec_under l (kid p i) (by omega) hd (by omega)) (Ev.bind hr2 ?_))
      · simp only [spec_l7Node.l1]
        rw [if_pos (by omega), if_pos (by omega), if_pos (by omega), hat i hi, wrap_nat i (by omega)]
      · simp only [if_pos (show (joinM (kidsM d l p i)).size + (nodeM d l (kid p i)).size ≤ 9223372036854775807 by omega)]
        rw [← kidsM_succ]
        exact hr
    · simp only [spec_l7Node.l1]; rw [if_neg (by omega)]
set_option maxRecDepth 100000 in
theorem enc_hex (i : Nat) (h : i < 16) : Utf8.encode (impl_nodeOf.hexC i) = hexS i :=
  (by decide : ∀ q : Fin 16, Utf8.encode (impl_nodeOf.hexC q.1) = hexS q.1) ⟨i, h⟩
theorem join_is (l : List ByteArray) : (⟨(Lib.join (l.map (·.data.toList)) (⟨#[]⟩ : ByteArray).data.toList).toArray⟩ : ByteArray) = joinM l := by
  have key : ∀ l : List ByteArray, Lib.join (l.map (·.data.toList)) [] = l.flatMap (fun s => s.data.toList) := by
    have inter : ∀ L : List (List UInt8), List.intercalate [] L = L.flatten := by
      intro L
      induction L with
      | nil => rfl
      | cons a L ih =>
        cases L with
        | nil => simp [List.intercalate]
        | cons b L =>
          simp only [List.intercalate, List.intersperse, List.flatten_cons, List.nil_append] at ih ⊢
          rw [ih]
    intro l
    rw [List.flatMap, ← inter]
    rfl
  rw [show (⟨#[]⟩ : ByteArray).data.toList = [] from rfl, key]
  rfl
theorem impl_join (l : List ByteArray) (hl : l.length ≤ 140737488355328) (hj : (joinM l).size ≤ 140737488355328) : strings_Join.f l (⟨#[]⟩ : ByteArray) = some (joinM l) := by
  unfold strings_Join.f
  have := join_is l
  rw [if_pos ⟨hl, by rw [← this] at hj; simpa [ByteArray.size] using hj⟩, this]
theorem impl_node (d : Nat) : ∀ (l : List ByteArray) (p : ByteArray), p.size + d = 2 → l.length ≤ 200 → (∀ x ∈ l, digestOk x = true) → Ev (fun k => impl_nodeOf.f k l p) (nodeM d l p) := by
  induction d with
  | zero =>
    intro l p hp hl hd
    refine Ev.step (f := fun k => (impl_under.f k l p).bind fun s => (strings_Join.f s (⟨#[]⟩ : ByteArray)).bind fun j => impl_digest.f k j) (fun k => ?_) ?_
    · rw [impl_nodeOf.f]; simp only [if_pos (show (p.size : Int) = 2 by omega)]
    have hul := underM_len l p
    have hj := under_join hd hl p
    refine Ev.bind (impl_under_ l p (by omega) hd (by omega)) (Ev.bind (Ev.is (impl_join _ (by omega) (by omega))) ?_)
    exact impl_digest_ok _ (by omega)
  | succ d ih =>
    intro l p hp hl hd
    refine Ev.step (f := fun k => (impl_under.f k l p).bind fun s => (impl_nodeOf.lp (fun q => impl_nodeOf.f k s q) p 16 0 (⟨#[]⟩ : ByteArray)).bind fun a => impl_digest.f k a) (fun k => ?_) ?_
    · rw [impl_nodeOf.f]; simp only [if_neg (show ¬ (p.size : Int) = 2 by omega)]
    refine Ev.bind (impl_under_ l p (by omega) hd (by omega)) (Ev.bind (a := joinM (kidsM d l p 16)) ?_ (impl_digest_ok _ (by rw [kidsM_size]; omega)))
    have key : ∀ n i : Nat, i + n = 16 → Ev (fun k => impl_nodeOf.lp (fun q => impl_nodeOf.f k (underM l p) q) p n i (joinM (kidsM d l p i))) (joinM (kidsM d l p 16)) := by
      intro n
      induction n with
      | zero => intro i hi; obtain rfl : i = 16 := by omega
                exact Ev.now _
      | succ n ihn =>
        intro i hi
        have hlt : i < 16 := by omega
        have hk := kid_size p i hlt
        have hz := hexS_size i hlt
        have hks := kidsM_size d l p i
        have hn := nodeM_size d l (kid p i)
        have hr := ih (underM l p) (kid p i) (by omega) (Nat.le_trans (underM_len _ _) hl) (under_dig hd _)
        rw [node_kid] at hr
        simp only [impl_nodeOf.lp, enc_hex i hlt]
        simp only [if_pos (show p.size + (hexS i).size ≤ 9223372036854775807 by omega)]
        refine Ev.bind hr ?_
        simp only [if_pos (show (joinM (kidsM d l p i)).size + (nodeM d l (kid p i)).size ≤ 9223372036854775807 by omega)]
        rw [← kidsM_succ]
        exact ihn (i + 1) (by omega)
    exact key 16 0 rfl
theorem spec_has (l : List ByteArray) (x : ByteArray) (hl : l.length ≤ 2097152) : Ev (fun k => spec_l1Has.f k l x) (decide (x ∈ l)) := by
  unfold spec_l1Has.f
  have key : ∀ d i : Nat, i + d = l.length → Ev (fun k => spec_l1Has.l0 k l x (i : Int)) (decide (x ∈ l.drop i)) := by
    intro d
    induction d with
    | zero =>
      intro i hi
      rw [List.drop_eq_nil_of_le (by omega)]
      exact Ev.step (f := fun _ => some (decide (x ∈ ([] : List ByteArray)))) (fun k => by simp only [spec_l1Has.l0]; rw [if_neg (by omega)]; simp) (Ev.now _)
    | succ d ih =>
      intro i hi
      have hlt : i < l.length := by omega
      rw [List.drop_eq_getElem_cons hlt]
      by_cases h : l[i] = x
      · rw [decide_eq_true (by rw [h]; exact List.mem_cons_self)]
        exact Ev.step (f := fun _ => some true) (fun k => by simp only [spec_l1Has.l0]; rw [if_pos (by omega), if_pos (by omega), rdS l i hlt, if_pos (by rw [h])]) (Ev.now _)
      · have : decide (x ∈ l[i] :: l.drop (i + 1)) = decide (x ∈ l.drop (i + 1)) := by
          rw [decide_eq_decide, List.mem_cons]
          exact ⟨fun hh => hh.resolve_left (fun e => h e.symm), .inr⟩
        rw [this]
        exact Ev.step (fun k => by simp only [spec_l1Has.l0]; rw [if_pos (by omega), if_pos (by omega), rdS l i hlt, if_neg (fun e => h ((same_is _ _).1 e)), wrap_nat i (by omega)]) (ih (i + 1) (by omega))
  exact key l.length 0 (by omega)
/-- What the one list has and the other has not. -/
def lessM (l m : List ByteArray) : List ByteArray := l.filter (fun d => decide (¬ d ∈ m))
theorem spec_less (l m : List ByteArray) (hl : l.length ≤ 2097152) (hm : m.length ≤ 2097152) : Ev (fun k => spec_l7Less.f k l m) (lessM l m) := by
  unfold spec_l7Less.f lessM
  refine fold_loop (n := l.length) (F := fun k acc i => spec_l7Less.l0 k l m acc i) (st := fun i => (l.take i).filter (fun d => decide (¬ d ∈ m))) (fun i hi hr => ?_) (Ev.step (f := fun _ => some (l.filter (fun d => decide (¬ d ∈ m)))) (fun k => ?_) (Ev.now _))
  · have hfl : ((l.take i).filter (fun d => decide (¬ d ∈ m))).length ≤ i := Nat.le_trans (List.length_filter_le _ _) (by rw [List.length_take]; omega)
    refine Ev.step (f := fun k => (spec_l1Has.f k m l[i]).bind fun t => if t = true then spec_l7Less.l0 k l m ((l.take i).filter (fun d => decide (¬ d ∈ m))) ((i + 1 : Nat) : Int) else spec_l7Less.l0 k l m ((l.take i).filter (fun d => decide (¬ d ∈ m)) ++ [l[i]]) ((i + 1 : Nat) : Int)) (fun k => ?_) (Ev.bind (spec_has m _ hm) ?_)
    · simp only [spec_l7Less.l0]
      rw [if_pos (by omega), if_pos (by omega), rdS l i hi, wrap_nat i (by omega), if_pos (by omega)]
    · rw [filter_take_succ _ l i hi] at hr
      by_cases hs : l[i] ∈ m
      · simp only [decide_eq_true hs, if_true]
        rw [if_neg (show ¬ decide (¬ l[i] ∈ m) = true by rw [decide_eq_true_eq]; exact fun h => h hs)] at hr; exact hr
      · simp only [decide_eq_false hs, Bool.false_eq_true, if_false]
        rw [if_pos (show decide (¬ l[i] ∈ m) = true from decide_eq_true hs)] at hr; exact hr
  · simp only [spec_l7Less.l0]; rw [if_neg (by omega), List.take_length]
theorem spec_loop (a b : List ByteArray) (ha : setOk a = true) (hb : setOk b = true) : ∀ (n : Nat) (qs ms ls : List ByteArray) (i : Nat), Run a b qs ms ls i n → Ev (fun k => spec_Steps.l0 k a b qs ms ls (i : Int)) ((stepsM a b n qs ms ls i).1, (stepsM a b n qs ms ls i).2.1, (stepsM a b n qs ms ls i).2.2, true) := by
  have hla := setOk_len ha
  have hlb := setOk_len hb
  have hda := setOk_dig ha
  have hdb := setOk_dig hb
  intro n
  induction n with
  | zero =>
    intro qs ms ls i h
    have h1 := meas_len (qs.drop i)
    rw [List.length_drop] at h1
    have h2 := h.left
    have h3 := h.le
    exact Ev.step (f := fun _ => some (qs, ms, ls, true)) (fun k => by simp only [spec_Steps.l0]; rw [if_neg (by omega)]) (Ev.now _)
  | succ n ih =>
    intro qs ms ls i h
    rw [stepsM]
    by_cases hi : i < qs.length
    · simp only [if_pos hi]
      have hlen := h.len
      have hp2 := h.small _ (List.getElem_mem hi)
      have hrd : rdOf ByteArray.empty qs (i : Int) = atS qs i := by rw [rdS qs i hi, atS_is qs i hi]
      have hml := h.ml
      have hll := h.ll
      have hmost := h.most
      have hon := h.on hi
      have hmore := h.more hi
      rw [← atS_is qs i hi] at hp2
      generalize atS qs i = p at hrd hp2 hmore
      have hu1 := spec_under a p (by omega) hda hp2
      have hu2 := spec_under b p (by omega) hdb hp2
      have hn1 := spec_node (2 - p.size) (underM a p) p (by omega) (Nat.le_trans (underM_len _ _) hla) (under_dig hda _)
      have hn2 := spec_node (2 - p.size) (underM b p) p (by omega) (Nat.le_trans (underM_len _ _) hlb) (under_dig hdb _)
      rw [node_self] at hn1 hn2
      refine Ev.step (f := fun k => (spec_l7Under.f k a p).bind fun t265 => ((spec_l7Under.f k b p).bind fun t268 => ((spec_l7Node.f k t265 p).bind fun t271 => ((spec_l7Node.f k t268 p).bind fun t272 => (if t271.toList = t272.toList then (spec_Steps.l0 k a b qs ms ls ((i + 1 : Nat) : Int)) else (if (p.size : Int) < 2 then ((spec_l7Below.f k p).bind fun t273 => (if qs.length + t273.length < 8796093022208 then (spec_Steps.l0 k a b (qs ++ t273) ms ls ((i + 1 : Nat) : Int)) else none)) else ((spec_l7Less.f k t265 t268).bind fun t279 => (if ms.length + t279.length < 8796093022208 then ((spec_l7Less.f k t268 t265).bind fun t285 => (if ls.length + t285.length < 8796093022208 then (spec_Steps.l0 k a b qs (ms ++ t279) (ls ++ t285) ((i + 1 : Nat) : Int)) else none)) else none))))))) ) (fun k => ?_) (Ev.bind hu1 (Ev.bind hu2 (Ev.bind hn1 (Ev.bind hn2 ?_))))
      · simp only [spec_Steps.l0]
        rw [if_pos (by omega), if_pos (by omega), hrd, wrap_nat i (by omega)]
      · show Ev (fun k => if (nodeE a p).toList = (nodeE b p).toList then _ else _) _
        by_cases hnn : nodeE a p = nodeE b p
        · simp only [if_pos hnn, hnn, if_true]
          exact ih _ _ _ _ (hon ms ls (by omega) (by omega))
        · have hnl : ¬ (nodeE a p).toList = (nodeE b p).toList := fun e => hnn ((same_is _ _).1 e)
          simp only [if_neg hnn, if_neg hnl]
          by_cases hp : p.size < 2
          · simp only [if_pos hp, if_pos (show (p.size : Int) < 2 by omega)]
            refine Ev.bind (spec_below p (by omega)) ?_
            have hkl := kidsOf_len p
            unfold kidsOf at hkl
            simp only [if_pos (show qs.length + ((List.range 16).map (kid p)).length < 8796093022208 by omega)]
            exact ih _ _ _ _ (hmore hp)
          · simp only [if_neg hp, if_neg (show ¬ (p.size : Int) < 2 by omega)]
            have e1 := lessU_len a b p
            have e2 := lessU_len b a p
            have ul1 := underM_len a p
            have ul2 := underM_len b p
            refine Ev.bind (a := lessU a b p) (spec_less _ _ (by omega) (by omega)) ?_
            simp only [if_pos (show ms.length + (lessU a b p).length < 8796093022208 by omega)]
            refine Ev.bind (a := lessU b a p) (spec_less _ _ (by omega) (by omega)) ?_
            simp only [if_pos (show ls.length + (lessU b a p).length < 8796093022208 by omega)]
            exact ih _ _ _ _ (hon _ _ (by rw [List.length_append]; omega) (by rw [List.length_append]; omega))
    · simp only [if_neg hi]
      exact Ev.step (f := fun _ => some (qs, ms, ls, true)) (fun k => by simp only [spec_Steps.l0]; rw [if_neg (by omega)]) (Ev.now _)
theorem spec_steps (n : Nat) (a b : List ByteArray) (hn : Run a b [⟨#[]⟩] [] [] 0 n) (ha : a.length ≤ 1048576) (hb : b.length ≤ 1048576) : Ev (fun k => spec_Steps.f k a b) (StepsN n a b) := by
  have j0t : Ev (fun k => spec_Steps.j0 k a b [] [] [] true) ([], [], [], false) := Ev.step (f := fun _ => some ([], [], [], false)) (fun k => by simp only [spec_Steps.j0, if_true]) (Ev.now _)
  unfold spec_Steps.f StepsN
  refine Ev.bind (Ev.now []) (Ev.bind (Ev.now []) (Ev.bind (Ev.now []) (Ev.bind (spec_set a (by omega)) ?_)))
  cases hs : setOk a with
  | false => simp only [Bool.false_eq_true, if_false]; exact j0t
  | true =>
    simp only [if_true]
    refine Ev.bind (spec_set b (by omega)) ?_
    cases hq : setOk b with
    | false => simp only [Bool.false_eq_true, if_false, Bool.not_false]; exact j0t
    | true =>
      simp only [if_true, Bool.not_true]
      refine Ev.step (f := fun k => spec_Steps.l0 k a b [⟨#[]⟩] [] [] ((0 : Nat) : Int)) (fun k => ?_) (spec_loop a b hs hq n _ _ _ 0 hn)
      simp only [spec_Steps.j0, Bool.false_eq_true, if_false]
      rw [if_pos (by simp)]
      rfl
theorem inB_is (l : List ByteArray) (x : ByteArray) : impl_missing.inB l x = decide (x ∈ l) := by
  unfold impl_missing.inB
  rw [Bool.eq_iff_iff, List.any_eq_true, decide_eq_true_eq]
  constructor
  · rintro ⟨y, hy, he⟩
    rw [(same_is x y).1 (beq_iff_eq.1 he)]
    exact hy
  · intro h
    exact ⟨x, h, beq_self_eq_true _⟩
theorem impl_miss (l m : List ByteArray) (hl : l.length ≤ 2097152) (hm : m.length ≤ 2097152) : impl_missing.f l m = some (l.filter (fun d => decide (¬ d ∈ m))) := by
  unfold impl_missing.f
  rw [if_pos ⟨by omega, by omega⟩]
  congr 1
  refine List.filter_congr (fun d _ => ?_)
  rw [inB_is]
  by_cases h : d ∈ m <;> simp [h]
theorem lp_is (p : ByteArray) (hp : p.size < 2) (qs : List ByteArray) (ha : qs.length ≤ 1048576) : impl_Steps.lp p 16 0 qs = some (qs ++ kidsOf p) := by
  have key : ∀ n i : Nat, i + n = 16 → impl_Steps.lp p n i (qs ++ (List.range i).map (kid p)) = some (qs ++ kidsOf p) := by
    intro n
    induction n with
    | zero => intro i hi; obtain rfl : i = 16 := by omega
              rfl
    | succ n ih =>
      intro i hi
      have hz := hexS_size i (by omega)
      rw [impl_Steps.lp, enc_hex i (by omega), if_pos (by omega), if_pos (by simp; omega)]
      have := ih (i + 1) (by omega)
      rw [List.range_succ, List.map_append, ← List.append_assoc] at this
      exact this
  have := key 16 0 rfl
  simpa using this
theorem impl_loop (a b : List ByteArray) (ha : setOk a = true) (hb : setOk b = true) : ∀ (n : Nat) (qs ms ls : List ByteArray) (i : Nat), Run a b qs ms ls i n → Ev (fun k => impl_Steps.l0 k a b qs ms ls (i : Int)) ((stepsM a b n qs ms ls i).1, (stepsM a b n qs ms ls i).2.1, (stepsM a b n qs ms ls i).2.2, true) := by
  have hla := setOk_len ha
  have hlb := setOk_len hb
  have hda := setOk_dig ha
  have hdb := setOk_dig hb
  intro n
  induction n with
  | zero =>
    intro qs ms ls i h
    have h1 := meas_len (qs.drop i)
    rw [List.length_drop] at h1
    have h2 := h.left
    have h3 := h.le
    exact Ev.step (f := fun _ => some (qs, ms, ls, true)) (fun k => by simp only [impl_Steps.l0]; rw [if_neg (by omega)]) (Ev.now _)
  | succ n ih =>
    intro qs ms ls i h
    rw [stepsM]
    by_cases hi : i < qs.length
    · simp only [if_pos hi]
      have hlen := h.len
      have hp2 := h.small _ (List.getElem_mem hi)
      have hrd : rdOf ByteArray.empty qs (i : Int) = atS qs i := by rw [rdS qs i hi, atS_is qs i hi]
      have hml := h.ml
      have hll := h.ll
      have hmost := h.most
      have hon := h.on hi
      have hmore := h.more hi
      rw [← atS_is qs i hi] at hp2
      generalize atS qs i = p at hrd hp2 hmore
      have hu1 := impl_under_ a p (by omega) hda hp2
      have hu2 := impl_under_ b p (by omega) hdb hp2
      have hn1 := impl_node (2 - p.size) a p (by omega) hla hda
      have hn2 := impl_node (2 - p.size) b p (by omega) hlb hdb
      refine Ev.step (f := fun k => (impl_nodeOf.f k a p).bind fun n0 => ((impl_nodeOf.f k b p).bind fun n1 => (if n0.toList = n1.toList then (impl_Steps.l0 k a b qs ms ls ((i + 1 : Nat) : Int)) else (if (p.size : Int) < 2 then ((impl_Steps.lp p 16 0 qs).bind fun y => impl_Steps.l0 k a b y ms ls ((i + 1 : Nat) : Int)) else ((impl_under.f k a p).bind fun one => ((impl_under.f k b p).bind fun two => ((impl_missing.f one two).bind fun m1 => (if ms.length + m1.length < 8796093022208 then ((impl_missing.f two one).bind fun m2 => (if ls.length + m2.length < 8796093022208 then impl_Steps.l0 k a b qs (ms ++ m1) (ls ++ m2) ((i + 1 : Nat) : Int) else none)) else none)))))))) (fun k => ?_) (Ev.bind hn1 (Ev.bind hn2 ?_))
      · simp only [impl_Steps.l0]
        rw [if_pos (by omega), if_pos (by omega), hrd, wrap_nat i (by omega)]
      · show Ev (fun k => if (nodeE a p).toList = (nodeE b p).toList then _ else _) _
        by_cases hnn : nodeE a p = nodeE b p
        · simp only [if_pos hnn, hnn, if_true]
          exact ih _ _ _ _ (hon ms ls (by omega) (by omega))
        · have hnl : ¬ (nodeE a p).toList = (nodeE b p).toList := fun e => hnn ((same_is _ _).1 e)
          simp only [if_neg hnn, if_neg hnl]
          by_cases hp : p.size < 2
          · simp only [if_pos hp, if_pos (show (p.size : Int) < 2 by omega)]
            refine Ev.bind (Ev.is (lp_is p hp qs (by omega))) ?_
            exact ih _ _ _ _ (hmore hp)
          · simp only [if_neg hp, if_neg (show ¬ (p.size : Int) < 2 by omega)]
            have e1 := lessU_len a b p
            have e2 := lessU_len b a p
            have ul1 := underM_len a p
            have ul2 := underM_len b p
            refine Ev.bind hu1 (Ev.bind hu2 (Ev.bind (a := lessU a b p) (Ev.is (impl_miss _ _ (by omega) (by omega))) ?_))
            simp only [if_pos (show ms.length + (lessU a b p).length < 8796093022208 by omega)]
            refine Ev.bind (a := lessU b a p) (Ev.is (impl_miss _ _ (by omega) (by omega))) ?_
            simp only [if_pos (show ls.length + (lessU b a p).length < 8796093022208 by omega)]
            exact ih _ _ _ _ (hon _ _ (by rw [List.length_append]; omega) (by rw [List.length_append]; omega))
    · simp only [if_neg hi]
      exact Ev.step (f := fun _ => some (qs, ms, ls, true)) (fun k => by simp only [impl_Steps.l0]; rw [if_neg (by omega)]) (Ev.now _)
theorem impl_steps (n : Nat) (a b : List ByteArray) (hn : Run a b [⟨#[]⟩] [] [] 0 n) (ha : a.length ≤ 1048576) (hb : b.length ≤ 1048576) (hxa : ∀ x ∈ a, x.size ≤ 140737488351232) (hxb : ∀ x ∈ b, x.size ≤ 140737488351232) : Ev (fun k => impl_Steps.f k a b) (StepsN n a b) := by
  unfold impl_Steps.f StepsN
  refine Ev.bind (impl_set a (by omega) hxa) ?_
  cases hs : setOk a with
  | false => simp only [Bool.false_eq_true, if_false]; exact Ev.now _
  | true =>
    simp only [if_true]
    refine Ev.bind (impl_set b (by omega) hxb) ?_
    cases hq : setOk b with
    | false => simp only [Bool.false_eq_true, if_false]; exact Ev.now _
    | true =>
      simp only [if_true]
      exact impl_loop a b hs hq n _ _ _ 0 hn
end StepsO
open StepsO

theorem FnExactSteps : laws_FnExactSteps.Pure := by
  intro a b ha hb
  refine Ev.rounds (g := fun k => laws_FnExactSteps.f k a b) ?_
  unfold laws_FnExactSteps.f
  obtain ⟨r, hr, hle, hr2⟩ := szS_ok a 1048576 (by omega) (by omega) ha.1 ha.2
  refine Ev.bind hr ?_
  by_cases h0 : r < 0
  · simp only [if_pos h0]; exact Ev.now _
  simp only [if_neg h0]
  obtain ⟨hn, hx⟩ := hr2 (by omega)
  obtain ⟨q, hq, hle2, hq2⟩ := szS_ok b r (by omega) hle hb.1 hb.2
  refine Ev.bind hq ?_
  by_cases h1 : q < 0
  · simp only [if_pos h1]; exact Ev.now _
  simp only [if_neg h1]
  obtain ⟨hnb, hxb⟩ := hq2 (by omega)
  have hta := toS_ok a hn
  have htb := toS_ok b hnb
  obtain ⟨n, hrun⟩ : ∃ n, Run a b [⟨#[]⟩] [] [] 0 n := ⟨273, Run.start a b⟩
  have hspec := spec_steps n a b hrun hn hnb
  have himpl := impl_steps n a b hrun hn hnb (fun x h => by have := hx x h; omega) (fun x h => by have := hxb x h; omega)
  obtain ⟨hl1, hl2, hl3⟩ := StepsN_len n a b hrun
  generalize StepsN n a b = R at hspec himpl hl1 hl2 hl3
  obtain ⟨A, M, L, z⟩ := R
  simp only at hl1 hl2 hl3
  have eA := eqS_refl A (by omega)
  have eM := eqS_refl M (by omega)
  have eL := eqS_refl L (by omega)
  obtain ⟨ya, hma, hyal, hya⟩ := markS_ok a (by omega) 1 (by omega) (by omega)
  obtain ⟨yb, hmb, hybl, hyb⟩ := markS_ok b (by omega) (1 + (a.length : Int)) (by omega) (by omega)
  obtain ⟨y1, hm1, hy1l, hy1⟩ := markS_ok A (by omega) 1 (by omega) (by omega)
  obtain ⟨y2, hm2, hy2l, hy2⟩ := markS_ok M (by omega) (1 + (A.length : Int)) (by omega) (by omega)
  obtain ⟨y3, hm3, hy3l, hy3⟩ := markS_ok L (by omega) (1 + (A.length : Int) + (M.length : Int)) (by omega) (by omega)
  have hh1 := heldS_ok y1 1 (by omega) (by omega) (by omega) hy1
  have hh2 := heldS_ok y2 (1 + (A.length : Int)) (by omega) (by omega) (by omega) hy2
  have hh3 := heldS_ok y3 (1 + (A.length : Int) + (M.length : Int)) (by omega) (by omega) (by omega) hy3
  rw [hy1l] at hh1
  rw [hy2l] at hh2
  rw [hy3l] at hh3
  refine Ev.bind hta (Ev.bind htb (Ev.bind hspec (Ev.bind hta (Ev.bind htb (Ev.bind himpl (Ev.bind eA ?_))))))
  simp only [if_true]
  refine Ev.bind eM ?_
  simp only [if_true]
  refine Ev.bind eL ?_
  simp only [if_true, bne_self_eq_false]
  refine Ev.step (f := fun k => _) (fun k => by simp only [laws_FnExactSteps.j0, Bool.false_eq_true, if_false]; rfl) ?_
  refine Ev.bind hta (Ev.bind (eqS_refl a (by omega)) ?_)
  simp only [if_true]
  refine Ev.bind htb (Ev.bind (eqS_refl b (by omega)) ?_)
  simp only [if_true]
  refine Ev.bind hma (Ev.bind hmb ?_)
  simp only [if_neg (show ¬ 1 + (a.length : Int) + (b.length : Int) < 0 by omega)]
  refine Ev.bind eA ?_
  simp only [if_true]
  refine Ev.bind eM ?_
  simp only [if_true]
  refine Ev.bind eL ?_
  simp only [if_true, bne_self_eq_false]
  refine Ev.step (f := fun k => _) (fun k => by simp only [laws_FnExactSteps.j1, Bool.false_eq_true, if_false]; rfl) ?_
  refine Ev.bind hm1 (Ev.bind hm2 (Ev.bind hm3 (Ev.bind hh1 ?_)))
  simp only [if_neg (show ¬ 1 + (A.length : Int) < 0 by omega)]
  refine Ev.bind hh2 ?_
  simp only [if_neg (show ¬ 1 + (A.length : Int) + (M.length : Int) < 0 by omega)]
  refine Ev.bind hh3 ?_
  simp only [if_neg (show ¬ 1 + (A.length : Int) + (M.length : Int) + (L.length : Int) < 0 by omega), if_true]
  refine Ev.bind hta (Ev.bind htb (Ev.bind himpl (Ev.bind eA ?_)))
  simp only [if_true]
  refine Ev.bind eM ?_
  simp only [if_true]
  refine Ev.bind eL ?_
  simp only [if_true, bne_self_eq_false]
  refine Ev.step (f := fun k => _) (fun k => by simp only [laws_FnExactSteps.j2, Bool.false_eq_true, if_false]; rfl) ?_
  refine Ev.bind hh1 ?_
  simp only [if_neg (show ¬ 1 + (A.length : Int) < 0 by omega)]
  refine Ev.bind hh2 ?_
  simp only [if_neg (show ¬ 1 + (A.length : Int) + (M.length : Int) < 0 by omega)]
  refine Ev.bind hh3 ?_
  simp only [if_neg (show ¬ 1 + (A.length : Int) + (M.length : Int) + (L.length : Int) < 0 by omega), if_true]
  exact Ev.now _

end Go.Proofs.YtoeomljkhabifaaDoor.Pure
