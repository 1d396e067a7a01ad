/- For every text the program's ReadManifest returns what the reference's returns; what it returns owns its memory. No condition but the size that the model lets a text have. -/
import Derived.Test.YtldpdaifajjaeaaDoorQFnExactReadManifestx
import Derived.Test.YtldpdaifajjaeaaDoorPiecesFnExactReadManifest
namespace Go.Proofs.YtldpdaifajjaeaaDoor.Pure
open Go.RowKit Go.Proofs.YtldpdaifajjaeaaDoor.QFnExactReadManifest Go.Proofs.YtldpdaifajjaeaaDoorW.PrintWords Go.Proofs.YtldpdaifajjaeaaDoorW.PrintLast Go.Proofs.YtldpdaifajjaeaaDoorW.PrintMore Go.Proofs.YtldpdaifajjaeaaDoor.Bits Go.Proofs.YtldpdaifajjaeaaDoor.Num Go.Proofs.YtldpdaifajjaeaaDoor.Dig Go.Proofs.YtldpdaifajjaeaaDoor.Loops Go.Proofs.YtldpdaifajjaeaaDoor.Pieces
set_option linter.unusedSimpArgs false
set_option linter.unusedVariables false
namespace ReadManOf
theorem rdS (xs : List ByteArray) (i : Nat) (h : i < xs.length) : rdOf ByteArray.empty xs (i : Int) = xs[i] := getD_at xs i _ h
theorem eqS_refl (l : List ByteArray) (hl : l.length ≤ 2097152) : Ev (fun k => laws_eqStringS.f k l l) true := by
  unfold laws_eqStringS.f
  simp only [if_true]
  refine on_loop (n := l.length) (F := fun k i => laws_eqStringS.l0 k l l i) (fun i hi k => ?_) (Ev.step (f := fun _ => some true) (fun k => ?_) (Ev.now _))
  · simp only [laws_eqStringS.l0]; rw [if_pos (by omega), if_pos (by omega), if_pos (by omega), if_pos trivial, wrap_nat i (by omega)]
  · simp only [laws_eqStringS.l0]; rw [if_neg (by omega)]
theorem markText_loop (n : Nat) : ∀ (v : Int) (acc : ByteArray), v.toNat ≤ n → 0 ≤ v → v ≤ 4611686018427387904 → acc.size + v.toNat ≤ 4611686018427387905 → ∃ t, Ev (fun k => laws_markText.l0 k v acc) t := by
  induction n with
  | zero =>
    intro v acc hn h0 h1 hs
    refine ⟨(⟨#[109]⟩ : ByteArray) ++ acc, Ev.step (f := fun _ => some ((⟨#[109]⟩ : ByteArray) ++ acc)) (fun k => ?_) (Ev.now _)⟩
    simp only [laws_markText.l0]; rw [if_neg (by omega), if_pos (by omega)]
  | succ n ih =>
    intro v acc hn h0 h1 hs
    by_cases hv : v > 0
    · have e1 : wrap64 (Int.tdiv v 10) = v / 10 := by rw [Int.tdiv_eq_ediv_of_nonneg h0]; unfold wrap64; omega
      have sz : (strOfNums [wrap64 (48 + Int.tmod v 10) % 256]).size = 1 := by rw [size_strOfNums]; rfl
      have sz2 : (strOfNums [wrap64 (48 + Int.tmod v 10) % 256] ++ acc).size = 1 + acc.size := by rw [ByteArray.size_append, sz]
      obtain ⟨t, ht⟩ := ih (v / 10) (strOfNums [wrap64 (48 + Int.tmod v 10) % 256] ++ acc) (by omega) (by omega) (by omega) (by rw [sz2]; omega)
      refine ⟨t, Ev.step (f := fun k => laws_markText.l0 k (v / 10) (strOfNums [wrap64 (48 + Int.tmod v 10) % 256] ++ acc)) (fun k => ?_) ht⟩
      simp only [laws_markText.l0, Option.bind_some]; rw [if_pos hv, if_pos (by rw [sz]; omega), e1]
    · refine ⟨(⟨#[109]⟩ : ByteArray) ++ acc, Ev.step (f := fun _ => some ((⟨#[109]⟩ : ByteArray) ++ acc)) (fun k => ?_) (Ev.now _)⟩
      simp only [laws_markText.l0]; rw [if_neg hv, if_pos (by omega)]
/-- The text of a mark. -/
noncomputable def markT (v : Int) : ByteArray := open Classical in if h : ∃ t, Ev (fun k => laws_markText.f k v) t then Classical.choose h else ⟨#[]⟩
theorem markT_ok (v : Int) (h0 : 0 < v) (h1 : v ≤ 4611686018427387904) : Ev (fun k => laws_markText.f k v) (markT v) := by
  have h : ∃ t, Ev (fun k => laws_markText.f k v) t := by
    obtain ⟨t, ht⟩ := markText_loop v.toNat v ⟨#[]⟩ (Nat.le_refl _) (by omega) h1 (by show 0 + v.toNat ≤ _; omega)
    refine ⟨t, ?_⟩
    unfold laws_markText.f
    simp only [if_neg (show ¬ v ≤ 0 by omega)]; exact ht
  unfold markT
  rw [dif_pos h]; exact Classical.choose_spec h
theorem markS_ok (l : List ByteArray) (hl : l.length ≤ 2097152) (m : Int) (h0 : 1 ≤ m) (h1 : m ≤ 1000000000) :
    ∃ ys : List ByteArray, Ev (fun k => laws_markStringS.f k l m) (m + l.length, ys) ∧ ys.length = l.length ∧ ∀ (i : Nat) (h : i < ys.length), ys[i] = markT (m + i) := by
  obtain ⟨ys, he, hyl, hy⟩ := mark_loop (c := 1) (upd := fun v _ => markT v) (F := fun k acc v i => laws_markStringS.l0 k acc v i) l m
    (fun i acc h ha r hr => by
      refine Ev.step (f := fun k => (laws_markText.f k (m + 1 * (i : Int))).bind fun t => laws_markStringS.l0 k (acc.set i t) (m + 1 * ((i + 1 : Nat) : Int)) ((i + 1 : Nat) : Int)) (fun k => ?_) (Ev.bind (markT_ok _ (by omega) (by omega)) hr)
      simp only [laws_markStringS.l0]; rw [if_pos (by omega), Int.toNat_natCast, wrap_nat i (by omega), show wrap64 (m + 1 * (i : Int) + 1) = m + 1 * ((i + 1 : Nat) : Int) by unfold wrap64; omega]
      simp only [show (0 : Int) ≤ (i : Int) by omega, if_true])
    (fun acc ha => Ev.step (f := fun _ => some (m + 1 * (l.length : Int), acc)) (fun k => by simp only [laws_markStringS.l0]; rw [if_neg (by omega)]) (Ev.now _))
  refine ⟨ys, ?_, hyl, fun i h => ?_⟩
  · unfold laws_markStringS.f
    rw [Int.one_mul] at he; exact he
  · rw [hy i h (by omega), Int.one_mul]
theorem heldS_ok (ys : List ByteArray) (m : Int) (h0 : 1 ≤ m) (h1 : m ≤ 1000000000) (hl : ys.length ≤ 2097152) (hy : ∀ (i : Nat) (h : i < ys.length), ys[i] = markT (m + i)) : Ev (fun k => laws_heldStringS.f k ys m) (m + ys.length) := by
  unfold laws_heldStringS.f
  have := fold_loop (r := m + (ys.length : Int)) (n := ys.length) (F := fun k v i => laws_heldStringS.l0 k ys v i) (st := fun i => m + (i : Int)) (fun i hi hr => ?_) (Ev.step (f := fun _ => some (m + (ys.length : Int))) (fun k => ?_) (Ev.now _))
  · rw [show m + ((0 : Nat) : Int) = m by omega] at this; exact this
  · refine Ev.step (f := fun k => (laws_markText.f k (m + (i : Int))).bind fun t => if (markT (m + i)).toList = t.toList then laws_heldStringS.l0 k ys (m + ((i + 1 : Nat) : Int)) ((i + 1 : Nat) : Int) else some (-1)) (fun k => ?_) (Ev.bind (markT_ok _ (by omega) (by omega)) (by simp only [if_true]; exact hr))
    simp only [laws_heldStringS.l0]; rw [if_pos (by omega), if_pos (by omega), rdS ys i hi, hy i hi, wrap_nat i (by omega), show wrap64 (m + (i : Int) + 1) = m + ((i + 1 : Nat) : Int) by unfold wrap64; omega]
  · simp only [laws_heldStringS.l0]; rw [if_neg (by omega)]
theorem l1Digit_eq (c : Int) : spec_l1Digit.f c = some (decide (48 ≤ c ∧ c ≤ 57)) := by
  unfold spec_l1Digit.f
  by_cases h1 : c ≥ 48 <;> by_cases h2 : c ≤ 57 <;> simp [h1, h2] <;> omega
theorem l1Hexit_eq (c : Int) (h0 : 0 ≤ c) (h1 : c ≤ 255) : spec_l1Hexit.f c = some (hexV c) := by
  unfold spec_l1Hexit.f
  rw [l1Digit_eq]
  simp only [Option.bind_some, decide_eq_true_eq, hexV]
  repeat' split
  all_goals first | rfl | (exfalso; omega) | (congr 1; omega)
theorem spec_dig_loop (s : ByteArray) (hs : s.size = 71) (d : Nat) : ∀ i : Nat, i + d = 71 → Ev (fun k => spec_DigestOk.l0 k s (i : Int)) (((bytesOf s).drop i).all hexB) := by
  induction d with
  | zero =>
    intro i hi
    rw [List.drop_eq_nil_of_le (by rw [bytesOf_length]; omega)]
    refine Ev.step (f := fun _ => some true) (fun k => ?_) (Ev.now _)
    simp only [spec_DigestOk.l0]; rw [if_neg (by omega)]
  | succ d ih =>
    intro i hi
    have hlt : i < s.size := by omega
    rw [drop_bytes s i hlt]
    have hb := bt_range s i
    refine Ev.step (f := fun k => if hexV (bt s i) < 0 then some false else spec_DigestOk.l0 k s ((i + 1 : Nat) : Int)) (fun k => ?_) ?_
    · simp only [spec_DigestOk.l0]; rw [if_pos (by omega), if_pos (by omega), if_pos (by omega), l1Hexit_eq _ hb.1 hb.2]; simp only [Option.bind_some]
      rw [wrap_succ i _ hlt (by omega)]
    · by_cases h : hexB (bt s i) = true
      · have hn : ¬ hexV (bt s i) < 0 := by rw [hexV_neg]; exact fun hh => hh h
        simp only [if_neg hn, List.all_cons, h, Bool.true_and]; exact ih (i + 1) (by omega)
      · have hn : hexV (bt s i) < 0 := by rw [hexV_neg]; exact h
        simp only [if_pos hn, List.all_cons, h, Bool.false_and]; exact Ev.now _
theorem spec_dig (s : ByteArray) : Ev (fun k => spec_DigestOk.f k s) (digestOk s) := by
  unfold spec_DigestOk.f digestOk
  by_cases h1 : (s.size : Int) = 71
  · have hs : s.size = 71 := by omega
    simp only [if_pos h1, show decide (s.size = 71) = true from decide_eq_true hs, Bool.true_and, show (0 : Nat) ≤ 7 by omega, show (7 : Int) ≤ (s.size : Int) by omega, if_true]
    refine Ev.step (f := fun k => if ((s.extract 0 7).toList != ([115, 104, 97, 50, 53, 54, 58] : List UInt8)) = true then some false else spec_DigestOk.l0 k s 7) (fun k => by simp only [spec_DigestOk.j0]) ?_
    cases h : ((s.extract 0 7).toList == digHead) with
    | true =>
      have h' : ((s.extract 0 7).toList != ([115, 104, 97, 50, 53, 54, 58] : List UInt8)) = false := by
        show (!((s.extract 0 7).toList == digHead)) = false; rw [h]; rfl
      simp only [h', Bool.false_eq_true, if_false, Bool.true_and]
      exact spec_dig_loop s hs 64 7 rfl
    | false =>
      have h' : ((s.extract 0 7).toList != ([115, 104, 97, 50, 53, 54, 58] : List UInt8)) = true := by
        show (!((s.extract 0 7).toList == digHead)) = true; rw [h]; rfl
      simp only [h', if_true, Bool.false_and]
      exact Ev.now _
  · have hs : ¬ s.size = 71 := by omega
    simp only [if_neg h1, hs, decide_false, Bool.false_and]
    refine Ev.step (f := fun k => some false) (fun k => by simp only [spec_DigestOk.j0, if_true]) (Ev.now _)
theorem head_size : (⟨#[115, 104, 97, 50, 53, 54, 58]⟩ : ByteArray).size = 7 := rfl
theorem head_list : (⟨#[115, 104, 97, 50, 53, 54, 58]⟩ : ByteArray).toList = digHead := toL _
theorem cutHead (s : ByteArray) : strings_CutPrefix.f s (⟨#[115, 104, 97, 50, 53, 54, 58]⟩ : ByteArray) = some (if (decide (7 ≤ s.size) && ((s.extract 0 7).toList == digHead)) = true then (s.extract 7 s.size, true) else (s, false)) := by
  unfold strings_CutPrefix.f stringslite_CutPrefix.f stringslite_HasPrefix.f
  rw [head_size, head_list]
  by_cases h : 7 ≤ s.size
  · have h2 : (s.size : Int) ≥ ((7 : Nat) : Int) := by omega
    simp only [if_pos h2, show (0 : Int) ≤ ((7 : Nat) : Int) by omega, show ((7 : Nat) : Int) ≤ (s.size : Int) from h2, if_true, Option.bind_some, h, decide_true, Bool.true_and, Int.toNat_natCast]
    cases hh : ((s.extract 0 7).toList == digHead) <;> simp
  · have h2 : ¬ (s.size : Int) ≥ ((7 : Nat) : Int) := by omega
    simp only [if_neg h2, Option.bind_some, h, decide_false, Bool.false_and, Bool.false_eq_true, if_false]
theorem trimHex (s : ByteArray) (hs : s.size ≤ 140737488351232) : ∃ t, strings_Trim.f s (⟨#[48, 49, 50, 51, 52, 53, 54, 55, 56, 57, 97, 98, 99, 100, 101, 102]⟩ : ByteArray) = some t ∧ (t.toList == ([] : List UInt8)) = (bytesOf s).all hexB := by
  unfold strings_Trim.f
  refine ⟨_, if_pos ⟨by omega, by decide, by decide⟩, ?_⟩
  rw [toL]
  show (Lib.trimS s.data.toList hexSet == []) = _
  rw [trimS_nil]
  have := all_bytes s hexB 0
  rw [List.drop_zero, List.drop_zero] at this
  rw [this]
  congr 1; funext b; exact hexSet_is b
theorem impl_dig (s : ByteArray) (hs : s.size ≤ 140737488351232) : impl_isDigest.f s = some (digestOk s) := by
  unfold impl_isDigest.f
  rw [cutHead]
  simp only [Option.bind_some]
  unfold digestOk
  by_cases h71 : s.size = 71
  · cases hh : ((s.extract 0 7).toList == digHead) with
    | true =>
      have hx : (s.extract 7 s.size).size = 64 := by rw [ByteArray.size_extract]; omega
      obtain ⟨t, ht, he⟩ := trimHex (s.extract 7 s.size) (by omega)
      rw [h71] at hx ht he ⊢
      simp only [show (7 : Nat) ≤ 71 by omega, decide_true, Bool.true_and, if_true, hx, show ((64 : Nat) : Int) = 64 from rfl, ht, Option.bind_some, he]
      rw [show (bytesOf (s.extract 7 71)) = (bytesOf s).drop 7 by
        simp only [bytesOf, extract_data, List.map_take, List.map_drop]
        rw [List.take_of_length_le]
        simp only [List.length_drop, List.length_map, Array.length_toList]
        have : s.data.size = 71 := h71
        omega]
    | false => simp
  · simp only [h71, decide_false, Bool.false_and]
    cases hh : (decide (7 ≤ s.size) && ((s.extract 0 7).toList == digHead)) with
    | true =>
      have h7 : 7 ≤ s.size := by simp only [Bool.and_eq_true, decide_eq_true_eq] at hh; exact hh.1
      have hx : ¬ ((s.extract 7 s.size).size : Int) = 64 := by rw [ByteArray.size_extract]; omega
      simp only [if_true, if_neg hx]
    | false => simp
/-- Is a manifest right. -/
def manOk (c : ByteArray) (ls : List ByteArray) : Bool := digestOk c && (decide (1 ≤ (ls.length : Int)) && (decide ((ls.length : Int) ≤ 40) && ls.all digestOk))
theorem manAt_ok (l : List ByteArray) (hx : ∀ x ∈ l, x.size ≤ 140737488351232) : ∀ d i : Nat, i + d = l.length → ∃ r, impl_isManifest.at l d i = some r ∧ decide (0 ≤ r) = !((l.drop i).all digestOk) := by
  intro d
  induction d with
  | zero =>
    intro i hi
    exact ⟨-1, rfl, by rw [List.drop_eq_nil_of_le (by omega)]; rfl⟩
  | succ d ih =>
    intro i hi
    have h1 : i < l.length := by omega
    obtain ⟨r, h2, h3⟩ := ih (i + 1) (by omega)
    unfold impl_isManifest.at
    rw [rdS l i h1, impl_dig _ (hx _ (List.getElem_mem h1)), Option.bind_some, List.drop_eq_getElem_cons h1, List.all_cons]
    cases ht : digestOk l[i] with
    | true => rw [if_pos rfl, Bool.true_and]; exact ⟨r, h2, h3⟩
    | false => rw [if_neg (by decide), Bool.false_and]; exact ⟨(i : Int), rfl, by simp⟩
theorem impl_man (c : ByteArray) (ls : List ByteArray) (hc : c.size ≤ 140737488351232) (hx : ∀ x ∈ ls, x.size ≤ 140737488351232) : impl_isManifest.f c ls = some (manOk c ls) := by
  unfold impl_isManifest.f manOk
  rw [impl_dig c hc, Option.bind_some]
  cases digestOk c with
  | false => rfl
  | true =>
    rw [if_pos rfl, Bool.true_and]
    by_cases g1 : 1 ≤ (ls.length : Int)
    · rw [if_pos g1, decide_eq_true g1, Bool.true_and]
      by_cases g2 : (ls.length : Int) ≤ 40
      · obtain ⟨r, h1, h2⟩ := manAt_ok ls hx ls.length 0 (by omega)
        rw [if_pos g2, decide_eq_true g2, Bool.true_and, h1, Option.bind_some, h2, Bool.not_not, List.drop_zero]
      · rw [if_neg g2, decide_eq_false g2, Bool.false_and]
    · rw [if_neg g1, decide_eq_false g1, Bool.false_and]
theorem spec_man (c : ByteArray) (ls : List ByteArray) (hl : ls.length ≤ 1048576) : Ev (fun k => spec_l3Manifest.f k c ls) (manOk c ls) := by
  have lu : ∀ d i : Nat, i + d = ls.length → Ev (fun k => spec_l3Manifest.l0 k (i : Int) c ls) ((ls.drop i).all digestOk) := by
    intro d
    induction d with
    | zero =>
      intro i hi
      rw [List.drop_eq_nil_of_le (by omega)]
      exact Ev.step (f := fun _ => some true) (fun k => by simp only [spec_l3Manifest.l0]; rw [if_neg (by omega)]) (Ev.now _)
    | succ d ih =>
      intro i hi
      have h1 : i < ls.length := by omega
      refine Ev.step (f := fun k => (spec_DigestOk.f k ls[i]).bind fun t => if t = true then spec_l3Manifest.l0 k ((i + 1 : Nat) : Int) c ls else some false) (fun k => ?_) ?_
      · simp only [spec_l3Manifest.l0]; rw [if_pos (by omega), if_pos (by omega), rdS ls i h1, wrap_nat i (by omega)]
      · refine Ev.bind (spec_dig ls[i]) ?_
        rw [List.drop_eq_getElem_cons h1, List.all_cons]
        cases digestOk ls[i] with
        | true => simp only [if_true, Bool.true_and]; exact ih (i + 1) (by omega)
        | false => simp only [Bool.false_eq_true, if_false, Bool.false_and]; exact Ev.now _
  have j0 : ∀ b : Bool, Ev (fun k => spec_l3Manifest.j0 k b c ls) (!b && ls.all digestOk) := by
    intro b
    refine Ev.step (f := fun k => if b = true then some false else spec_l3Manifest.l0 k 0 c ls) (fun k => by simp only [spec_l3Manifest.j0]) ?_
    cases b with
    | true => exact Ev.now _
    | false => exact lu ls.length 0 (by omega)
  have jt := j0 true
  simp only [Bool.not_true, Bool.false_and] at jt
  unfold spec_l3Manifest.f manOk
  refine Ev.bind (spec_dig c) ?_
  cases digestOk c with
  | false => simp only [Bool.false_eq_true, if_false, Bool.false_and]; exact jt
  | true =>
    simp only [if_true, Bool.true_and]
    by_cases g1 : (ls.length : Int) < 1
    · simp only [if_pos g1, decide_eq_false (show ¬ 1 ≤ (ls.length : Int) by omega), Bool.false_and]; exact jt
    · simp only [if_neg g1, decide_eq_true (show 1 ≤ (ls.length : Int) by omega), Bool.true_and]
      have h := j0 (decide ((ls.length : Int) > 40))
      rwa [show (!decide ((ls.length : Int) > 40)) = decide ((ls.length : Int) ≤ 40) by by_cases h : (ls.length : Int) > 40 <;> simp [h] <;> omega] at h
theorem spec_cut (s : ByteArray) (c : UInt8) (hs : s.size ≤ 2097152) : Ev (fun k => spec_l3Cut.f k s (c.toNat : Int)) (pieces c s) := by
  unfold spec_l3Cut.f
  have key : ∀ d i j : Nat, ∀ acc : List ByteArray, i + d = s.size → j ≤ i → acc.length ≤ i → Ev (fun k => spec_l3Cut.l0 k s (c.toNat : Int) acc (j : Int) (i : Int)) (acc ++ (addH ((s.data.toList.drop j).take (i - j)) (cutL c (s.data.toList.drop i))).map mkB) := by
    intro d
    induction d with
    | zero =>
      intro i j acc hi hj ha
      obtain rfl : i = s.size := by omega
      refine Ev.step (f := fun k => spec_l3Cut.l0 k s (c.toNat : Int) (acc ++ [s.extract j s.size]) ((s.size + 1 : Nat) : Int) ((s.size + 1 : Nat) : Int)) (fun k => ?_) (Ev.step (f := fun _ => some (acc ++ [s.extract j s.size])) (fun k => ?_) ?_)
      · simp only [spec_l3Cut.l0]
        rw [if_pos (by omega), if_pos trivial, if_pos (by omega), if_pos (by omega), if_pos (by omega), wrap_nat s.size (by omega), Int.toNat_natCast, Int.toNat_natCast]
      · simp only [spec_l3Cut.l0]; rw [if_neg (by omega)]
      · rw [extract_mkB, List.drop_eq_nil_of_le (show s.data.toList.length ≤ s.size by rw [size_list]; exact Nat.le_refl _)]
        simp only [cutL, addH, List.append_nil, List.map_cons, List.map_nil]
        exact Ev.now _
    | succ d ih =>
      intro i j acc hi hj ha
      have hlt : i < s.size := by omega
      have hl : i < s.data.toList.length := by rw [size_list]; exact hlt
      have hb := bt_byte s i hlt
      rw [List.drop_eq_getElem_cons hl, cutL]
      by_cases h : s.data.toList[i] = c
      · rw [if_pos h]
        have hn := ih (i + 1) (i + 1) (acc ++ [s.extract j i]) (by omega) (Nat.le_refl _) (by simp; omega)
        rw [Nat.sub_self, List.take_zero, addH_nil _ (cutL_ne _ _)] at hn
        refine Ev.step (f := fun k => spec_l3Cut.l0 k s (c.toNat : Int) (acc ++ [s.extract j i]) ((i + 1 : Nat) : Int) ((i + 1 : Nat) : Int)) (fun k => ?_) ?_
        · simp only [spec_l3Cut.l0]
          rw [if_pos (by omega), if_neg (by omega), if_pos (by omega), if_pos (by omega), hb, h, if_pos rfl, if_pos (by omega), if_pos (by omega), if_pos (by omega), wrap_nat i (by omega), Int.toNat_natCast, Int.toNat_natCast]
        · simp only [addH, List.append_nil, List.map_cons]
          rw [extract_mkB] at hn ⊢
          rw [List.append_assoc] at hn
          exact hn
      · rw [if_neg h, addH_addH]
        have hn := ih (i + 1) j acc (by omega) (by omega) (by omega)
        refine Ev.step (f := fun k => spec_l3Cut.l0 k s (c.toNat : Int) acc (j : Int) ((i + 1 : Nat) : Int)) (fun k => ?_) ?_
        · simp only [spec_l3Cut.l0]
          rw [if_pos (by omega), if_neg (by omega), if_pos (by omega), if_pos (by omega), hb, if_neg (fun e => h ((byte_eq _ _).1 e)), wrap_nat i (by omega)]
        · have e : (s.data.toList.drop j).take (i + 1 - j) = (s.data.toList.drop j).take (i - j) ++ [s.data.toList[i]] := by
            rw [show i + 1 - j = (i - j) + 1 by omega, List.take_succ_eq_append_getElem (by rw [List.length_drop]; omega), List.getElem_drop]
            congr 3
            omega
          rw [e] at hn
          exact hn
  have h := key s.size 0 0 [] (by omega) (Nat.le_refl _) (Nat.zero_le _)
  rw [Nat.sub_self, List.take_zero, List.drop_zero, addH_nil _ (cutL_ne _ _), List.nil_append] at h
  exact h
theorem impl_split (s : ByteArray) (c : UInt8) (hs : s.size ≤ 2097152) : strings_Split.f s (⟨#[c]⟩ : ByteArray) = some (pieces c s) := by
  unfold strings_Split.f strings_genSplit.f
  rw [if_pos ⟨by omega, rfl, rfl, rfl⟩, bindS, split_pieces]
def headM : ByteArray := ⟨#[99, 111, 110, 102, 105, 103, 32]⟩
def layM : ByteArray := ⟨#[108, 97, 121, 101, 114, 32]⟩
def wordM (i : Nat) : ByteArray := if i = 0 then headM else layM
def startsW (w x : ByteArray) : Bool := decide (w.size ≤ x.size) && ((x.extract 0 w.size).toList == w.toList)
def restM (w x : ByteArray) : ByteArray := x.extract w.size x.size
/-- The lines of a manifest, read one behind the other. -/
def goM : List ByteArray → Nat → ByteArray → List ByteArray → ByteArray × List ByteArray × Int
  | [], _, c, ls => if manOk c ls = true then (c, ls, 0) else (⟨#[]⟩, [], 2)
  | x :: xs, i, c, ls => if (startsW (wordM i) x && digestOk (restM (wordM i) x)) = true then (if i = 0 then goM xs (i + 1) (restM (wordM i) x) ls else goM xs (i + 1) c (ls ++ [restM (wordM i) x])) else (⟨#[]⟩, [], 1)
theorem goM_len : ∀ (xs : List ByteArray) (i : Nat) (c : ByteArray) (ls : List ByteArray), (goM xs i c ls).2.1.length ≤ 40
  | [], i, c, ls => by
    rw [goM]
    split
    · rename_i h
      simp only [manOk, Bool.and_eq_true, decide_eq_true_eq] at h
      have := h.2.2.1
      show ls.length ≤ 40
      omega
    · exact Nat.zero_le _
  | x :: xs, i, c, ls => by
    rw [goM]
    split
    · split
      · exact goM_len xs _ _ _
      · exact goM_len xs _ _ _
    · exact Nat.zero_le _
theorem restM_size (w x : ByteArray) : (restM w x).size ≤ x.size := by rw [restM, ByteArray.size_extract]; omega
theorem cutPre (x w : ByteArray) : strings_CutPrefix.f x w = some (if startsW w x = true then (restM w x, true) else (x, false)) := by
  unfold strings_CutPrefix.f stringslite_CutPrefix.f stringslite_HasPrefix.f startsW restM
  by_cases h : w.size ≤ x.size
  · have h2 : (x.size : Int) ≥ ((w.size : Nat) : Int) := by omega
    simp only [if_pos h2, show (0 : Int) ≤ ((w.size : Nat) : Int) by omega, show ((w.size : Nat) : Int) ≤ (x.size : Int) from h2, if_true, Option.bind_some, h, decide_true, Bool.true_and, Int.toNat_natCast]
    cases hh : ((x.extract 0 w.size).toList == w.toList) <;> simp
  · have h2 : ¬ (x.size : Int) ≥ ((w.size : Nat) : Int) := by omega
    simp only [if_neg h2, Option.bind_some, h, decide_false, Bool.false_and, Bool.false_eq_true, if_false]
theorem impl_go (L : List ByteArray) (hL : L.length ≤ 2097152) (hx : ∀ x ∈ L, x.size ≤ 1048576) : ∀ d i : Nat, ∀ (c : ByteArray) (ls : List ByteArray), i + d = L.length → c.size ≤ 1048576 → ls.length ≤ i → (∀ x ∈ ls, x.size ≤ 1048576) →
    Ev (fun k => impl_readManifest.l0 k L (L.length : Int) (i : Int) c ls) (goM (L.drop i) i c ls) := by
  intro d
  induction d with
  | zero =>
    intro i c ls hi hc hl hls
    rw [List.drop_eq_nil_of_le (by omega), goM]
    refine Ev.step (f := fun _ => if manOk c ls = true then some (c, ls, 0) else some (⟨#[]⟩, [], 2)) (fun k => ?_) ?_
    · simp only [impl_readManifest.l0]
      rw [if_neg (by omega), impl_man c ls (by omega) (fun x h => by have := hls x h; omega), bindS]
    · split <;> exact Ev.now _
  | succ d ih =>
    intro i c ls hi hc hl hls
    have hlt : i < L.length := by omega
    have hxs := hx _ (List.getElem_mem hlt)
    have hrs := restM_size (wordM i) L[i]
    rw [List.drop_eq_getElem_cons hlt, goM]
    refine Ev.step (f := fun k => impl_readManifest.j1 k (i : Int) L[i] (wordM i) L (L.length : Int) (i : Int) c ls) (fun k => ?_) ?_
    · simp only [impl_readManifest.l0]
      rw [if_pos (by omega), if_pos (by omega), if_pos (by omega), rdS L i hlt]
      by_cases h0 : i = 0
      · rw [if_pos (by omega), wordM, if_pos h0]; rfl
      · rw [if_neg (by omega), wordM, if_neg h0]; rfl
    refine Ev.step (f := fun k => if startsW (wordM i) L[i] = true then impl_readManifest.j2 k (i : Int) (restM (wordM i) L[i]) L (L.length : Int) (i : Int) (!(digestOk (restM (wordM i) L[i]))) c ls else impl_readManifest.j2 k (i : Int) L[i] L (L.length : Int) (i : Int) true c ls) (fun k => ?_) ?_
    · simp only [impl_readManifest.j1]
      rw [cutPre, bindS]
      cases startsW (wordM i) L[i] with
      | true => simp only [if_true]; rw [impl_dig _ (by omega), bindS]
      | false => simp only [Bool.false_eq_true, if_false]
    cases startsW (wordM i) L[i] with
    | false =>
      simp only [Bool.false_eq_true, if_false, Bool.false_and]
      exact Ev.step (f := fun _ => some (⟨#[]⟩, [], 1)) (fun k => by simp only [impl_readManifest.j2, if_true]) (Ev.now _)
    | true =>
      simp only [if_true, Bool.true_and]
      cases digestOk (restM (wordM i) L[i]) with
      | false =>
        simp only [Bool.not_false, Bool.false_eq_true, if_false]
        exact Ev.step (f := fun _ => some (⟨#[]⟩, [], 1)) (fun k => by simp only [impl_readManifest.j2, if_true]) (Ev.now _)
      | true =>
        simp only [Bool.not_true, if_true]
        by_cases h0 : i = 0
        · rw [if_pos h0]
          refine Ev.step (f := fun k => impl_readManifest.l0 k L (L.length : Int) ((i + 1 : Nat) : Int) (restM (wordM i) L[i]) ls) (fun k => ?_) (ih (i + 1) (restM (wordM i) L[i]) ls (by omega) (by omega) (by omega) hls)
          simp only [impl_readManifest.j2, Bool.false_eq_true, if_false]
          rw [if_pos (by omega), wrap_nat i (by omega)]
        · rw [if_neg h0]
          refine Ev.step (f := fun k => impl_readManifest.l0 k L (L.length : Int) ((i + 1 : Nat) : Int) c (ls ++ [restM (wordM i) L[i]])) (fun k => ?_) (ih (i + 1) c (ls ++ [restM (wordM i) L[i]]) (by omega) hc (by simp; omega) (fun x h => by
            simp only [List.mem_append, List.mem_singleton] at h
            rcases h with h | rfl
            · exact hls x h
            · omega))
          simp only [impl_readManifest.j2, Bool.false_eq_true, if_false]
          rw [if_neg (by omega), if_pos (by omega), wrap_nat i (by omega)]
theorem spec_go (P : List ByteArray) (z : ByteArray) (hL : P.length ≤ 1048576) (hx : ∀ x ∈ P, x.size ≤ 1048576) : ∀ d i : Nat, ∀ (c : ByteArray) (ls : List ByteArray), i + d = P.length → c.size ≤ 1048576 → ls.length ≤ i → (∀ x ∈ ls, x.size ≤ 1048576) →
    Ev (fun k => spec_ReadManifest.l0 k (P ++ [z]) (P.length : Int) (i : Int) (⟨#[]⟩ : ByteArray) c ls) (goM (P.drop i) i c ls) := by
  have hlen : (P ++ [z]).length = P.length + 1 := by simp
  intro d
  induction d with
  | zero =>
    intro i c ls hi hc hl hls
    rw [List.drop_eq_nil_of_le (by omega), goM]
    refine Ev.step (f := fun k => (spec_l3Manifest.f k c ls).bind fun t => if t = true then some (c, ls, 0) else some (⟨#[]⟩, [], 2)) (fun k => ?_) ?_
    · simp only [spec_ReadManifest.l0]; rw [if_neg (by omega)]
    · refine Ev.bind (spec_man c ls (by omega)) ?_
      split <;> exact Ev.now _
  | succ d ih =>
    intro i c ls hi hc hl hls
    have hlt : i < P.length := by omega
    have hxs := hx _ (List.getElem_mem hlt)
    have hrs := restM_size (wordM i) P[i]
    have hat : rdOf ByteArray.empty (P ++ [z]) (i : Int) = P[i] := by
      rw [rdS _ i (by omega), List.getElem_append_left hlt]
    rw [List.drop_eq_getElem_cons hlt, goM]
    refine Ev.step (f := fun k => spec_ReadManifest.j2 k (P ++ [z]) (P.length : Int) (i : Int) (wordM i) (⟨#[]⟩ : ByteArray) c ls) (fun k => ?_) ?_
    · simp only [spec_ReadManifest.l0]
      rw [if_pos (by omega)]
      by_cases h0 : i = 0
      · rw [if_pos (by omega), wordM, if_pos h0]; rfl
      · rw [if_neg (by omega), wordM, if_neg h0]; rfl
    have j3f : Ev (fun k => spec_ReadManifest.j3 k (P ++ [z]) (P.length : Int) (i : Int) ((wordM i).size : Int) true (⟨#[]⟩ : ByteArray) c ls) (⟨#[]⟩, [], 1) :=
      Ev.step (f := fun _ => some (⟨#[]⟩, [], 1)) (fun k => by simp only [spec_ReadManifest.j3, if_true]) (Ev.now _)
    by_cases hz : P[i].size < (wordM i).size
    · have hst : startsW (wordM i) P[i] = false := by simp only [startsW, decide_eq_false (show ¬ (wordM i).size ≤ P[i].size by omega), Bool.false_and]
      rw [hst, Bool.false_and, if_neg Bool.false_ne_true]
      refine Ev.step (f := fun k => spec_ReadManifest.j3 k (P ++ [z]) (P.length : Int) (i : Int) ((wordM i).size : Int) true (⟨#[]⟩ : ByteArray) c ls) (fun k => ?_) j3f
      simp only [spec_ReadManifest.j2]
      rw [if_pos (by omega), if_pos (by omega), hat, if_pos (by omega)]
    · have hst : startsW (wordM i) P[i] = ((P[i].extract 0 (wordM i).size).toList == (wordM i).toList) := by simp only [startsW, decide_eq_true (show (wordM i).size ≤ P[i].size by omega), Bool.true_and]
      by_cases hs : (P[i].extract 0 (wordM i).size).toList = (wordM i).toList
      · rw [hst, beq_iff_eq.2 hs, Bool.true_and]
        refine Ev.step (f := fun k => (spec_DigestOk.f k (restM (wordM i) P[i])).bind fun t => spec_ReadManifest.j3 k (P ++ [z]) (P.length : Int) (i : Int) ((wordM i).size : Int) (!t) (⟨#[]⟩ : ByteArray) c ls) (fun k => ?_) (Ev.bind (spec_dig (restM (wordM i) P[i])) ?_)
        · simp only [spec_ReadManifest.j2]
          rw [if_pos (by omega), if_pos (by omega), hat, if_neg (by omega), if_pos (by omega), if_pos (by omega), Int.toNat_natCast, if_pos hs]
          rfl
        · cases digestOk (restM (wordM i) P[i]) with
          | false => simp only [Bool.not_false, Bool.false_eq_true, if_false]; exact j3f
          | true =>
            simp only [Bool.not_true, if_true]
            by_cases h0 : i = 0
            · rw [if_pos h0]
              refine Ev.step (f := fun k => spec_ReadManifest.l0 k (P ++ [z]) (P.length : Int) ((i + 1 : Nat) : Int) (⟨#[]⟩ : ByteArray) (restM (wordM i) P[i]) ls) (fun k => ?_) (ih (i + 1) (restM (wordM i) P[i]) ls (by omega) (by omega) (by omega) hls)
              simp only [spec_ReadManifest.j3, Bool.false_eq_true, if_false]
              rw [if_pos (by omega), if_pos (by omega), if_pos (by omega), if_pos (by omega), hat, if_pos (by omega), wrap_nat i (by omega), Int.toNat_natCast]
              rfl
            · rw [if_neg h0]
              refine Ev.step (f := fun k => spec_ReadManifest.l0 k (P ++ [z]) (P.length : Int) ((i + 1 : Nat) : Int) (⟨#[]⟩ : ByteArray) c (ls ++ [restM (wordM i) P[i]])) (fun k => ?_) (ih (i + 1) c (ls ++ [restM (wordM i) P[i]]) (by omega) hc (by simp; omega) (fun x h => by
                simp only [List.mem_append, List.mem_singleton] at h
                rcases h with h | rfl
                · exact hls x h
                · omega))
              simp only [spec_ReadManifest.j3, Bool.false_eq_true, if_false]
              rw [if_neg (by omega), if_pos (by omega), if_pos (by omega), if_pos (by omega), hat, if_pos (by omega), if_pos (by omega), wrap_nat i (by omega), Int.toNat_natCast]
              rfl
      · rw [hst, beq_eq_false_iff_ne.2 hs, Bool.false_and, if_neg Bool.false_ne_true]
        refine Ev.step (f := fun k => spec_ReadManifest.j3 k (P ++ [z]) (P.length : Int) (i : Int) ((wordM i).size : Int) true (⟨#[]⟩ : ByteArray) c ls) (fun k => ?_) j3f
        simp only [spec_ReadManifest.j2]
        rw [if_pos (by omega), if_pos (by omega), hat, if_neg (by omega), if_pos (by omega), if_pos (by omega), Int.toNat_natCast, if_neg hs]
theorem last_cases (s : ByteArray) : (s.size = 0) ∨ ∃ (b : UInt8), s = s.extract 0 (s.size - 1) ++ ⟨#[b]⟩ ∧ 1 ≤ s.size ∧ s.extract (s.size - 1) s.size = ⟨#[b]⟩ := by
  obtain ⟨⟨l⟩⟩ := s
  rcases List.eq_nil_or_concat l with rfl | ⟨m, b, hm⟩
  · exact .inl rfl
  · right
    rw [List.concat_eq_append] at hm
    subst hm
    have hz : (⟨⟨m ++ [b]⟩⟩ : ByteArray).size = m.length + 1 := by simp [ByteArray.size]
    refine ⟨b, ?_, by omega, ?_⟩
    · refine ByteArray.ext ?_
      rw [ByteArray.data_append, ByteArray.data_extract, hz]
      simp
    · refine ByteArray.ext ?_
      rw [ByteArray.data_extract, hz]
      simp
/-- A manifest's text, read. -/
def readMan (s : ByteArray) : ByteArray × List ByteArray × Int := if 1 ≤ s.size ∧ (s.extract (s.size - 1) s.size).toList = [10] then goM (pieces 10 (s.extract 0 (s.size - 1))) 0 ⟨#[]⟩ [] else (⟨#[]⟩, [], 1)
theorem readMan_len (s : ByteArray) : (readMan s).2.1.length ≤ 40 := by
  unfold readMan
  split
  · exact goM_len _ _ _ _
  · exact Nat.zero_le _
theorem impl_readM (s : ByteArray) (hs : s.size ≤ 1048576) : Ev (fun k => impl_ReadManifest.f k s) (readMan s) := by
  unfold impl_ReadManifest.f
  refine Ev.bind (a := readMan s) ?_ (Ev.now _)
  unfold impl_readManifest.f strings_CutSuffix.f stringslite_CutSuffix.f stringslite_HasSuffix.f readMan
  have e1 : ((⟨#[10]⟩ : ByteArray).size : Int) = 1 := rfl
  have e2 : (⟨#[10]⟩ : ByteArray).toList = [10] := toL _
  rw [e1, e2]
  by_cases h1 : 1 ≤ s.size
  · have ew : wrap64 ((s.size : Int) - 1) = ((s.size - 1 : Nat) : Int) := by unfold wrap64; omega
    simp only [if_pos (show (s.size : Int) ≥ 1 by omega), ew, if_pos (show (0 : Int) ≤ ((s.size - 1 : Nat) : Int) by omega), if_pos (show ((s.size - 1 : Nat) : Int) ≤ (s.size : Int) by omega), Option.bind_some, Int.toNat_natCast, h1, true_and]
    by_cases hl : (s.extract (s.size - 1) s.size).toList = [10]
    · have hb : (s.extract 0 (s.size - 1)).size ≤ 1048576 := by rw [ByteArray.size_extract]; omega
      simp only [hl, beq_self_eq_true, if_true, Option.bind_some]
      rw [impl_split _ 10 (by omega)]
      have hp := pieces_len 10 (s.extract 0 (s.size - 1))
      have hx := pieces_size 10 (s.extract 0 (s.size - 1))
      refine Ev.bind (Ev.is rfl) ?_
      exact impl_go _ (by omega) (fun x h => by have := hx x h; omega) _ 0 ⟨#[]⟩ [] (Nat.zero_add _) (Nat.zero_le _) (Nat.zero_le _) (fun x h => by cases h)
    · simp only [if_neg hl, beq_eq_false_iff_ne.2 hl, Bool.false_eq_true, if_false, Option.bind_some]
      exact Ev.now _
  · simp only [if_neg (show ¬ (s.size : Int) ≥ 1 by omega), Option.bind_some, Bool.false_eq_true, if_false, h1, false_and]
    exact Ev.now _
theorem spec_readM (s : ByteArray) (hs : s.size ≤ 1048576) : Ev (fun k => spec_ReadManifest.f k s) (readMan s) := by
  unfold spec_ReadManifest.f
  have hp := pieces_len 10 s
  have hx := pieces_size 10 s
  have hc := spec_cut s 10 (by omega)
  rw [show (((10 : UInt8).toNat : Nat) : Int) = 10 from rfl] at hc
  refine Ev.bind hc ?_
  have j0t : ∀ L : List ByteArray, ∀ n : Int, Ev (fun k => spec_ReadManifest.j0 k L n true (⟨#[]⟩ : ByteArray)) (⟨#[]⟩, [], 1) := fun L n =>
    Ev.step (f := fun _ => some (⟨#[]⟩, [], 1)) (fun k => by simp only [spec_ReadManifest.j0, if_true]) (Ev.now _)
  rcases last_cases s with h0 | ⟨b, h1, h2, h3⟩
  · have e : pieces 10 s = [⟨#[]⟩] := by
      have : s.data.toList = [] := List.length_eq_zero_iff.1 (by rw [size_list]; exact h0)
      rw [pieces, this]; rfl
    rw [e]
    simp only [List.length_singleton, if_pos (show wrap64 (((1 : Nat) : Int) - 1) < 1 by unfold wrap64; omega)]
    rw [readMan, if_neg (by omega)]
    exact j0t _ _
  · have hd : s.data.toList = (s.extract 0 (s.size - 1)).data.toList ++ [b] := by
      conv => lhs; rw [h1]
      rw [ByteArray.data_append]; simp
    have h3l : (s.extract (s.size - 1) s.size).toList = [b] := by rw [h3]; exact toL _
    rw [readMan, h3l]
    by_cases hb : b = 10
    · subst hb
      rw [if_pos ⟨h2, rfl⟩]
      have e : pieces 10 s = pieces 10 (s.extract 0 (s.size - 1)) ++ [⟨#[]⟩] := by
        rw [pieces, hd, cutL_snoc, List.map_append]; rfl
      rw [e] at hp ⊢
      have hx2 : ∀ x ∈ pieces 10 (s.extract 0 (s.size - 1)), x.size ≤ 1048576 := fun x h => by
        have := pieces_size 10 (s.extract 0 (s.size - 1)) x h
        rw [ByteArray.size_extract] at this
        omega
      have hne : 1 ≤ (pieces 10 (s.extract 0 (s.size - 1))).length := by
        rw [pieces, List.length_map]
        exact List.length_pos_iff.2 (cutL_ne _ _)
      generalize pieces 10 (s.extract 0 (s.size - 1)) = P at hp hx2 hne
      have hlen : (P ++ [(⟨#[]⟩ : ByteArray)]).length = P.length + 1 := by simp
      have ew : wrap64 (((P.length + 1 : Nat) : Int) - 1) = (P.length : Int) := by unfold wrap64; omega
      have el : rdOf ByteArray.empty (P ++ [(⟨#[]⟩ : ByteArray)]) (P.length : Int) = ⟨#[]⟩ := by
        rw [rdS _ P.length (by omega)]; simp
      simp only [hlen, ew, if_neg (show ¬ (P.length : Int) < 1 by omega), if_pos (show (0 : Int) ≤ (P.length : Int) by omega), if_pos (show (P.length : Int) < ((P.length + 1 : Nat) : Int) by omega), el]
      refine Ev.step (f := fun k => spec_ReadManifest.l0 k (P ++ [(⟨#[]⟩ : ByteArray)]) (P.length : Int) 0 (⟨#[]⟩ : ByteArray) (⟨#[]⟩ : ByteArray) []) (fun k => ?_) ?_
      · simp only [spec_ReadManifest.j0]
        rw [if_neg (by rw [show (⟨#[]⟩ : ByteArray).toList = [] from toL _]; decide)]
      · exact spec_go P ⟨#[]⟩ (by omega) hx2 _ 0 ⟨#[]⟩ [] (Nat.zero_add _) (Nat.zero_le _) (Nat.zero_le _) (fun x h => by cases h)
    · rw [if_neg (fun h => hb (by simpa using h.2))]
      obtain ⟨ps, p, h4, h5⟩ := cutL_last 10 b hb (s.extract 0 (s.size - 1)).data.toList
      have e : pieces 10 s = ps.map mkB ++ [mkB p] := by
        rw [pieces, hd, h4, List.map_append]; rfl
      rw [e] at hp ⊢
      have hpl : 0 < (mkB p).size := by rw [mkB_size]; exact List.length_pos_iff.2 h5
      have hpn : (mkB p).toList ≠ [] := by rw [toL]; exact h5
      generalize ps.map mkB = P at hp
      generalize mkB p = z at hp hpl hpn
      have hlen : (P ++ [z]).length = P.length + 1 := by simp
      have ew : wrap64 (((P.length + 1 : Nat) : Int) - 1) = (P.length : Int) := by unfold wrap64; omega
      have el : rdOf ByteArray.empty (P ++ [z]) (P.length : Int) = z := by
        rw [rdS _ P.length (by omega)]; simp
      simp only [hlen, ew, if_pos (show (0 : Int) ≤ (P.length : Int) by omega), if_pos (show (P.length : Int) < ((P.length + 1 : Nat) : Int) by omega), el, bne_iff_ne.2 hpn]
      by_cases g : (P.length : Int) < 1
      · simp only [if_pos g]; exact j0t _ _
      · simp only [if_neg g]; exact j0t _ _
theorem eqM_refl (c : ByteArray) (ls : List ByteArray) (hl : ls.length ≤ 2097152) : Ev (fun k => laws_eqManifest.f k c ls c ls) true := by
  unfold laws_eqManifest.f
  simp only [if_true]
  exact Ev.bind (eqS_refl ls hl) (by simp only [if_true]; exact Ev.now _)
end ReadManOf
open ReadManOf

theorem FnExactReadManifest : laws_FnExactReadManifest.Pure := by
  intro s hs
  refine Ev.rounds (g := fun k => laws_FnExactReadManifest.f k s) ?_
  unfold laws_FnExactReadManifest.f
  by_cases h0 : (s.size : Int) > 1048576
  · simp only [if_pos h0]; exact Ev.now _
  simp only [if_neg h0]
  have hspec := spec_readM s (by omega)
  have himpl := impl_readM s (by omega)
  have hlen := readMan_len s
  generalize readMan s = R at hspec himpl hlen
  obtain ⟨c, ls, z⟩ := R
  simp only at hlen
  have he := eqM_refl c ls (by omega)
  obtain ⟨y, hm, hyl, hy⟩ := markS_ok ls (by omega) 1 (by omega) (by omega)
  have hh := heldS_ok y 1 (by omega) (by omega) (by omega) hy
  rw [hyl] at hh
  have hmm : Ev (fun k => laws_markManifest.f k c ls 1) (1 + (ls.length : Int), y) := by
    unfold laws_markManifest.f; exact Ev.bind hm (Ev.now _)
  have hhm : Ev (fun k => laws_heldManifest.f k c y 1) (1 + (ls.length : Int)) := by
    unfold laws_heldManifest.f
    refine Ev.bind hh ?_
    simp only [if_neg (show ¬ 1 + (ls.length : Int) < 0 by omega)]
    exact Ev.now _
  refine Ev.bind hspec (Ev.bind himpl (Ev.bind he ?_))
  simp only [if_true, bne_self_eq_false]
  refine Ev.step (f := fun k => _) (fun k => by simp only [laws_FnExactReadManifest.j0, Bool.false_eq_true, if_false]; rfl) ?_
  refine Ev.bind hmm (Ev.bind hhm ?_)
  simp only [if_neg (show ¬ 1 + (ls.length : Int) < 0 by omega), if_true]
  refine Ev.bind himpl (Ev.bind he ?_)
  simp only [if_true, bne_self_eq_false]
  refine Ev.step (f := fun k => _) (fun k => by simp only [laws_FnExactReadManifest.j1, Bool.false_eq_true, if_false]; rfl) ?_
  refine Ev.bind hhm ?_
  simp only [if_neg (show ¬ 1 + (ls.length : Int) < 0 by omega), if_true]
  exact Ev.now _

end Go.Proofs.YtldpdaifajjaeaaDoor.Pure
