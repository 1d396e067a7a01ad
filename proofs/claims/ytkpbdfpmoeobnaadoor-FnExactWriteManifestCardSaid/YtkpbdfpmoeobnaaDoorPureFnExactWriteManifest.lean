/- For every manifest of at most 2^20 elements and bytes the program's WriteManifest returns what the reference's returns, and leaves its argument as it was. No condition but the sizes that the model lets an argument have. -/
import Derived.Test.YtkpbdfpmoeobnaaDoorQFnExactWriteManifestx
import Derived.Test.YtkpbdfpmoeobnaaDoorDigFnExactWriteManifest
import Derived.Test.YtkpbdfpmoeobnaaDoorLoopsFnExactWriteManifest
namespace Go.Proofs.YtkpbdfpmoeobnaaDoor.Pure
open Go.RowKit Go.Proofs.YtkpbdfpmoeobnaaDoor.QFnExactWriteManifest Go.Proofs.YtkpbdfpmoeobnaaDoorW.PrintWords Go.Proofs.YtkpbdfpmoeobnaaDoorW.PrintLast Go.Proofs.YtkpbdfpmoeobnaaDoorW.PrintMore Go.Proofs.YtkpbdfpmoeobnaaDoor.Bits Go.Proofs.YtkpbdfpmoeobnaaDoor.Num Go.Proofs.YtkpbdfpmoeobnaaDoor.Dig Go.Proofs.YtkpbdfpmoeobnaaDoor.Loops
set_option linter.unusedSimpArgs false
set_option linter.unusedVariables false
namespace ManOf
theorem rdS (xs : List ByteArray) (i : Nat) (h : i < xs.length) : rdOf ByteArray.empty xs (i : Int) = xs[i] := getD_at xs i _ h
/-- What the sizes come to: less than nothing, or the list is short and its texts are. -/
theorem szS_loop (xs : List ByteArray) (hx : ∀ x ∈ xs, x.size ≤ maxLen) (hl : xs.length ≤ 1048576) (d : Nat) : ∀ (i : Nat) (left : Int), i + d = xs.length → 0 ≤ left → left ≤ 1048576 →
    ∃ r, Ev (fun k => laws_szStringS.l0 k xs left (i : Int)) r ∧ r ≤ left ∧ (0 ≤ r → ∀ j, i ≤ j → (h : j < xs.length) → xs[j].size ≤ 1048576) := by
  induction d with
  | zero =>
    intro i left hi h0 h1
    refine ⟨left, Ev.step (f := fun _ => some left) (fun k => ?_) (Ev.now _), by omega, fun _ j hj h => by omega⟩
    simp only [laws_szStringS.l0]; rw [if_neg (by omega)]
  | succ d ih =>
    intro i left hi h0 h1
    have hlt : i < xs.length := by omega
    have hs := hx _ (List.getElem_mem hlt)
    unfold maxLen at hs
    have ew : wrap64 (left - (xs[i].size : Int)) = left - xs[i].size := by unfold wrap64; omega
    by_cases hn : left - (xs[i].size : Int) < 0
    · refine ⟨-1, Ev.step (f := fun _ => some (-1)) (fun k => ?_) (Ev.now _), by omega, fun h => absurd h (by omega)⟩
      simp only [laws_szStringS.l0]; rw [if_pos (by omega), if_pos (by omega), rdS xs i hlt, ew, if_pos hn]
    · obtain ⟨r, hr, hr1, hr2⟩ := ih (i + 1) (left - xs[i].size) (by omega) (by omega) (by omega)
      refine ⟨r, Ev.step (f := fun k => laws_szStringS.l0 k xs (left - xs[i].size) ((i + 1 : Nat) : Int)) (fun k => ?_) hr, by omega, fun h j hj hjl => ?_⟩
      · simp only [laws_szStringS.l0]; rw [if_pos (by omega), if_pos (by omega), rdS xs i hlt, ew, if_neg hn, wrap_nat i (by omega)]
      · by_cases e : i = j
        · subst e; omega
        · exact hr2 h j (by omega) hjl
theorem szS_ok (xs : List ByteArray) (left : Int) (h0 : 0 ≤ left) (h1 : left ≤ 1048576) (hl : xs.length ≤ maxLen) (hx : ∀ x ∈ xs, x.size ≤ maxLen) :
    ∃ r, Ev (fun k => laws_szStringS.f k xs left) r ∧ r ≤ left ∧ (0 ≤ r → xs.length ≤ 1048576 ∧ ∀ x ∈ xs, x.size ≤ 1048576) := by
  unfold laws_szStringS.f
  unfold maxLen at hl
  have ew : wrap64 (left - (xs.length : Int)) = left - xs.length := by unfold wrap64; omega
  by_cases hn : (left - (xs.length : Int)) < 0
  · refine ⟨-1, ?_, by omega, fun h => absurd h (by omega)⟩
    simp only [ew, if_pos hn]; exact Ev.now _
  · obtain ⟨r, hr, hr1, hr2⟩ := szS_loop xs hx (by omega) xs.length 0 (left - xs.length) (by omega) (by omega) (by omega)
    simp only [ew, if_neg hn]
    refine ⟨r, hr, by omega, fun h => ⟨by omega, fun x hxm => ?_⟩⟩
    obtain ⟨j, hj, rfl⟩ := List.getElem_of_mem hxm
    exact hr2 h j (by omega) hj
theorem toS_ok (l : List ByteArray) (hl : l.length ≤ 1048576) : Ev (fun k => laws_toStringS.f k l) l := by
  unfold laws_toStringS.f
  simp only [if_pos (show (0 : Int) ≤ (l.length : Int) by omega), if_pos (show ((l.length : Int)).toNat ≤ 17592186044416 by omega)]
  have := fill_loop l id (F := fun k acc i => laws_toStringS.l0 k l acc i) (fun i h acc ha k => by
    simp only [laws_toStringS.l0]; rw [if_pos (by omega), if_pos (by omega), if_pos (by omega), rdS l i h, wrap_nat i (by omega), Int.toNat_natCast]; rfl) (fun acc ha k => by
    simp only [laws_toStringS.l0]; rw [if_neg (by omega)]) (List.replicate ((l.length : Int)).toNat ⟨#[]⟩) (by simp)
  simpa using this
theorem eqS_refl (l : List ByteArray) (hl : l.length ≤ 2097152) : Ev (fun k => laws_eqStringS.f k l l) true := by
  unfold laws_eqStringS.f
  simp only [if_true]
  refine on_loop (n := l.length) (F := fun k i => laws_eqStringS.l0 k l l i) (fun i hi k => ?_) (Ev.step (f := fun _ => some true) (fun k => ?_) (Ev.now _))
  · simp only [laws_eqStringS.l0]; rw [if_pos (by omega), if_pos (by omega), if_pos (by omega), if_pos trivial, wrap_nat i (by omega)]
  · simp only [laws_eqStringS.l0]; rw [if_neg (by omega)]
theorem l1Digit_eq (c : Int) : spec_l1Digit.f c = some (decide (48 ≤ c ∧ c ≤ 57)) := by
  unfold spec_l1Digit.f
  by_cases h1 : c ≥ 48 <;> by_cases h2 : c ≤ 57 <;> simp [h1, h2] <;> omega
theorem l1Hexit_eq (c : Int) (h0 : 0 ≤ c) (h1 : c ≤ 255) : spec_l1Hexit.f c = some (hexV c) := by
  unfold spec_l1Hexit.f
  rw [l1Digit_eq]
  simp only [Option.bind_some, decide_eq_true_eq, hexV]
  repeat' split
  all_goals first | rfl | (exfalso; omega) | (congr 1; omega)
theorem spec_dig_loop (s : ByteArray) (hs : s.size = 71) (d : Nat) : ∀ i : Nat, i + d = 71 → Ev (fun k => spec_DigestOk.l0 k s (i : Int)) (((bytesOf s).drop i).all hexB) := by
  induction d with
  | zero =>
    intro i hi
    rw [List.drop_eq_nil_of_le (by rw [bytesOf_length]; omega)]
    refine Ev.step (f := fun _ => some true) (fun k => ?_) (Ev.now _)
    simp only [spec_DigestOk.l0]; rw [if_neg (by omega)]
  | succ d ih =>
    intro i hi
    have hlt : i < s.size := by omega
    rw [drop_bytes s i hlt]
    have hb := bt_range s i
    refine Ev.step (f := fun k => if hexV (bt s i) < 0 then some false else spec_DigestOk.l0 k s ((i + 1 : Nat) : Int)) (fun k => ?_) ?_
    · simp only [spec_DigestOk.l0]; rw [if_pos (by omega), if_pos (by omega), if_pos (by omega), l1Hexit_eq _ hb.1 hb.2]; simp only [Option.bind_some]
      rw [wrap_succ i _ hlt (by omega)]
    · by_cases h : hexB (bt s i) = true
      · have hn : ¬ hexV (bt s i) < 0 := by rw [hexV_neg]; exact fun hh => hh h
        simp only [if_neg hn, List.all_cons, h, Bool.true_and]; exact ih (i + 1) (by omega)
      · have hn : hexV (bt s i) < 0 := by rw [hexV_neg]; exact h
        simp only [if_pos hn, List.all_cons, h, Bool.false_and]; exact Ev.now _
theorem spec_dig (s : ByteArray) : Ev (fun k => spec_DigestOk.f k s) (digestOk s) := by
  unfold spec_DigestOk.f digestOk
  by_cases h1 : (s.size : Int) = 71
  · have hs : s.size = 71 := by omega
    simp only [if_pos h1, show decide (s.size = 71) = true from decide_eq_true hs, Bool.true_and, show (0 : Nat) ≤ 7 by omega, show (7 : Int) ≤ (s.size : Int) by omega, if_true]
    refine Ev.step (f := fun k => if ((s.extract 0 7).toList != ([115, 104, 97, 50, 53, 54, 58] : List UInt8)) = true then some false else spec_DigestOk.l0 k s 7) (fun k => by simp only [spec_DigestOk.j0]) ?_
    cases h : ((s.extract 0 7).toList == digHead) with
    | true =>
      have h' : ((s.extract 0 7).toList != ([115, 104, 97, 50, 53, 54, 58] : List UInt8)) = false := by
        show (!((s.extract 0 7).toList == digHead)) = false; rw [h]; rfl
      simp only [h', Bool.false_eq_true, if_false, Bool.true_and]
      exact spec_dig_loop s hs 64 7 rfl
    | false =>
      have h' : ((s.extract 0 7).toList != ([115, 104, 97, 50, 53, 54, 58] : List UInt8)) = true := by
        show (!((s.extract 0 7).toList == digHead)) = true; rw [h]; rfl
      simp only [h', if_true, Bool.false_and]
      exact Ev.now _
  · have hs : ¬ s.size = 71 := by omega
    simp only [if_neg h1, hs, decide_false, Bool.false_and]
    refine Ev.step (f := fun k => some false) (fun k => by simp only [spec_DigestOk.j0, if_true]) (Ev.now _)
theorem head_size : (⟨#[115, 104, 97, 50, 53, 54, 58]⟩ : ByteArray).size = 7 := rfl
theorem head_list : (⟨#[115, 104, 97, 50, 53, 54, 58]⟩ : ByteArray).toList = digHead := toL _
theorem cutHead (s : ByteArray) : strings_CutPrefix.f s (⟨#[115, 104, 97, 50, 53, 54, 58]⟩ : ByteArray) = some (if (decide (7 ≤ s.size) && ((s.extract 0 7).toList == digHead)) = true then (s.extract 7 s.size, true) else (s, false)) := by
  unfold strings_CutPrefix.f stringslite_CutPrefix.f stringslite_HasPrefix.f
  rw [head_size, head_list]
  by_cases h : 7 ≤ s.size
  · have h2 : (s.size : Int) ≥ ((7 : Nat) : Int) := by omega
    simp only [if_pos h2, show (0 : Int) ≤ ((7 : Nat) : Int) by omega, show ((7 : Nat) : Int) ≤ (s.size : Int) from h2, if_true, Option.bind_some, h, decide_true, Bool.true_and, Int.toNat_natCast]
    cases hh : ((s.extract 0 7).toList == digHead) <;> simp
  · have h2 : ¬ (s.size : Int) ≥ ((7 : Nat) : Int) := by omega
    simp only [if_neg h2, Option.bind_some, h, decide_false, Bool.false_and, Bool.false_eq_true, if_false]
theorem trimHex (s : ByteArray) (hs : s.size ≤ 140737488351232) : ∃ t, strings_Trim.f s (⟨#[48, 49, 50, 51, 52, 53, 54, 55, 56, 57, 97, 98, 99, 100, 101, 102]⟩ : ByteArray) = some t ∧ (t.toList == ([] : List UInt8)) = (bytesOf s).all hexB := by
  unfold strings_Trim.f
  refine ⟨_, if_pos ⟨by omega, by decide, by decide⟩, ?_⟩
  rw [toL]
  show (Lib.trimS s.data.toList hexSet == []) = _
  rw [trimS_nil]
  have := all_bytes s hexB 0
  rw [List.drop_zero, List.drop_zero] at this
  rw [this]
  congr 1; funext b; exact hexSet_is b
theorem impl_dig (s : ByteArray) (hs : s.size ≤ 140737488351232) : impl_isDigest.f s = some (digestOk s) := by
  unfold impl_isDigest.f
  rw [cutHead]
  simp only [Option.bind_some]
  unfold digestOk
  by_cases h71 : s.size = 71
  · cases hh : ((s.extract 0 7).toList == digHead) with
    | true =>
      have hx : (s.extract 7 s.size).size = 64 := by rw [ByteArray.size_extract]; omega
      obtain ⟨t, ht, he⟩ := trimHex (s.extract 7 s.size) (by omega)
      rw [h71] at hx ht he ⊢
      simp only [show (7 : Nat) ≤ 71 by omega, decide_true, Bool.true_and, if_true, hx, show ((64 : Nat) : Int) = 64 from rfl, ht, Option.bind_some, he]
      rw [show (bytesOf (s.extract 7 71)) = (bytesOf s).drop 7 by
        simp only [bytesOf, extract_data, List.map_take, List.map_drop]
        rw [List.take_of_length_le]
        simp only [List.length_drop, List.length_map, Array.length_toList]
        have : s.data.size = 71 := h71
        omega]
    | false => simp
  · simp only [h71, decide_false, Bool.false_and]
    cases hh : (decide (7 ≤ s.size) && ((s.extract 0 7).toList == digHead)) with
    | true =>
      have h7 : 7 ≤ s.size := by simp only [Bool.and_eq_true, decide_eq_true_eq] at hh; exact hh.1
      have hx : ¬ ((s.extract 7 s.size).size : Int) = 64 := by rw [ByteArray.size_extract]; omega
      simp only [if_true, if_neg hx]
    | false => simp
/-- Is a manifest right. -/
def manOk (c : ByteArray) (ls : List ByteArray) : Bool := digestOk c && (decide (1 ≤ (ls.length : Int)) && (decide ((ls.length : Int) ≤ 40) && ls.all digestOk))
theorem manAt_ok (l : List ByteArray) (hx : ∀ x ∈ l, x.size ≤ 140737488351232) : ∀ d i : Nat, i + d = l.length → ∃ r, impl_isManifest.at l d i = some r ∧ decide (0 ≤ r) = !((l.drop i).all digestOk) := by
  intro d
  induction d with
  | zero =>
    intro i hi
    exact ⟨-1, rfl, by rw [List.drop_eq_nil_of_le (by omega)]; rfl⟩
  | succ d ih =>
    intro i hi
    have h1 : i < l.length := by omega
    obtain ⟨r, h2, h3⟩ := ih (i + 1) (by omega)
    unfold impl_isManifest.at
    rw [rdS l i h1, impl_dig _ (hx _ (List.getElem_mem h1)), Option.bind_some, List.drop_eq_getElem_cons h1, List.all_cons]
    cases ht : digestOk l[i] with
    | true => rw [if_pos rfl, Bool.true_and]; exact ⟨r, h2, h3⟩
    | false => rw [if_neg (by decide), Bool.false_and]; exact ⟨(i : Int), rfl, by simp⟩
theorem impl_man (c : ByteArray) (ls : List ByteArray) (hc : c.size ≤ 140737488351232) (hx : ∀ x ∈ ls, x.size ≤ 140737488351232) : impl_isManifest.f c ls = some (manOk c ls) := by
  unfold impl_isManifest.f manOk
  rw [impl_dig c hc, Option.bind_some]
  cases digestOk c with
  | false => rfl
  | true =>
    rw [if_pos rfl, Bool.true_and]
    by_cases g1 : 1 ≤ (ls.length : Int)
    · rw [if_pos g1, decide_eq_true g1, Bool.true_and]
      by_cases g2 : (ls.length : Int) ≤ 40
      · obtain ⟨r, h1, h2⟩ := manAt_ok ls hx ls.length 0 (by omega)
        rw [if_pos g2, decide_eq_true g2, Bool.true_and, h1, Option.bind_some, h2, Bool.not_not, List.drop_zero]
      · rw [if_neg g2, decide_eq_false g2, Bool.false_and]
    · rw [if_neg g1, decide_eq_false g1, Bool.false_and]
theorem spec_man (c : ByteArray) (ls : List ByteArray) (hl : ls.length ≤ 1048576) : Ev (fun k => spec_l3Manifest.f k c ls) (manOk c ls) := by
  have lu : ∀ d i : Nat, i + d = ls.length → Ev (fun k => spec_l3Manifest.l0 k (i : Int) c ls) ((ls.drop i).all digestOk) := by
    intro d
    induction d with
    | zero =>
      intro i hi
      rw [List.drop_eq_nil_of_le (by omega)]
      exact Ev.step (f := fun _ => some true) (fun k => by simp only [spec_l3Manifest.l0]; rw [if_neg (by omega)]) (Ev.now _)
    | succ d ih =>
      intro i hi
      have h1 : i < ls.length := by omega
      refine Ev.step (f := fun k => (spec_DigestOk.f k ls[i]).bind fun t => if t = true then spec_l3Manifest.l0 k ((i + 1 : Nat) : Int) c ls else some false) (fun k => ?_) ?_
      · simp only [spec_l3Manifest.l0]; rw [if_pos (by omega), if_pos (by omega), rdS ls i h1, wrap_nat i (by omega)]
      · refine Ev.bind (spec_dig ls[i]) ?_
        rw [List.drop_eq_getElem_cons h1, List.all_cons]
        cases digestOk ls[i] with
        | true => simp only [if_true, Bool.true_and]; exact ih (i + 1) (by omega)
        | false => simp only [Bool.false_eq_true, if_false, Bool.false_and]; exact Ev.now _
  have j0 : ∀ b : Bool, Ev (fun k => spec_l3Manifest.j0 k b c ls) (!b && ls.all digestOk) := by
    intro b
    refine Ev.step (f := fun k => if b = true then some false else spec_l3Manifest.l0 k 0 c ls) (fun k => by simp only [spec_l3Manifest.j0]) ?_
    cases b with
    | true => exact Ev.now _
    | false => exact lu ls.length 0 (by omega)
  have jt := j0 true
  simp only [Bool.not_true, Bool.false_and] at jt
  unfold spec_l3Manifest.f manOk
  refine Ev.bind (spec_dig c) ?_
  cases digestOk c with
  | false => simp only [Bool.false_eq_true, if_false, Bool.false_and]; exact jt
  | true =>
    simp only [if_true, Bool.true_and]
    by_cases g1 : (ls.length : Int) < 1
    · simp only [if_pos g1, decide_eq_false (show ¬ 1 ≤ (ls.length : Int) by omega), Bool.false_and]; exact jt
    · simp only [if_neg g1, decide_eq_true (show 1 ≤ (ls.length : Int) by omega), Bool.true_and]
      have h := j0 (decide ((ls.length : Int) > 40))
      rwa [show (!decide ((ls.length : Int) > 40)) = decide ((ls.length : Int) ≤ 40) by by_cases h : (ls.length : Int) > 40 <;> simp [h] <;> omega] at h
def headM : ByteArray := ⟨#[99, 111, 110, 102, 105, 103, 32]⟩
def layM : ByteArray := ⟨#[108, 97, 121, 101, 114, 32]⟩
def endM : ByteArray := ⟨#[10]⟩
/-- The lines of a manifest. -/
def lineM (c : ByteArray) (ls : List ByteArray) : Nat → ByteArray
  | 0 => (headM ++ c) ++ endM
  | i + 1 => ((lineM c ls i ++ layM) ++ rdOf ByteArray.empty ls (i : Int)) ++ endM
theorem lineM_size (c : ByteArray) (ls : List ByteArray) (hc : c.size ≤ 1048576) (hx : ∀ x ∈ ls, x.size ≤ 1048576) : ∀ i : Nat, i ≤ ls.length → (lineM c ls i).size ≤ 1048584 + 1048583 * i := by
  intro i
  induction i with
  | zero => intro _; unfold lineM; rw [ByteArray.size_append, ByteArray.size_append]; have : headM.size = 7 := rfl; have : endM.size = 1 := rfl; omega
  | succ i ih =>
    intro hi
    have h1 := ih (by omega)
    have h2 := hx _ (List.getElem_mem (show i < ls.length by omega))
    unfold lineM
    rw [ByteArray.size_append, ByteArray.size_append, ByteArray.size_append, rdS ls i (by omega)]
    have : layM.size = 6 := rfl
    have : endM.size = 1 := rfl
    omega
def writeM (c : ByteArray) (ls : List ByteArray) : ByteArray := if manOk c ls = true then lineM c ls ls.length else ⟨#[]⟩
theorem spec_write (c : ByteArray) (ls : List ByteArray) (hc : c.size ≤ 1048576) (hl : ls.length ≤ 1048576) (hx : ∀ x ∈ ls, x.size ≤ 1048576) : Ev (fun k => spec_WriteManifest.f k c ls) (writeM c ls) := by
  have key : ∀ d i : Nat, i + d = ls.length → Ev (fun k => spec_WriteManifest.l0 k (lineM c ls i) (i : Int) c ls) (lineM c ls ls.length) := by
    intro d
    induction d with
    | zero =>
      intro i hi
      obtain rfl : i = ls.length := by omega
      exact Ev.step (f := fun _ => some (lineM c ls ls.length)) (fun k => by simp only [spec_WriteManifest.l0]; rw [if_neg (by omega)]) (Ev.now _)
    | succ d ih =>
      intro i hi
      have hs := lineM_size c ls hc hx i (by omega)
      have h2 := hx _ (List.getElem_mem (show i < ls.length by omega))
      refine Ev.step (fun k => ?_) (ih (i + 1) (by omega))
      simp only [spec_WriteManifest.l0]
      rw [if_pos (by omega), if_pos (by omega), if_pos (by omega), if_pos (by rw [rdS ls i (by omega)]; omega), if_pos (by rw [rdS ls i (by omega)]; omega), wrap_nat i (by omega)]
      rfl
  unfold spec_WriteManifest.f writeM
  refine Ev.bind (spec_man c ls hl) ?_
  cases manOk c ls with
  | false => simp only [Bool.false_eq_true, if_false]; exact Ev.now _
  | true =>
    simp only [if_true, if_pos (show 7 + c.size ≤ 9223372036854775807 by omega), if_pos (show 7 + c.size + 1 ≤ 9223372036854775807 by omega)]
    exact key ls.length 0 (by omega)
theorem impl_write (c : ByteArray) (ls : List ByteArray) (hc : c.size ≤ 1048576) (hl : ls.length ≤ 1048576) (hx : ∀ x ∈ ls, x.size ≤ 1048576) : Ev (fun k => impl_WriteManifest.f k c ls) (writeM c ls) := by
  have key : ∀ d i : Nat, i + d = ls.length → Ev (fun k => impl_WriteManifest.l0 k (lineM c ls i) ls (ls.length : Int) (i : Int)) (lineM c ls ls.length) := by
    intro d
    induction d with
    | zero =>
      intro i hi
      obtain rfl : i = ls.length := by omega
      exact Ev.step (f := fun _ => some (lineM c ls ls.length)) (fun k => by simp only [impl_WriteManifest.l0]; rw [if_neg (by omega)]) (Ev.now _)
    | succ d ih =>
      intro i hi
      have hs := lineM_size c ls hc hx i (by omega)
      have h2 := hx _ (List.getElem_mem (show i < ls.length by omega))
      refine Ev.step (fun k => ?_) (ih (i + 1) (by omega))
      simp only [impl_WriteManifest.l0]
      rw [if_pos (by omega), if_pos (by omega), if_pos (by omega), if_pos (by rw [rdS ls i (by omega)]; omega), if_pos (by rw [rdS ls i (by omega)]; omega), if_pos (by rw [rdS ls i (by omega)]; omega), wrap_nat i (by omega)]
      have e : lineM c ls i ++ (((⟨#[108, 97, 121, 101, 114, 32]⟩ : ByteArray) ++ rdOf ByteArray.empty ls (i : Int)) ++ (⟨#[10]⟩ : ByteArray)) = lineM c ls (i + 1) := by
        show lineM c ls i ++ ((layM ++ rdOf ByteArray.empty ls (i : Int)) ++ endM) = ((lineM c ls i ++ layM) ++ rdOf ByteArray.empty ls (i : Int)) ++ endM
        rw [ByteArray.append_assoc, ByteArray.append_assoc, ByteArray.append_assoc]
      rw [e]
  unfold impl_WriteManifest.f writeM
  rw [impl_man c ls (by omega) (fun x h => by have := hx x h; omega)]
  simp only [Option.bind_some]
  cases manOk c ls with
  | false => simp only [Bool.false_eq_true, if_false]; exact Ev.now _
  | true =>
    simp only [if_true, if_pos (show 7 + c.size ≤ 9223372036854775807 by omega), if_pos (show 7 + c.size + 1 ≤ 9223372036854775807 by omega)]
    exact key ls.length 0 (by omega)
theorem szM_ok (c : ByteArray) (ls : List ByteArray) (hc : c.size ≤ maxLen) (hl : ls.length ≤ maxLen) (hx : ∀ x ∈ ls, x.size ≤ maxLen) :
    ∃ r, Ev (fun k => laws_szManifest.f k c ls 1048576) r ∧ (0 ≤ r → c.size ≤ 1048576 ∧ ls.length ≤ 1048576 ∧ ∀ x ∈ ls, x.size ≤ 1048576) := by
  unfold laws_szManifest.f
  have ew : wrap64 (1048576 - (c.size : Int)) = 1048576 - (c.size : Int) := by unfold maxLen at hc; unfold wrap64; omega
  rw [ew]
  by_cases g : 1048576 - (c.size : Int) < 0
  · exact ⟨-1, by simp only [if_pos g]; exact Ev.now _, fun h => by omega⟩
  · obtain ⟨r, hr, hle, h2⟩ := szS_ok ls (1048576 - (c.size : Int)) (by omega) (by omega) hl hx
    by_cases g2 : r < 0
    · exact ⟨-1, by simp only [if_neg g]; exact Ev.bind hr (by simp only [if_pos g2]; exact Ev.now _), fun h => by omega⟩
    · exact ⟨r, by simp only [if_neg g]; exact Ev.bind hr (by simp only [if_neg g2]; exact Ev.now _), fun _ => ⟨by omega, h2 (by omega)⟩⟩
theorem toM_ok (c : ByteArray) (ls : List ByteArray) (hl : ls.length ≤ 1048576) : Ev (fun k => laws_toManifest.f k c ls) (c, ls) := by
  unfold laws_toManifest.f
  exact Ev.bind (toS_ok ls hl) (Ev.now _)
theorem eqM_refl (c : ByteArray) (ls : List ByteArray) (hl : ls.length ≤ 2097152) : Ev (fun k => laws_eqManifest.f k c ls c ls) true := by
  unfold laws_eqManifest.f
  simp only [if_true]
  exact Ev.bind (eqS_refl ls hl) (by simp only [if_true]; exact Ev.now _)
end ManOf
open ManOf
theorem FnExactWriteManifest : laws_FnExactWriteManifest.Pure := by
  intro c ls hc hl
  refine Ev.rounds (g := fun k => laws_FnExactWriteManifest.f k c ls) ?_
  unfold laws_FnExactWriteManifest.f
  obtain ⟨r, hr, h2⟩ := szM_ok c ls hc hl.1 hl.2
  refine Ev.bind hr ?_
  by_cases h0 : r < 0
  · simp only [if_pos h0]; exact Ev.now _
  simp only [if_neg h0]
  obtain ⟨h3, h4, h5⟩ := h2 (by omega)
  have ht := toM_ok c ls h4
  refine Ev.bind ht (Ev.bind (spec_write c ls h3 h4 h5) (Ev.bind ht (Ev.bind (impl_write c ls h3 h4 h5) ?_)))
  simp only [if_true]
  refine Ev.bind ht (Ev.bind (eqM_refl c ls (by omega)) ?_)
  simp only [if_true]
  exact Ev.now _

end Go.Proofs.YtkpbdfpmoeobnaaDoor.Pure
