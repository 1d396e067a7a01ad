/- For every entry the program's EntryText returns what the reference's returns. No condition but that the entry can be read. -/
import Derived.Test.YtlodhcmbonljgaaQFnExactEntryTextx
import Derived.Test.YtlodhcmbonljgaaFrameFnExactEntryText
namespace Go.Proofs.Ytlodhcmbonljgaa.Pure
open Go.RowKit Go.Proofs.Ytlodhcmbonljgaa.QFnExactEntryText Go.Proofs.YtlodhcmbonljgaaW.PrintWords Go.Proofs.YtlodhcmbonljgaaW.PrintLast Go.Proofs.YtlodhcmbonljgaaW.PrintMore Go.Proofs.Ytlodhcmbonljgaa.Bits Go.Proofs.Ytlodhcmbonljgaa.Num Go.Proofs.Ytlodhcmbonljgaa.Crc Go.Proofs.Ytlodhcmbonljgaa.Frame
set_option linter.unusedSimpArgs false
set_option linter.unusedVariables false
namespace EntryTextOf
theorem spec_crc_in (s : ByteArray) (i : Nat) (r : Int) (hi : i < s.size) (hs : s.size ≤ 140737488351232) (d : Nat) : ∀ (j : Nat) (x : Int), j + d = 8 →
    Ev (fun k => spec_Crc.l0 k s (crcBits d x) ((i + 1 : Nat) : Int)) r → Ev (fun k => spec_Crc.l1 k s x (i : Int) (j : Int)) r := by
  induction d with
  | zero =>
    intro j x hj hr
    refine Ev.step (fun k => ?_) hr
    simp only [spec_Crc.l1]; rw [if_neg (by omega), wrap_succ i _ hi hs]; rfl
  | succ d ih =>
    intro j x hj hr
    refine Ev.step (f := fun k => spec_Crc.l1 k s (crcBit x) (i : Int) ((j + 1 : Nat) : Int)) (fun k => ?_) (ih (j + 1) (crcBit x) (by omega) hr)
    simp only [spec_Crc.l1, crcBit]; rw [if_pos (by omega), wrap_lit j (by omega)]
    by_cases h : Go.bits .and .u32 x 1 = 1
    · rw [if_pos h, if_pos h]
    · rw [if_neg h, if_neg h]
theorem spec_crc_out (s : ByteArray) (hs : s.size ≤ 140737488351232) (d : Nat) : ∀ (i : Nat) (x : Int), i + d = s.size → Ev (fun k => spec_Crc.l0 k s x (i : Int)) (Go.bits .xor .u32 4294967295 (crcL x ((bytesOf s).drop i))) := by
  induction d with
  | zero =>
    intro i x hi
    rw [List.drop_eq_nil_of_le (by rw [bytesOf_length]; omega)]
    refine Ev.step (f := fun _ => some (Go.bits .xor .u32 4294967295 x)) (fun k => ?_) (Ev.now _)
    simp only [spec_Crc.l0]; rw [if_neg (by omega)]
  | succ d ih =>
    intro i x hi
    have hlt : i < s.size := by omega
    rw [drop_bytes s i hlt]
    refine Ev.step (f := fun k => spec_Crc.l1 k s (Go.bits .xor .u32 x (bt s i)) (i : Int) ((0 : Nat) : Int)) (fun k => ?_) (spec_crc_in s i _ hlt hs 8 0 _ rfl (ih (i + 1) _ (by omega)))
    simp only [spec_Crc.l0]; rw [if_pos (by omega), if_pos (by omega), bt_mod]; rfl
theorem spec_crc (s : ByteArray) (hs : s.size ≤ 140737488351232) : Ev (fun k => spec_Crc.f k s) (crcM s) := by
  unfold spec_Crc.f
  exact spec_crc_out s hs s.size 0 4294967295 (by omega)
theorem impl_crc_in (s : ByteArray) (i : Nat) (r : Int) (hi : i < s.size) (hs : s.size ≤ 140737488351232) (d : Nat) : ∀ (j : Nat) (x : Int), j + d = 8 →
    Ev (fun k => impl_crc.l0 k s (crcBits d x) (s.size : Int) ((i + 1 : Nat) : Int)) r → Ev (fun k => impl_crc.l1 k s x (s.size : Int) (i : Int) (j : Int)) r := by
  induction d with
  | zero =>
    intro j x hj hr
    refine Ev.step (fun k => ?_) hr
    simp only [impl_crc.l1]; rw [if_neg (by omega), wrap_succ i _ hi hs]; rfl
  | succ d ih =>
    intro j x hj hr
    refine Ev.step (f := fun k => impl_crc.l1 k s (crcBit x) (s.size : Int) (i : Int) ((j + 1 : Nat) : Int)) (fun k => ?_) (ih (j + 1) (crcBit x) (by omega) hr)
    simp only [impl_crc.l1, crcBit]; rw [if_pos (by omega), wrap_lit j (by omega)]
    by_cases h : Go.bits .and .u32 x 1 = 1
    · rw [if_pos h, if_pos h]
    · rw [if_neg h, if_neg h]
theorem impl_crc_out (s : ByteArray) (hs : s.size ≤ 140737488351232) (d : Nat) : ∀ (i : Nat) (x : Int), i + d = s.size → Ev (fun k => impl_crc.l0 k s x (s.size : Int) (i : Int)) (Go.bits .xor .u32 4294967295 (crcL x ((bytesOf s).drop i))) := by
  induction d with
  | zero =>
    intro i x hi
    rw [List.drop_eq_nil_of_le (by rw [bytesOf_length]; omega)]
    refine Ev.step (f := fun _ => some (Go.bits .xor .u32 4294967295 x)) (fun k => ?_) (Ev.now _)
    simp only [impl_crc.l0]; rw [if_neg (by omega)]
  | succ d ih =>
    intro i x hi
    have hlt : i < s.size := by omega
    rw [drop_bytes s i hlt]
    refine Ev.step (f := fun k => impl_crc.l1 k s (Go.bits .xor .u32 x (bt s i)) (s.size : Int) (i : Int) ((0 : Nat) : Int)) (fun k => ?_) (impl_crc_in s i _ hlt hs 8 0 _ rfl (ih (i + 1) _ (by omega)))
    simp only [impl_crc.l0]; rw [if_pos (by omega), if_pos (by omega), if_pos (by omega), bt_mod]; rfl
theorem impl_crc_eq (s : ByteArray) (hs : s.size ≤ 140737488351232) : Ev (fun k => impl_crc.f k s) (crcM s) := by
  unfold impl_crc.f
  exact impl_crc_out s hs s.size 0 4294967295 (by omega)
theorem l1In_eq (a b c : Int) : spec_l1In.f a b c = some (decide (b ≤ a ∧ a ≤ c)) := by
  unfold spec_l1In.f
  by_cases h : a ≥ b
  · rw [if_pos h]; simp [h]
  · rw [if_neg h]; simp [h]
theorem spec_frame (kind : Int) (s : ByteArray) : Ev (fun k => spec_WriteFrame.f k kind s) (frameM kind s) := by
  have bad : Ev (fun k => spec_WriteFrame.j0 k true kind s) (⟨#[]⟩ : ByteArray) := Ev.step (f := fun _ => some ⟨#[]⟩) (fun k => by simp only [spec_WriteFrame.j0, if_true]) (Ev.now _)
  unfold spec_WriteFrame.f frameM
  simp only [l1In_eq, Option.bind_some]
  by_cases h1 : 1 ≤ kind ∧ kind ≤ 100
  · simp only [h1, and_self, decide_true, if_true, true_and]
    by_cases h2 : (s.size : Int) > 20000
    · simp only [h2, decide_true, if_neg (show ¬ (s.size : Int) ≤ 20000 by omega)]; exact bad
    · simp only [h2, decide_false, if_pos (show (s.size : Int) ≤ 20000 by omega)]
      have hz := frameHead_size kind s
      refine Ev.step (f := fun k => (spec_Crc.f k (frameHead kind s)).bind fun t => some (frameHead kind s ++ strOfNums (four t))) (fun k => ?_) (Ev.bind (spec_crc _ (by omega)) (Ev.now _))
      simp only [spec_WriteFrame.j0, Bool.false_eq_true, if_false, Option.bind_some, spec_l2Four.f]
      have e1 : (strOfNums [kind % 256]).size = 1 := by rw [size_strOfNums]; rfl
      have e2 : ∀ n : Int, (strOfNums [n % 256, n / 256 % 256, n / 65536 % 256, n / 16777216 % 256]).size = 4 := fun n => by rw [size_strOfNums]; rfl
      simp only [e1, e2, show 1 + 4 ≤ 9223372036854775807 by omega, show 1 + 4 + s.size ≤ 9223372036854775807 by omega, show 1 + 4 + s.size + 4 ≤ 9223372036854775807 by omega, if_true]
      rfl
  · simp only [h1, decide_false, Bool.false_eq_true, if_false, false_and]; exact bad
theorem in_eq (a b c : Int) : impl_in.f a b c = some (decide (b ≤ a ∧ a ≤ c)) := by
  unfold impl_in.f
  by_cases h : a ≥ b
  · rw [if_pos h]; simp [h]
  · rw [if_neg h]; simp [h]
theorem app32 (l : List Int) (n : Int) (h : l.length < 1000000) : binary_littleEndian_AppendUint32.f l n = some (l ++ four n) := by
  unfold binary_littleEndian_AppendUint32.f
  simp only [Option.bind_some]; rw [if_pos (by simp only [List.length_cons, List.length_nil]; omega)]; rfl
theorem impl_frame (kind : Int) (s : ByteArray) : Ev (fun k => impl_writeFrame.f k kind s) (frameM kind s) := by
  have bad : Ev (fun k => impl_writeFrame.j0 k true kind s) (⟨#[]⟩ : ByteArray) := Ev.step (f := fun _ => some ⟨#[]⟩) (fun k => by simp only [impl_writeFrame.j0, if_true]) (Ev.now _)
  unfold impl_writeFrame.f frameM
  simp only [in_eq, Option.bind_some]
  by_cases h1 : 1 ≤ kind ∧ kind ≤ 100
  · simp only [h1, and_self, decide_true, if_true, true_and]
    by_cases h2 : (s.size : Int) > 20000
    · simp only [h2, decide_true, if_neg (show ¬ (s.size : Int) ≤ 20000 by omega)]; exact bad
    · simp only [h2, decide_false, if_pos (show (s.size : Int) ≤ 20000 by omega)]
      have hz := frameHead_size kind s
      refine Ev.step (f := fun k => (impl_crc.f k (frameHead kind s)).bind fun t => some (frameHead kind s ++ strOfNums (four t))) (fun k => ?_) (Ev.bind (impl_crc_eq _ (by omega)) (Ev.now _))
      simp only [impl_writeFrame.j0, Bool.false_eq_true, if_false]
      rw [app32 _ _ (by simp)]
      have e1 : ([kind % 256] ++ four ((s.size : Int) % 4294967296)).length = 5 := rfl
      have e2 : ([kind % 256] ++ four ((s.size : Int) % 4294967296) ++ bytesOf s).length < 1000000 := by rw [List.length_append, e1, bytesOf_length]; omega
      simp only [Option.bind_some, e1, show 5 + s.size < 140737488355328 by omega, if_true, frameHead_list, app32 _ _ e2, strOfNums_append _ (four _)]
  · simp only [h1, decide_false, Bool.false_eq_true, if_false, false_and]; exact bad
namespace Put
theorem l1In_eq (a b c : Int) : spec_l1In.f a b c = some (decide (b ≤ a ∧ a ≤ c)) := by
  unfold spec_l1In.f
  by_cases h : a ≥ b
  · rw [if_pos h]; simp [h]
  · rw [if_neg h]; simp [h]
theorem spec_put_loop (f : Nat) : ∀ (n : Int) (xs : List Int), 0 ≤ n → n < 128 ^ (f + 1) → n ≤ 1000000000000 → xs.length + f < 1000000 → Ev (fun k => spec_PutNumber.l0 k n xs) (strOfNums (xs ++ putN f n)) := by
  induction f with
  | zero =>
    intro n xs h0 h1 _ hx
    refine Ev.step (f := fun _ => some (strOfNums (xs ++ [n]))) (fun k => ?_) (Ev.now _)
    simp only [spec_PutNumber.l0]; rw [if_neg (by omega), if_pos (by omega), show n % 256 = n by omega]
  | succ f ih =>
    intro n xs h0 h1 h2 hx
    by_cases h : 128 ≤ n
    · refine Ev.step (f := fun k => spec_PutNumber.l0 k (n / 128) (xs ++ [n % 128 + 128])) (fun k => ?_) ?_
      · simp only [spec_PutNumber.l0]; rw [if_pos h, if_pos (by omega), tdiv128 n h0 (by omega), tmod128 n h0]
      · have := ih (n / 128) (xs ++ [n % 128 + 128]) (by omega) (by rw [Int.pow_succ] at h1; omega) (by omega) (by simp; omega)
        simpa [putN, h] using this
    · refine Ev.step (f := fun _ => some (strOfNums (xs ++ [n]))) (fun k => ?_) ?_
      · simp only [spec_PutNumber.l0]; rw [if_neg (by omega), if_pos (by omega), show n % 256 = n by omega]
      · simpa [putN, h] using Ev.now (strOfNums (xs ++ [n]))
theorem spec_put (n : Int) (h0 : 0 ≤ n) (h1 : n ≤ 1000000000000) : Ev (fun k => spec_PutNumber.f k n) (strOfNums (putN 5 n)) := by
  refine Ev.congr (f := fun k => spec_PutNumber.l0 k n []) (fun k => ?_) (spec_put_loop 5 n [] h0 (by omega) h1 (by simp))
  unfold spec_PutNumber.f; rw [l1In_eq]; simp [h0, h1]
theorem spec_put_not (n : Int) (h : ¬ (0 ≤ n ∧ n ≤ 1000000000000)) : Ev (fun k => spec_PutNumber.f k n) (⟨#[]⟩ : ByteArray) := by
  refine Ev.congr (f := fun k => some (⟨#[]⟩ : ByteArray)) (fun k => ?_) (Ev.now _)
  unfold spec_PutNumber.f; rw [l1In_eq]; simp only [Option.bind_some]; rw [if_neg (by simpa using h)]
theorem spec_putText (s : ByteArray) : Ev (fun k => spec_PutText.f k s) (putTextM s) := by
  unfold spec_PutText.f putTextM
  by_cases h : (s.size : Int) > 20000
  · simp only [if_pos h]; exact Ev.now _
  · simp only [if_neg h]
    refine Ev.bind (spec_put s.size (by omega) (by omega)) ?_
    have := putN_length 5 s.size
    rw [if_pos (by rw [size_strOfNums]; omega)]; exact Ev.now _
end Put
theorem impl_put_loop (f : Nat) : ∀ (n : Int) (xs : List Int), 0 ≤ n → n < 128 ^ (f + 1) → n ≤ 1000000000000 → xs.length + f < 1000000 → Ev (fun k => impl_putNumber.l0 k n xs) (strOfNums (xs ++ putN f n)) := by
  induction f with
  | zero =>
    intro n xs h0 h1 _ hx
    refine Ev.step (f := fun _ => some (strOfNums (xs ++ [n]))) (fun k => ?_) (Ev.now _)
    simp only [impl_putNumber.l0]; rw [if_neg (by omega), if_pos (by omega), show n % 256 = n by omega]
  | succ f ih =>
    intro n xs h0 h1 h2 hx
    by_cases h : 128 ≤ n
    · refine Ev.step (f := fun k => impl_putNumber.l0 k (n / 128) (xs ++ [n % 128 + 128])) (fun k => ?_) ?_
      · simp only [impl_putNumber.l0]; rw [if_pos h, if_pos (by omega), tdiv128 n h0 (by omega), tmod128 n h0]
      · have := ih (n / 128) (xs ++ [n % 128 + 128]) (by omega) (by rw [Int.pow_succ] at h1; omega) (by omega) (by simp; omega)
        simpa [putN, h] using this
    · refine Ev.step (f := fun _ => some (strOfNums (xs ++ [n]))) (fun k => ?_) ?_
      · simp only [impl_putNumber.l0]; rw [if_neg (by omega), if_pos (by omega), show n % 256 = n by omega]
      · simpa [putN, h] using Ev.now (strOfNums (xs ++ [n]))
theorem impl_put (n : Int) (h0 : 0 ≤ n) (h1 : n ≤ 1000000000000) : Ev (fun k => impl_putNumber.f k n) (strOfNums (putN 5 n)) := by
  refine Ev.congr (f := fun k => impl_putNumber.l0 k n []) (fun k => ?_) (impl_put_loop 5 n [] h0 (by omega) h1 (by simp))
  unfold impl_putNumber.f; rfl
theorem impl_putText_eq (s : ByteArray) (h : ¬ (s.size : Int) > 20000) : Ev (fun k => impl_putText.f k s) (putTextM s) := by
  unfold impl_putText.f putTextM
  simp only [if_neg h]
  refine Ev.bind (impl_put s.size (by omega) (by omega)) ?_
  have := putN_length 5 s.size
  rw [if_pos (by rw [size_strOfNums]; omega)]; exact Ev.now _
def entryOk (a b : Int) (s : ByteArray) : Bool := decide (1 ≤ a ∧ a ≤ 1000000000000) && (decide (0 ≤ b ∧ b ≤ 9) && decide ((s.size : Int) ≤ 4000))
theorem spec_entry (a b : Int) (s : ByteArray) : spec_l5Entry.f a b s = some (entryOk a b s) := by
  unfold spec_l5Entry.f entryOk
  rw [l1In_eq]; simp only [Option.bind_some]
  by_cases h1 : 1 ≤ a ∧ a ≤ 1000000000000
  · simp only [h1, and_self, decide_true, if_true]
    rw [l1In_eq]; simp only [Option.bind_some]
    by_cases h2 : 0 ≤ b ∧ b ≤ 9
    · simp only [h2, and_self, decide_true, if_true, Bool.true_and]
    · simp only [h2, decide_false, Bool.false_eq_true, if_false, Bool.false_and, Bool.true_and]
  · simp only [h1, decide_false, Bool.false_eq_true, if_false, Bool.false_and]
theorem impl_entry (a b : Int) (s : ByteArray) : impl_isEntry.f a b s = some (entryOk a b s) := by
  unfold impl_isEntry.f entryOk
  rw [in_eq]; simp only [Option.bind_some]
  by_cases h1 : 1 ≤ a ∧ a ≤ 1000000000000
  · simp only [h1, and_self, decide_true, if_true]
    rw [in_eq]; simp only [Option.bind_some]
    by_cases h2 : 0 ≤ b ∧ b ≤ 9
    · simp only [h2, and_self, decide_true, if_true, Bool.true_and]
    · simp only [h2, decide_false, Bool.false_eq_true, if_false, Bool.false_and, Bool.true_and]
  · simp only [h1, decide_false, Bool.false_eq_true, if_false, Bool.false_and]
/-- The bytes of an entry. -/
def entryTextM (a b : Int) (s : ByteArray) : ByteArray := if entryOk a b s = true then frameM 2 ((strOfNums (putN 5 a) ++ strOfNums (putN 5 b)) ++ putTextM s) else ⟨#[]⟩
theorem putTextM_size (s : ByteArray) (h : (s.size : Int) ≤ 20000) : (putTextM s).size ≤ 20010 := by
  unfold putTextM
  rw [if_neg (by omega), ByteArray.size_append, size_strOfNums]
  have := putN_length 5 s.size; omega
theorem entryOk_is (a b : Int) (s : ByteArray) (h : entryOk a b s = true) : (1 ≤ a ∧ a ≤ 1000000000000) ∧ (0 ≤ b ∧ b ≤ 9) ∧ (s.size : Int) ≤ 4000 := by
  unfold entryOk at h; simpa using h
theorem spec_entryText (a b : Int) (s : ByteArray) : Ev (fun k => spec_EntryText.f k a b s) (entryTextM a b s) := by
  unfold spec_EntryText.f entryTextM
  simp only [spec_entry, Option.bind_some]
  by_cases h : entryOk a b s = true
  · obtain ⟨h1, h2, h3⟩ := entryOk_is a b s h
    have p1 := putN_length 5 a
    have p2 := putN_length 5 b
    have p3 := putTextM_size s (by omega)
    simp only [if_pos h]
    refine Ev.bind (Put.spec_put a (by omega) (by omega)) (Ev.bind (Put.spec_put b (by omega) (by omega)) ?_)
    simp only [if_pos (show (strOfNums (putN 5 a)).size + (strOfNums (putN 5 b)).size ≤ 9223372036854775807 by rw [size_strOfNums, size_strOfNums]; omega)]
    refine Ev.bind (Put.spec_putText s) ?_
    simp only [if_pos (show (strOfNums (putN 5 a)).size + (strOfNums (putN 5 b)).size + (putTextM s).size ≤ 9223372036854775807 by rw [size_strOfNums, size_strOfNums]; omega)]
    exact Ev.bind (spec_frame 2 _) (Ev.now _)
  · simp only [if_neg h]; exact Ev.now _
theorem impl_EntryText_eq (a b : Int) (s : ByteArray) : Ev (fun k => impl_EntryText.f k a b s) (entryTextM a b s) := by
  unfold impl_EntryText.f entryTextM impl_entryText.f
  simp only [impl_entry, Option.bind_some]
  by_cases h : entryOk a b s = true
  · obtain ⟨h1, h2, h3⟩ := entryOk_is a b s h
    have p1 := putN_length 5 a
    have p2 := putN_length 5 b
    have p3 := putTextM_size s (by omega)
    simp only [if_pos h]
    refine Ev.bind (Ev.bind (impl_put a (by omega) (by omega)) (Ev.bind (impl_put b (by omega) (by omega)) ?_)) (Ev.now _)
    simp only [if_pos (show (strOfNums (putN 5 a)).size + (strOfNums (putN 5 b)).size ≤ 9223372036854775807 by rw [size_strOfNums, size_strOfNums]; omega)]
    refine Ev.bind (impl_putText_eq s (by omega)) ?_
    simp only [if_pos (show (strOfNums (putN 5 a)).size + (strOfNums (putN 5 b)).size + (putTextM s).size ≤ 9223372036854775807 by rw [size_strOfNums, size_strOfNums]; omega)]
    exact Ev.bind (impl_frame 2 _) (Ev.now _)
  · simp only [if_neg h]; exact Ev.now _
end EntryTextOf
open EntryTextOf

theorem FnExactEntryText : laws_FnExactEntryText.Pure := by
  intro a b s _ _ hs
  refine Ev.rounds (g := fun k => laws_FnExactEntryText.f k a b s) ?_
  unfold laws_FnExactEntryText.f laws_szEntry.f laws_toEntry.f
  by_cases h : wrap64 (1048576 - (s.size : Int)) < 0
  · simp only [if_pos h, Option.bind_some]; exact Ev.now _
  · simp only [if_neg h, Option.bind_some]
    refine Ev.bind (spec_entryText a b s) (Ev.bind (impl_EntryText_eq a b s) ?_)
    simp only [if_true]; exact Ev.now _

end Go.Proofs.Ytlodhcmbonljgaa.Pure
