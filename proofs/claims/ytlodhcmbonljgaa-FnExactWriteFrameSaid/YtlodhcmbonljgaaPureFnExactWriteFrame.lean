/- For every frame the program's WriteFrame returns what the reference's returns. No condition but that the frame can be read. -/
import Derived.Test.YtlodhcmbonljgaaQFnExactWriteFramex
import Derived.Test.YtlodhcmbonljgaaFrameFnExactWriteFrame
namespace Go.Proofs.Ytlodhcmbonljgaa.Pure
open Go.RowKit Go.Proofs.Ytlodhcmbonljgaa.QFnExactWriteFrame Go.Proofs.YtlodhcmbonljgaaW.PrintWords Go.Proofs.YtlodhcmbonljgaaW.PrintLast Go.Proofs.YtlodhcmbonljgaaW.PrintMore Go.Proofs.Ytlodhcmbonljgaa.Bits Go.Proofs.Ytlodhcmbonljgaa.Num Go.Proofs.Ytlodhcmbonljgaa.Crc Go.Proofs.Ytlodhcmbonljgaa.Frame
set_option linter.unusedSimpArgs false
set_option linter.unusedVariables false
namespace WriteFrameOf
theorem spec_crc_in (s : ByteArray) (i : Nat) (r : Int) (hi : i < s.size) (hs : s.size ≤ 140737488351232) (d : Nat) : ∀ (j : Nat) (x : Int), j + d = 8 →
    Ev (fun k => spec_Crc.l0 k s (crcBits d x) ((i + 1 : Nat) : Int)) r → Ev (fun k => spec_Crc.l1 k s x (i : Int) (j : Int)) r := by
  induction d with
  | zero =>
    intro j x hj hr
    refine Ev.step (fun k => ?_) hr
    simp only [spec_Crc.l1]; rw [if_neg (by omega), wrap_succ i _ hi hs]; rfl
  | succ d ih =>
    intro j x hj hr
    refine Ev.step (f := fun k => spec_Crc.l1 k s (crcBit x) (i : Int) ((j + 1 : Nat) : Int)) (fun k => ?_) (ih (j + 1) (crcBit x) (by omega) hr)
    simp only [spec_Crc.l1, crcBit]; rw [if_pos (by omega), wrap_lit j (by omega)]
    by_cases h : Go.bits .and .u32 x 1 = 1
    · rw [if_pos h, if_pos h]
    · rw [if_neg h, if_neg h]
theorem spec_crc_out (s : ByteArray) (hs : s.size ≤ 140737488351232) (d : Nat) : ∀ (i : Nat) (x : Int), i + d = s.size → Ev (fun k => spec_Crc.l0 k s x (i : Int)) (Go.bits .xor .u32 4294967295 (crcL x ((bytesOf s).drop i))) := by
  induction d with
  | zero =>
    intro i x hi
    rw [List.drop_eq_nil_of_le (by rw [bytesOf_length]; omega)]
    refine Ev.step (f := fun _ => some (Go.bits .xor .u32 4294967295 x)) (fun k => ?_) (Ev.now _)
    simp only [spec_Crc.l0]; rw [if_neg (by omega)]
  | succ d ih =>
    intro i x hi
    have hlt : i < s.size := by omega
    rw [drop_bytes s i hlt]
    refine Ev.step (f := fun k => spec_Crc.l1 k s (Go.bits .xor .u32 x (bt s i)) (i : Int) ((0 : Nat) : Int)) (fun k => ?_) (spec_crc_in s i _ hlt hs 8 0 _ rfl (ih (i + 1) _ (by omega)))
    simp only [spec_Crc.l0]; rw [if_pos (by omega), if_pos (by omega), bt_mod]; rfl
theorem spec_crc (s : ByteArray) (hs : s.size ≤ 140737488351232) : Ev (fun k => spec_Crc.f k s) (crcM s) := by
  unfold spec_Crc.f
  exact spec_crc_out s hs s.size 0 4294967295 (by omega)
theorem impl_crc_in (s : ByteArray) (i : Nat) (r : Int) (hi : i < s.size) (hs : s.size ≤ 140737488351232) (d : Nat) : ∀ (j : Nat) (x : Int), j + d = 8 →
    Ev (fun k => impl_crc.l0 k s (crcBits d x) (s.size : Int) ((i + 1 : Nat) : Int)) r → Ev (fun k => impl_crc.l1 k s x (s.size : Int) (i : Int) (j : Int)) r := by
  induction d with
  | zero =>
    intro j x hj hr
    refine Ev.step (fun k => ?_) hr
    simp only [impl_crc.l1]; rw [if_neg (by omega), wrap_succ i _ hi hs]; rfl
  | succ d ih =>
    intro j x hj hr
    refine Ev.step (f := fun k => impl_crc.l1 k s (crcBit x) (s.size : Int) (i : Int) ((j + 1 : Nat) : Int)) (fun k => ?_) (ih (j + 1) (crcBit x) (by omega) hr)
    simp only [impl_crc.l1, crcBit]; rw [if_pos (by omega), wrap_lit j (by omega)]
    by_cases h : Go.bits .and .u32 x 1 = 1
    · rw [if_pos h, if_pos h]
    · rw [if_neg h, if_neg h]
theorem impl_crc_out (s : ByteArray) (hs : s.size ≤ 140737488351232) (d : Nat) : ∀ (i : Nat) (x : Int), i + d = s.size → Ev (fun k => impl_crc.l0 k s x (s.size : Int) (i : Int)) (Go.bits .xor .u32 4294967295 (crcL x ((bytesOf s).drop i))) := by
  induction d with
  | zero =>
    intro i x hi
    rw [List.drop_eq_nil_of_le (by rw [bytesOf_length]; omega)]
    refine Ev.step (f := fun _ => some (Go.bits .xor .u32 4294967295 x)) (fun k => ?_) (Ev.now _)
    simp only [impl_crc.l0]; rw [if_neg (by omega)]
  | succ d ih =>
    intro i x hi
    have hlt : i < s.size := by omega
    rw [drop_bytes s i hlt]
    refine Ev.step (f := fun k => impl_crc.l1 k s (Go.bits .xor .u32 x (bt s i)) (s.size : Int) (i : Int) ((0 : Nat) : Int)) (fun k => ?_) (impl_crc_in s i _ hlt hs 8 0 _ rfl (ih (i + 1) _ (by omega)))
    simp only [impl_crc.l0]; rw [if_pos (by omega), if_pos (by omega), if_pos (by omega), bt_mod]; rfl
theorem impl_crc_eq (s : ByteArray) (hs : s.size ≤ 140737488351232) : Ev (fun k => impl_crc.f k s) (crcM s) := by
  unfold impl_crc.f
  exact impl_crc_out s hs s.size 0 4294967295 (by omega)
theorem l1In_eq (a b c : Int) : spec_l1In.f a b c = some (decide (b ≤ a ∧ a ≤ c)) := by
  unfold spec_l1In.f
  by_cases h : a ≥ b
  · rw [if_pos h]; simp [h]
  · rw [if_neg h]; simp [h]
theorem spec_frame (kind : Int) (s : ByteArray) : Ev (fun k => spec_WriteFrame.f k kind s) (frameM kind s) := by
  have bad : Ev (fun k => spec_WriteFrame.j0 k true kind s) (⟨#[]⟩ : ByteArray) := Ev.step (f := fun _ => some ⟨#[]⟩) (fun k => by simp only [spec_WriteFrame.j0, if_true]) (Ev.now _)
  unfold spec_WriteFrame.f frameM
  simp only [l1In_eq, Option.bind_some]
  by_cases h1 : 1 ≤ kind ∧ kind ≤ 100
  · simp only [h1, and_self, decide_true, if_true, true_and]
    by_cases h2 : (s.size : Int) > 20000
    · simp only [h2, decide_true, if_neg (show ¬ (s.size : Int) ≤ 20000 by omega)]; exact bad
    · simp only [h2, decide_false, if_pos (show (s.size : Int) ≤ 20000 by omega)]
      have hz := frameHead_size kind s
      refine Ev.step (f := fun k => (spec_Crc.f k (frameHead kind s)).bind fun t => some (frameHead kind s ++ strOfNums (four t))) (fun k => ?_) (Ev.bind (spec_crc _ (by omega)) (Ev.now _))
      simp only [spec_WriteFrame.j0, Bool.false_eq_true, if_false, Option.bind_some, spec_l2Four.f]
      have e1 : (strOfNums [kind % 256]).size = 1 := by rw [size_strOfNums]; rfl
      have e2 : ∀ n : Int, (strOfNums [n % 256, n / 256 % 256, n / 65536 % 256, n / 16777216 % 256]).size = 4 := fun n => by rw [size_strOfNums]; rfl
      simp only [e1, e2, show 1 + 4 ≤ 9223372036854775807 by omega, show 1 + 4 + s.size ≤ 9223372036854775807 by omega, show 1 + 4 + s.size + 4 ≤ 9223372036854775807 by omega, if_true]
      rfl
  · simp only [h1, decide_false, Bool.false_eq_true, if_false, false_and]; exact bad
theorem in_eq (a b c : Int) : impl_in.f a b c = some (decide (b ≤ a ∧ a ≤ c)) := by
  unfold impl_in.f
  by_cases h : a ≥ b
  · rw [if_pos h]; simp [h]
  · rw [if_neg h]; simp [h]
theorem app32 (l : List Int) (n : Int) (h : l.length < 1000000) : binary_littleEndian_AppendUint32.f l n = some (l ++ four n) := by
  unfold binary_littleEndian_AppendUint32.f
  simp only [Option.bind_some]; rw [if_pos (by simp only [List.length_cons, List.length_nil]; omega)]; rfl
theorem impl_frame (kind : Int) (s : ByteArray) : Ev (fun k => impl_writeFrame.f k kind s) (frameM kind s) := by
  have bad : Ev (fun k => impl_writeFrame.j0 k true kind s) (⟨#[]⟩ : ByteArray) := Ev.step (f := fun _ => some ⟨#[]⟩) (fun k => by simp only [impl_writeFrame.j0, if_true]) (Ev.now _)
  unfold impl_writeFrame.f frameM
  simp only [in_eq, Option.bind_some]
  by_cases h1 : 1 ≤ kind ∧ kind ≤ 100
  · simp only [h1, and_self, decide_true, if_true, true_and]
    by_cases h2 : (s.size : Int) > 20000
    · simp only [h2, decide_true, if_neg (show ¬ (s.size : Int) ≤ 20000 by omega)]; exact bad
    · simp only [h2, decide_false, if_pos (show (s.size : Int) ≤ 20000 by omega)]
      have hz := frameHead_size kind s
      refine Ev.step (f := fun k => (impl_crc.f k (frameHead kind s)).bind fun t => some (frameHead kind s ++ strOfNums (four t))) (fun k => ?_) (Ev.bind (impl_crc_eq _ (by omega)) (Ev.now _))
      simp only [impl_writeFrame.j0, Bool.false_eq_true, if_false]
      rw [app32 _ _ (by simp)]
      have e1 : ([kind % 256] ++ four ((s.size : Int) % 4294967296)).length = 5 := rfl
      have e2 : ([kind % 256] ++ four ((s.size : Int) % 4294967296) ++ bytesOf s).length < 1000000 := by rw [List.length_append, e1, bytesOf_length]; omega
      simp only [Option.bind_some, e1, show 5 + s.size < 140737488355328 by omega, if_true, frameHead_list, app32 _ _ e2, strOfNums_append _ (four _)]
  · simp only [h1, decide_false, Bool.false_eq_true, if_false, false_and]; exact bad
end WriteFrameOf
open WriteFrameOf

theorem FnExactWriteFrame : laws_FnExactWriteFrame.Pure := by
  intro kind s _ hs
  refine Ev.rounds (g := fun k => laws_FnExactWriteFrame.f k kind s) ?_
  unfold laws_FnExactWriteFrame.f laws_szFrame.f laws_toFrame.f
  unfold maxLen at hs
  by_cases h : wrap64 (1048576 - (s.size : Int)) < 0
  · simp only [if_pos h, Option.bind_some]; exact Ev.now _
  · simp only [if_neg h, Option.bind_some]
    refine Ev.bind (spec_frame kind s) (Ev.bind (a := frameM kind s) ?_ ?_)
    · unfold impl_WriteFrame.f; exact Ev.bind (impl_frame kind s) (Ev.now _)
    · simp only [if_true]; exact Ev.now _

end Go.Proofs.Ytlodhcmbonljgaa.Pure
