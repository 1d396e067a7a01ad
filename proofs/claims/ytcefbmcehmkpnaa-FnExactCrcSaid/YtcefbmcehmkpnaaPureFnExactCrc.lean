/- For every text the program's Crc returns what the reference's returns. No condition but the size that the model lets a text have. -/
import Derived.Test.YtcefbmcehmkpnaaQFnExactCrcx
import Derived.Test.YtcefbmcehmkpnaaCrcFnExactCrc
namespace Go.Proofs.Ytcefbmcehmkpnaa.Pure
open Go.RowKit Go.Proofs.Ytcefbmcehmkpnaa.QFnExactCrc Go.Proofs.YtcefbmcehmkpnaaW.PrintWords Go.Proofs.YtcefbmcehmkpnaaW.PrintLast Go.Proofs.YtcefbmcehmkpnaaW.PrintMore Go.Proofs.Ytcefbmcehmkpnaa.Bits Go.Proofs.Ytcefbmcehmkpnaa.Num Go.Proofs.Ytcefbmcehmkpnaa.Crc
set_option linter.unusedSimpArgs false
set_option linter.unusedVariables false
namespace CrcOf
theorem spec_crc_in (s : ByteArray) (i : Nat) (r : Int) (hi : i < s.size) (hs : s.size ≤ 140737488351232) (d : Nat) : ∀ (j : Nat) (x : Int), j + d = 8 →
    Ev (fun k => spec_Crc.l0 k s (crcBits d x) ((i + 1 : Nat) : Int)) r → Ev (fun k => spec_Crc.l1 k s x (i : Int) (j : Int)) r := by
  induction d with
  | zero =>
    intro j x hj hr
    refine Ev.step (fun k => ?_) hr
    simp only [spec_Crc.l1]; rw [if_neg (by omega), wrap_succ i _ hi hs]; rfl
  | succ d ih =>
    intro j x hj hr
    refine Ev.step (f := fun k => spec_Crc.l1 k s (crcBit x) (i : Int) ((j + 1 : Nat) : Int)) (fun k => ?_) (ih (j + 1) (crcBit x) (by omega) hr)
    simp only [spec_Crc.l1, crcBit]; rw [if_pos (by omega), wrap_lit j (by omega)]
    by_cases h : Go.bits .and .u32 x 1 = 1
    · rw [if_pos h, if_pos h]
    · rw [if_neg h, if_neg h]
theorem spec_crc_out (s : ByteArray) (hs : s.size ≤ 140737488351232) (d : Nat) : ∀ (i : Nat) (x : Int), i + d = s.size → Ev (fun k => spec_Crc.l0 k s x (i : Int)) (Go.bits .xor .u32 4294967295 (crcL x ((bytesOf s).drop i))) := by
  induction d with
  | zero =>
    intro i x hi
    rw [List.drop_eq_nil_of_le (by rw [bytesOf_length]; omega)]
    refine Ev.step (f := fun _ => some (Go.bits .xor .u32 4294967295 x)) (fun k => ?_) (Ev.now _)
    simp only [spec_Crc.l0]; rw [if_neg (by omega)]
  | succ d ih =>
    intro i x hi
    have hlt : i < s.size := by omega
    rw [drop_bytes s i hlt]
    refine Ev.step (f := fun k => spec_Crc.l1 k s (Go.bits .xor .u32 x (bt s i)) (i : Int) ((0 : Nat) : Int)) (fun k => ?_) (spec_crc_in s i _ hlt hs 8 0 _ rfl (ih (i + 1) _ (by omega)))
    simp only [spec_Crc.l0]; rw [if_pos (by omega), if_pos (by omega), bt_mod]; rfl
theorem spec_crc (s : ByteArray) (hs : s.size ≤ 140737488351232) : Ev (fun k => spec_Crc.f k s) (crcM s) := by
  unfold spec_Crc.f
  exact spec_crc_out s hs s.size 0 4294967295 (by omega)
theorem impl_crc_in (s : ByteArray) (i : Nat) (r : Int) (hi : i < s.size) (hs : s.size ≤ 140737488351232) (d : Nat) : ∀ (j : Nat) (x : Int), j + d = 8 →
    Ev (fun k => impl_crc.l0 k s (crcBits d x) (s.size : Int) ((i + 1 : Nat) : Int)) r → Ev (fun k => impl_crc.l1 k s x (s.size : Int) (i : Int) (j : Int)) r := by
  induction d with
  | zero =>
    intro j x hj hr
    refine Ev.step (fun k => ?_) hr
    simp only [impl_crc.l1]; rw [if_neg (by omega), wrap_succ i _ hi hs]; rfl
  | succ d ih =>
    intro j x hj hr
    refine Ev.step (f := fun k => impl_crc.l1 k s (crcBit x) (s.size : Int) (i : Int) ((j + 1 : Nat) : Int)) (fun k => ?_) (ih (j + 1) (crcBit x) (by omega) hr)
    simp only [impl_crc.l1, crcBit]; rw [if_pos (by omega), wrap_lit j (by omega)]
    by_cases h : Go.bits .and .u32 x 1 = 1
    · rw [if_pos h, if_pos h]
    · rw [if_neg h, if_neg h]
theorem impl_crc_out (s : ByteArray) (hs : s.size ≤ 140737488351232) (d : Nat) : ∀ (i : Nat) (x : Int), i + d = s.size → Ev (fun k => impl_crc.l0 k s x (s.size : Int) (i : Int)) (Go.bits .xor .u32 4294967295 (crcL x ((bytesOf s).drop i))) := by
  induction d with
  | zero =>
    intro i x hi
    rw [List.drop_eq_nil_of_le (by rw [bytesOf_length]; omega)]
    refine Ev.step (f := fun _ => some (Go.bits .xor .u32 4294967295 x)) (fun k => ?_) (Ev.now _)
    simp only [impl_crc.l0]; rw [if_neg (by omega)]
  | succ d ih =>
    intro i x hi
    have hlt : i < s.size := by omega
    rw [drop_bytes s i hlt]
    refine Ev.step (f := fun k => impl_crc.l1 k s (Go.bits .xor .u32 x (bt s i)) (s.size : Int) (i : Int) ((0 : Nat) : Int)) (fun k => ?_) (impl_crc_in s i _ hlt hs 8 0 _ rfl (ih (i + 1) _ (by omega)))
    simp only [impl_crc.l0]; rw [if_pos (by omega), if_pos (by omega), if_pos (by omega), bt_mod]; rfl
theorem impl_crc_eq (s : ByteArray) (hs : s.size ≤ 140737488351232) : Ev (fun k => impl_crc.f k s) (crcM s) := by
  unfold impl_crc.f
  exact impl_crc_out s hs s.size 0 4294967295 (by omega)
end CrcOf
open CrcOf

theorem FnExactCrc : laws_FnExactCrc.Pure := by
  intro s hs
  refine Ev.rounds (g := fun k => laws_FnExactCrc.f k s) ?_
  unfold laws_FnExactCrc.f
  by_cases h0 : (s.size : Int) > 1048576
  · simp only [if_pos h0]; exact Ev.now _
  · simp only [if_neg h0]
    refine Ev.bind (spec_crc s hs) (Ev.bind (a := crcM s) ?_ ?_)
    · unfold impl_Crc.f; exact Ev.bind (impl_crc_eq s hs) (Ev.now _)
    · simp only [if_true]; exact Ev.now _

end Go.Proofs.Ytcefbmcehmkpnaa.Pure
