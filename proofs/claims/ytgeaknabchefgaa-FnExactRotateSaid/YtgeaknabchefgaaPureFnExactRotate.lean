/- For every word and every number the program's Rotate returns what the reference's returns. No condition but that the word and the number are of their kinds. -/
import Derived.Test.YtgeaknabchefgaaPFnExactRotatex1
import Derived.Test.YtgeaknabchefgaaBits
namespace Go.Proofs.Ytgeaknabchefgaa.Pure
open Go.RowKit Go.Proofs.Ytgeaknabchefgaa.PFnExactRotate Go.Proofs.YtgeaknabchefgaaW.PrintWords Go.Proofs.YtgeaknabchefgaaW.PrintLast Go.Proofs.YtgeaknabchefgaaW.PrintMore Go.Proofs.Ytgeaknabchefgaa.Bits
set_option linter.unusedSimpArgs false
set_option linter.unusedVariables false

theorem spec_rot (x n : Int) (h0 : 0 ≤ x) (h1 : x < 4294967296) : spec_Rotate.f x n = some (rotr x (n % 32).toNat) := by
  have ht := Int.tmod_lt_of_pos n (show (0 : Int) < 32 by decide)
  have ht2 : -32 < Int.tmod n 32 := by have := Int.lt_tmod_of_pos n (show (0 : Int) < 32 by decide); omega
  have hm : (Int.tmod n 32) % 32 = n % 32 := by have := Int.tmod_add_mul_tdiv n 32; omega
  have hk : IntKind.u64.wrap (Int.tmod (wrap64 ((Int.tmod n 32) + 32)) 32) = n % 32 := by
    have e1 : wrap64 ((Int.tmod n 32) + 32) = (Int.tmod n 32) + 32 := by unfold wrap64; omega
    rw [e1, Int.tmod_eq_emod_of_nonneg (by omega), IntKind.wrap_u64]; omega
  have hk2 : IntKind.u64.wrap (32 - n % 32) = 32 - n % 32 := by rw [IntKind.wrap_u64]; omega
  unfold spec_Rotate.f
  rw [hk, if_pos (by omega), hk2, if_pos (by omega)]
  have e2 : (32 - n % 32).toNat = 32 - (n % 32).toNat := by omega
  unfold shr shl
  rw [show min (n % 32).toNat IntKind.u32.bits = (n % 32).toNat by simp [IntKind.bits]; omega, show min (32 - n % 32).toNat IntKind.u32.bits = (32 - n % 32).toNat by simp [IntKind.bits]; omega, e2, bits_or_comm, or_rotr x _ h0 h1 (by omega)]

theorem impl_rot (x n : Int) (h0 : 0 ≤ x) (h1 : x < 4294967296) (hn0 : -9223372036854775808 ≤ n) (hn1 : n ≤ 9223372036854775807) : impl_rotate.f x n = some (rotr x (n % 32).toNat) := by
  have ht := Int.tmod_lt_of_pos n (show (0 : Int) < 32 by decide)
  have ht2 : -32 < Int.tmod n 32 := by have := Int.lt_tmod_of_pos n (show (0 : Int) < 32 by decide); omega
  have hm : (Int.tmod n 32) % 32 = n % 32 := by have := Int.tmod_add_mul_tdiv n 32; omega
  have hs : Go.bits .and .u64 (IntKind.u64.wrap (wrap64 (-(Int.tmod n 32)))) 31 = (-n) % 32 := by
    have e1 : wrap64 (-(Int.tmod n 32)) = -(Int.tmod n 32) := by unfold wrap64; omega
    rw [e1]
    have := bits_mask .u64 64 (by decide) (fun n h0 h1 => by rw [IntKind.wrap_u64]; omega) 5 (by decide) (IntKind.u64.wrap (-(Int.tmod n 32))) (by rw [IntKind.wrap_u64]; omega) (by rw [IntKind.wrap_u64]; omega)
    rw [show (31 : Int) = 2 ^ 5 - 1 by decide, this, IntKind.wrap_u64]; omega
  have hk2 : IntKind.u64.wrap (32 - (-n) % 32) = 32 - (-n) % 32 := by rw [IntKind.wrap_u64]; omega
  unfold impl_rotate.f bits_RotateLeft32.f
  rw [hs, if_pos (by omega), hk2, if_pos (by omega)]
  simp only [Option.bind_some]
  unfold shr shl
  rw [show min ((-n) % 32).toNat IntKind.u32.bits = ((-n) % 32).toNat by simp [IntKind.bits]; omega, show min (32 - (-n) % 32).toNat IntKind.u32.bits = (32 - (-n) % 32).toNat by simp [IntKind.bits]; omega]
  by_cases hz : n % 32 = 0
  · rw [hz, show ((-n) % 32).toNat = 0 by omega, show (32 - (-n) % 32).toNat = 32 by omega, show ((0 : Int)).toNat = 0 by rfl, rotr_zero]
    have := or_rotr x 32 h0 h1 (by omega)
    rw [rotr_32 x h0 h1] at this
    exact congrArg some this
  · have e3 : ((-n) % 32).toNat = 32 - (n % 32).toNat := by omega
    rw [e3, show (32 - (-n) % 32).toNat = (n % 32).toNat by omega, or_rotr x _ h0 h1 (by omega)]

theorem FnExactRotate : laws_FnExactRotate.Pure := by
  intro a0 a1 w0 w1
  have b0 := wf_u32 w0
  have b1 := wf_i64 w1
  unfold laws_FnExactRotate.f impl_Rotate.f
  rw [spec_rot a0 a1 (by omega) (by omega), impl_rot a0 a1 (by omega) (by omega) (by omega) (by omega)]
  simp

end Go.Proofs.Ytgeaknabchefgaa.Pure
