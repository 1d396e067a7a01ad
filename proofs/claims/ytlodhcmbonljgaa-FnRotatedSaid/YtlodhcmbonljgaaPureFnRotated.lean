/- For every code: the drawn word, turned by the drawn number and then by what lacks to 32, is what it was; turned by two numbers it is turned by their sum. No condition but the size that the model lets a code have. -/
import Derived.Test.YtlodhcmbonljgaaPFnRotatedx2
import Derived.Test.YtlodhcmbonljgaaBits
import Derived.Test.YtlodhcmbonljgaaRotr2
namespace Go.Proofs.Ytlodhcmbonljgaa.Pure
open Go.RowKit Go.Proofs.Ytlodhcmbonljgaa.PFnRotated Go.Proofs.YtlodhcmbonljgaaW.PrintWords Go.Proofs.YtlodhcmbonljgaaW.PrintLast Go.Proofs.YtlodhcmbonljgaaW.PrintMore Go.Proofs.Ytlodhcmbonljgaa.Bits
set_option linter.unusedSimpArgs false
set_option linter.unusedVariables false
namespace RotatedOf
theorem spec_rot (x n : Int) (h0 : 0 ≤ x) (h1 : x < 4294967296) : spec_Rotate.f x n = some (rotr x (n % 32).toNat) := by
  have ht := Int.tmod_lt_of_pos n (show (0 : Int) < 32 by decide)
  have ht2 : -32 < Int.tmod n 32 := by have := Int.lt_tmod_of_pos n (show (0 : Int) < 32 by decide); omega
  have hm : (Int.tmod n 32) % 32 = n % 32 := by have := Int.tmod_add_mul_tdiv n 32; omega
  have hk : IntKind.u64.wrap (Int.tmod (wrap64 ((Int.tmod n 32) + 32)) 32) = n % 32 := by
    have e1 : wrap64 ((Int.tmod n 32) + 32) = (Int.tmod n 32) + 32 := by unfold wrap64; omega
    rw [e1, Int.tmod_eq_emod_of_nonneg (by omega), IntKind.wrap_u64]; omega
  have hk2 : IntKind.u64.wrap (32 - n % 32) = 32 - n % 32 := by rw [IntKind.wrap_u64]; omega
  unfold spec_Rotate.f
  rw [hk, if_pos (by omega), hk2, if_pos (by omega)]
  have e2 : (32 - n % 32).toNat = 32 - (n % 32).toNat := by omega
  unfold shr shl
  rw [show min (n % 32).toNat IntKind.u32.bits = (n % 32).toNat by simp [IntKind.bits]; omega, show min (32 - n % 32).toNat IntKind.u32.bits = (32 - n % 32).toNat by simp [IntKind.bits]; omega, e2, bits_or_comm, or_rotr x _ h0 h1 (by omega)]

theorem impl_rot (x n : Int) (h0 : 0 ≤ x) (h1 : x < 4294967296) (hn0 : -9223372036854775808 ≤ n) (hn1 : n ≤ 9223372036854775807) : impl_rotate.f x n = some (rotr x (n % 32).toNat) := by
  have ht := Int.tmod_lt_of_pos n (show (0 : Int) < 32 by decide)
  have ht2 : -32 < Int.tmod n 32 := by have := Int.lt_tmod_of_pos n (show (0 : Int) < 32 by decide); omega
  have hm : (Int.tmod n 32) % 32 = n % 32 := by have := Int.tmod_add_mul_tdiv n 32; omega
  have hs : Go.bits .and .u64 (IntKind.u64.wrap (wrap64 (-(Int.tmod n 32)))) 31 = (-n) % 32 := by
    have e1 : wrap64 (-(Int.tmod n 32)) = -(Int.tmod n 32) := by unfold wrap64; omega
    rw [e1]
    have := bits_mask .u64 64 (by decide) (fun n h0 h1 => by rw [IntKind.wrap_u64]; omega) 5 (by decide) (IntKind.u64.wrap (-(Int.tmod n 32))) (by rw [IntKind.wrap_u64]; omega) (by rw [IntKind.wrap_u64]; omega)
    rw [show (31 : Int) = 2 ^ 5 - 1 by decide, this, IntKind.wrap_u64]; omega
  have hk2 : IntKind.u64.wrap (32 - (-n) % 32) = 32 - (-n) % 32 := by rw [IntKind.wrap_u64]; omega
  unfold impl_rotate.f bits_RotateLeft32.f
  rw [hs, if_pos (by omega), hk2, if_pos (by omega)]
  simp only [Option.bind_some]
  unfold shr shl
  rw [show min ((-n) % 32).toNat IntKind.u32.bits = ((-n) % 32).toNat by simp [IntKind.bits]; omega, show min (32 - (-n) % 32).toNat IntKind.u32.bits = (32 - (-n) % 32).toNat by simp [IntKind.bits]; omega]
  by_cases hz : n % 32 = 0
  · rw [hz, show ((-n) % 32).toNat = 0 by omega, show (32 - (-n) % 32).toNat = 32 by omega, show ((0 : Int)).toNat = 0 by rfl, rotr_zero]
    have := or_rotr x 32 h0 h1 (by omega)
    rw [rotr_32 x h0 h1] at this
    exact congrArg some this
  · have e3 : ((-n) % 32).toNat = 32 - (n % 32).toNat := by omega
    rw [e3, show (32 - (-n) % 32).toNat = (n % 32).toNat by omega, or_rotr x _ h0 h1 (by omega)]
section
variable {l : List Int} (hb : ∀ x ∈ l, (Lit.int .u8 x).wf = true) (hm : l.length ≤ 140737488351232)
include hb in
theorem rd_u8 (i : Int) : 0 ≤ rd l i ∧ rd l i ≤ 255 := by
  unfold rd
  rw [List.getD_eq_getElem?_getD]
  by_cases h : i.toNat < l.length
  · rw [List.getElem?_eq_getElem h]; exact wf_u8 (hb _ (List.getElem_mem h))
  · rw [List.getElem?_eq_none (by omega)]; simp
include hb hm in
theorem next_ok (p : Int) (h0 : 0 ≤ p) (h1 : p ≤ l.length) : ∃ c q, spec_l1Rd_next.f l p = some (c, q) ∧ 0 ≤ c ∧ c ≤ 255 ∧ 0 ≤ q ∧ q ≤ l.length := by
  unfold spec_l1Rd_next.f
  by_cases h : p ≥ (l.length : Int)
  · exact ⟨0, p, by rw [if_pos h], by omega, by omega, h0, h1⟩
  · have e1 : wrap64 (p + 1) = p + 1 := by unfold wrap64; omega
    have e2 : wrap64 (p + 1 - 1) = p := by unfold wrap64; omega
    obtain ⟨r0, r1⟩ := rd_u8 hb p
    have e3 : wrap64 (rd l p) = rd l p := by unfold wrap64; omega
    exact ⟨rd l p, p + 1, by rw [if_neg h, e1, e2, if_pos h0, if_pos (by omega), e3], r0, r1, by omega, by omega⟩
include hb hm in
theorem below_ok (p n : Int) (h0 : 0 ≤ p) (h1 : p ≤ l.length) (n0 : 1 ≤ n) (n1 : n ≤ 1000000) : ∃ c q, spec_l1Rd_below.f l p n = some (c, q) ∧ 0 ≤ c ∧ c < n ∧ 0 ≤ q ∧ q ≤ l.length := by
  unfold spec_l1Rd_below.f
  by_cases h : n ≤ 1
  · exact ⟨0, p, by rw [if_pos h], by omega, by omega, h0, h1⟩
  · rw [if_neg h]
    obtain ⟨c, q, hc, c0, c1, q0, q1⟩ := next_ok hb hm p h0 h1
    by_cases h2 : n ≤ 256
    · refine ⟨c % n, q, ?_, Int.emod_nonneg _ (by omega), Int.emod_lt_of_pos _ (by omega), q0, q1⟩
      rw [if_pos h2, hc]; simp only [Option.bind_some]; rw [if_neg (by omega), Int.tmod_eq_emod_of_nonneg c0]
    · obtain ⟨d, q', hd, d0, d1, q0', q1'⟩ := next_ok hb hm q q0 q1
      have e : wrap64 (wrap64 (c * 256) + d) = c * 256 + d := by unfold wrap64; omega
      refine ⟨(c * 256 + d) % n, q', ?_, Int.emod_nonneg _ (by omega), Int.emod_lt_of_pos _ (by omega), q0', q1'⟩
      rw [if_neg h2, hc]; simp only [Option.bind_some]; rw [hd]; simp only [Option.bind_some]; rw [if_neg (by omega), e, Int.tmod_eq_emod_of_nonneg (by omega)]
include hb hm in
theorem once_ok (p n : Int) (h0 : 0 ≤ p) (h1 : p ≤ l.length) (n0 : 1 ≤ n) (n1 : n ≤ 1000000) : ∃ b q, spec_l1Rd_once.f l p n = some (b, q) ∧ 0 ≤ q ∧ q ≤ l.length := by
  unfold spec_l1Rd_once.f
  obtain ⟨c, q, hc, c0, c1, q0, q1⟩ := below_ok hb hm p n h0 h1 n0 n1
  exact ⟨_, q, by rw [hc]; rfl, q0, q1⟩
theorem or_u64_range (x y : Int) : 0 ≤ Go.bits .or .u64 x y ∧ Go.bits .or .u64 x y ≤ 18446744073709551615 := by
  simp only [Go.bits, IntKind.wrap_u64]; omega
include hb hm in
theorem word_loop (d : Nat) : ∀ (x j p : Int), j + d = 8 → 0 ≤ j → 0 ≤ x → x ≤ 18446744073709551615 → 0 ≤ p → p ≤ l.length → ∃ r q, Ev (fun k => spec_l1Rd_word.l0 k x j l p) (r, q) ∧ 0 ≤ r ∧ r ≤ 18446744073709551615 ∧ 0 ≤ q ∧ q ≤ l.length := by
  induction d with
  | zero =>
    intro x j p hj hj0 x0 x1 h0 h1
    refine ⟨x, p, Ev.step (f := fun _ => some (x, p)) (fun k => ?_) (Ev.now _), x0, x1, h0, h1⟩
    simp only [spec_l1Rd_word.l0]; rw [if_neg (by omega)]
  | succ d ih =>
    intro x j p hj hj0 x0 x1 h0 h1
    obtain ⟨c, q, hc, c0, c1, q0, q1⟩ := next_ok hb hm p h0 h1
    obtain ⟨r0, r1⟩ := or_u64_range (IntKind.u64.wrap (x * 256)) (IntKind.u64.wrap c)
    obtain ⟨r, q', hr, h⟩ := ih _ (j + 1) q (by omega) (by omega) r0 r1 q0 q1
    refine ⟨r, q', Ev.step (f := fun k => spec_l1Rd_word.l0 k (Go.bits .or .u64 (IntKind.u64.wrap (x * 256)) (IntKind.u64.wrap c)) (j + 1) l q) (fun k => ?_) hr, h⟩
    simp only [spec_l1Rd_word.l0]; rw [if_pos (by omega), hc]; simp only [Option.bind_some]
    rw [show wrap64 (j + 1) = j + 1 by unfold wrap64; omega]
include hb hm in
theorem word_ok (p : Int) (h0 : 0 ≤ p) (h1 : p ≤ l.length) : ∃ r q, Ev (fun k => spec_l1Rd_word.f k l p) (r, q) ∧ 0 ≤ r ∧ r ≤ 18446744073709551615 ∧ 0 ≤ q ∧ q ≤ l.length := by
  unfold spec_l1Rd_word.f
  exact word_loop hb hm 8 0 0 p (by omega) (by omega) (by omega) (by omega) h0 h1
include hb hm in
theorem near_ok (p lo hi : Int) (h0 : 0 ≤ p) (h1 : p ≤ l.length) (b0 : -4611686018427387904 ≤ lo) (b1 : lo ≤ hi) (b2 : hi ≤ 4611686018427387903) :
    ∃ r q, Ev (fun k => spec_l1Rd_near.f k l p lo hi) (r, q) ∧ lo ≤ r ∧ r ≤ hi ∧ 0 ≤ q ∧ q ≤ l.length := by
  unfold spec_l1Rd_near.f
  obtain ⟨c, q, hc, c0, c1, q0, q1⟩ := below_ok hb hm p 8 h0 h1 (by omega) (by omega)
  simp only [hc, Option.bind_some]
  by_cases z0 : c = 0
  · exact ⟨lo, q, by simp only [if_pos z0]; exact Ev.now _, by omega, by omega, q0, q1⟩
  by_cases z1 : c = 1
  · exact ⟨hi, q, by simp only [if_neg z0, if_pos z1]; exact Ev.now _, by omega, by omega, q0, q1⟩
  obtain ⟨r, q', hr, r0, r1, q0', q1'⟩ := word_ok hb hm q q0 q1
  have e1 : IntKind.u64.wrap (wrap64 (wrap64 (hi - lo) + 1)) = hi - lo + 1 := by rw [IntKind.wrap_u64]; unfold wrap64; omega
  have m0 : 0 ≤ (r / 2) % (hi - lo + 1) := Int.emod_nonneg _ (by omega)
  have m1 : (r / 2) % (hi - lo + 1) < hi - lo + 1 := Int.emod_lt_of_pos _ (by omega)
  have e2 : wrap64 (lo + wrap64 (Int.tmod (r / 2) (hi - lo + 1))) = lo + (r / 2) % (hi - lo + 1) := by
    rw [Int.tmod_eq_emod_of_nonneg (by omega)]; unfold wrap64; omega
  refine ⟨lo + (r / 2) % (hi - lo + 1), q', ?_, by omega, by omega, q0', q1'⟩
  simp only [if_neg z0, if_neg z1, if_neg (show ¬ hi < lo by omega), e1, if_neg (show ¬ hi - lo + 1 = 0 by omega)]
  refine Ev.bind hr ?_
  simp only [e2]; exact Ev.now _
include hb hm in
theorem off_ok (p lo hi : Int) (h0 : 0 ≤ p) (h1 : p ≤ l.length) (b0 : -4611686018427387904 ≤ lo) (b1 : lo ≤ hi) (b2 : hi ≤ 4611686018427387903) :
    ∃ r q, Ev (fun k => spec_l1Rd_off.f k l p lo hi) (r, q) ∧ -9223372036854775808 ≤ r ∧ r ≤ 9223372036854775807 ∧ 0 ≤ q ∧ q ≤ l.length := by
  unfold spec_l1Rd_off.f
  obtain ⟨b, q, hc, q0, q1⟩ := once_ok hb hm p 24 h0 h1 (by omega) (by omega)
  simp only [hc, Option.bind_some]
  cases b with
  | true =>
    obtain ⟨c, q', hd, c0, c1, q0', q1'⟩ := below_ok hb hm q 4 q0 q1 (by omega) (by omega)
    simp only [hd, Option.bind_some, if_true]
    rw [if_pos c0, if_pos (by simp; omega)]
    refine ⟨_, q', Ev.now _, ?_, ?_, q0', q1'⟩
    all_goals
      have : c = 0 ∨ c = 1 ∨ c = 2 ∨ c = 3 := by omega
      rcases this with rfl | rfl | rfl | rfl <;> simp [rd] <;> unfold wrap64 <;> omega
  | false =>
    obtain ⟨r, q', hr, r0, r1, q0', q1'⟩ := near_ok hb hm q lo hi q0 q1 b0 b1 b2
    refine ⟨r, q', ?_, by omega, by omega, q0', q1'⟩
    simp only [Bool.false_eq_true, if_false]
    exact Ev.bind hr (Ev.now _)
include hb hm in
theorem drawRotate_ok : ∃ x n, Ev (fun k => spec_DrawRotate.f k l) (x, n) ∧ 0 ≤ x ∧ x < 4294967296 ∧ -9223372036854775808 ≤ n ∧ n ≤ 9223372036854775807 := by
  unfold spec_DrawRotate.f spec_l1Open.f
  simp only [Option.bind_some]
  obtain ⟨r, q, hr, r0, r1, q0, q1⟩ := word_ok hb hm 0 (by omega) (by omega)
  obtain ⟨n, q', hn, n0, n1, _⟩ := off_ok hb hm q (-40) 70 q0 q1 (by omega) (by omega) (by omega)
  exact ⟨_, n, Ev.bind hr (Ev.bind hn (Ev.now _)), by omega, by omega, n0, n1⟩
end
end RotatedOf
open RotatedOf

theorem FnRotated : laws_FnRotated.Pure := by
  intro l hm hs hb
  refine Ev.rounds (g := fun k => laws_FnRotated.f k l) ?_
  obtain ⟨x, n, hd, x0, x1, n0, n1⟩ := drawRotate_ok hb (by omega)
  unfold laws_FnRotated.f laws_big.f
  simp only [Option.bind_some]
  by_cases h0 : decide ((l.length : Int) > 1048576) = true
  · simp only [if_pos h0]; exact Ev.now _
  simp only [if_neg h0]
  refine Ev.bind hd ?_
  have R : ∀ y m : Int, 0 ≤ y → y < 4294967296 → -9223372036854775808 ≤ m → m ≤ 9223372036854775807 → impl_Rotate.f y m = some (rotr y (m % 32).toNat) := fun y m a b c d => by
    unfold impl_Rotate.f; rw [impl_rot y m a b c d]; rfl
  have yr := rotr_range x (n % 32).toNat x0 x1 (by omega)
  simp only [R x n x0 x1 n0 n1, spec_rot x n x0 x1, Option.bind_some, if_true]
  have jt : Ev (fun k => laws_FnRotated.j0 k x n (rotr x (n % 32).toNat) true) true := by
    refine Ev.step (f := fun _ => some true) (fun k => ?_) (Ev.now _)
    simp only [laws_FnRotated.j0, if_true]; rw [spec_rot x n x0 x1]; simp
  by_cases c1 : n < -1000
  · simp only [if_pos c1]; exact jt
  simp only [if_neg c1]
  by_cases c2 : n > 1000
  · simp only [c2, decide_true]; exact jt
  simp only [c2, decide_false]
  refine Ev.step (f := fun _ => some true) (fun k => ?_) (Ev.now _)
  simp only [laws_FnRotated.j0, Bool.false_eq_true, if_false]
  have e1 : wrap64 (-n) = -n := by unfold wrap64; omega
  have e2 : wrap64 (n + 7) = n + 7 := by unfold wrap64; omega
  rw [e1, e2, R _ (-n) yr.1 yr.2 (by omega) (by omega), R _ 7 yr.1 yr.2 (by omega) (by omega), R x (n + 7) x0 x1 (by omega) (by omega), R x 32 x0 x1 (by omega) (by omega)]
  simp only [Option.bind_some]
  have b1 := rotr_back x (n % 32).toNat (by omega) x0 x1
  rw [show (32 - (n % 32).toNat) % 32 = ((-n) % 32).toNat by omega] at b1
  have b2 := rotr_seven x (n % 32).toNat (by omega) x0 x1
  rw [show ((n % 32).toNat + 7) % 32 = ((n + 7) % 32).toNat by omega] at b2
  rw [b1, show ((7 : Int) % 32).toNat = 7 by rfl, b2, show ((32 : Int) % 32).toNat = 0 by rfl, rotr_zero]
  simp

end Go.Proofs.Ytlodhcmbonljgaa.Pure
