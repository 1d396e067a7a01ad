import Derived.Test.YtjcejdajbapliaaNumFnNumbers
/-! A number read from its bytes: the plain side. -/
namespace Go.Proofs.Ytjcejdajbapliaa.Take
open Go.RowKit Go.Proofs.YtjcejdajbapliaaW.PrintWords Go.Proofs.YtjcejdajbapliaaW.PrintLast Go.Proofs.YtjcejdajbapliaaW.PrintMore Go.Proofs.Ytjcejdajbapliaa.Bits Go.Proofs.Ytjcejdajbapliaa.Num
set_option linter.unusedSimpArgs false
set_option linter.unusedVariables false

/-- What a digit counts at place i. -/
def p7 : Nat → Int
  | 0 => 1
  | i + 1 => p7 i * 128
theorem p7_is (i : Nat) : p7 i = 2 ^ (7 * i) := by
  induction i with
  | zero => rfl
  | succ i ih => rw [p7, ih, show 7 * (i + 1) = 7 * i + 7 by omega, Int.pow_add]; rfl

/-- What is read: a number and how many bytes it took; at most f bytes more, i are read already. -/
def takeL : Nat → Nat → Int → List Int → Option (Int × Nat)
  | 0, _, _, _ => none
  | _ + 1, _, _, [] => none
  | f + 1, i, n, c :: l => if 128 ≤ c then takeL f (i + 1) (n + c % 128 * p7 i) l
      else if (c = 0 ∧ 0 < i) ∨ 1000000000000 < n + c % 128 * p7 i then none else some (n + c % 128 * p7 i, i + 1)
/-- The answer of TakeNumber. -/
def takeR (s : ByteArray) : Option (Int × Nat) → Int × ByteArray × Bool
  | none => (0, ⟨#[]⟩, false)
  | some (n, i) => (n, s.extract i s.size, true)
def takeM (s : ByteArray) : Int × ByteArray × Bool := takeR s (takeL 6 0 0 (bytesOf s))
/-- The answer of TakeText. -/
def takeTextM (s : ByteArray) : ByteArray × ByteArray × Bool :=
  if (takeM s).2.2 = true ∧ (takeM s).1 ≤ 20000 ∧ (takeM s).1 ≤ ((takeM s).2.1.size : Int) then
    ((takeM s).2.1.extract 0 (takeM s).1.toNat, (takeM s).2.1.extract (takeM s).1.toNat (takeM s).2.1.size, true) else (⟨#[]⟩, ⟨#[]⟩, false)

theorem p7_range (i : Nat) (h : i ≤ 5) : 1 ≤ p7 i ∧ p7 i ≤ 34359738368 := by
  rw [p7_is]
  have : i = 0 ∨ i = 1 ∨ i = 2 ∨ i = 3 ∨ i = 4 ∨ i = 5 := by omega
  rcases this with rfl | rfl | rfl | rfl | rfl | rfl <;> decide
theorem p7_pos (i : Nat) : 0 < p7 i := by rw [p7_is]; exact Int.pow_pos (by decide)
theorem p7_zero : p7 0 = 1 := rfl
theorem p7_succ (i : Nat) : p7 (i + 1) = p7 i * 128 := rfl
theorem wraps_i64 (n : Int) (h₀ : 0 ≤ n) (h₁ : n < 2 ^ 63) : IntKind.i64.wrap n = n := by
  rw [IntKind.wrap_i64]; omega
theorem digit_le (i : Nat) (n c : Int) (h : i ≤ 5) (hn0 : 0 ≤ n) (hn : n < p7 i) :
    0 ≤ c % 128 * p7 i ∧ c % 128 * p7 i ≤ 4363686772736 ∧ n + c % 128 * p7 i < p7 (i + 1) := by
  obtain ⟨p1, p2⟩ := p7_range i h
  rw [p7_succ]
  generalize p7 i = b at *
  have c0 : 0 ≤ c % 128 := by omega
  have c1 : c % 128 ≤ 127 := by omega
  generalize c % 128 = d at *
  have h1 : 0 ≤ d * b := Int.mul_nonneg c0 (by omega)
  have h2 : d * b ≤ 127 * b := Int.mul_le_mul_of_nonneg_right c1 (by omega)
  generalize d * b = e at *
  omega
/-- One digit more, by 'or' and a shift. -/
theorem or_digit (i : Nat) (n c : Int) (h : i ≤ 5) (hn0 : 0 ≤ n) (hn : n < p7 i) (hc : 0 ≤ c) :
    Go.bits .or .i64 n (shl .i64 (Int.tmod c 128) (wrap64 (7 * (i : Int)))) = n + c % 128 * p7 i := by
  obtain ⟨p1, p2⟩ := p7_range i h
  obtain ⟨d1, d2, d3⟩ := digit_le i n c h hn0 hn
  have e1 : wrap64 (7 * (i : Int)) = ((7 * i : Nat) : Int) := by unfold wrap64; omega
  have e2 : shl .i64 (Int.tmod c 128) (wrap64 (7 * (i : Int))) = c % 128 * p7 i := by
    unfold shl
    rw [e1, Int.toNat_natCast, Int.tmod_eq_emod_of_nonneg hc, show min (7 * i) IntKind.i64.bits = 7 * i by simp [IntKind.bits]; omega]
    rw [← p7_is]; exact wraps_i64 _ d1 (Int.lt_of_le_of_lt d2 (by decide))
  have m0 : c % 128 * p7 i % 2 ^ (7 * i) = 0 := by rw [p7_is]; exact Int.mul_emod_left _ _
  have n1 : n < 2 ^ (7 * i) := by rw [← p7_is]; exact hn
  have n2 : n < 2 ^ 63 := Int.lt_of_lt_of_le hn (Int.le_trans p2 (by decide))
  rw [e2, bits_or_comm, bits_join .i64 63 (by decide) wraps_i64 (7 * i) _ _ d1 m0 (Int.lt_of_le_of_lt d2 (by decide)) hn0 n1 n2]
  exact Int.add_comm _ _
end Go.Proofs.Ytjcejdajbapliaa.Take
