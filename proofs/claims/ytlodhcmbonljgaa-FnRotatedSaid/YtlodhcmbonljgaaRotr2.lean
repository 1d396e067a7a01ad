import Derived.Test.YtlodhcmbonljgaaBits
/-! Turned twice: for each count by itself. -/
namespace Go.Proofs.Ytlodhcmbonljgaa.Bits
open Go.RowKit Go.Proofs.YtlodhcmbonljgaaW.PrintWords Go.Proofs.YtlodhcmbonljgaaW.PrintLast Go.Proofs.YtlodhcmbonljgaaW.PrintMore
set_option linter.unusedSimpArgs false

theorem below32 {n : Nat} (h : n < 32) : n = 0 ∨ n = 1 ∨ n = 2 ∨ n = 3 ∨ n = 4 ∨ n = 5 ∨ n = 6 ∨ n = 7 ∨ n = 8 ∨ n = 9 ∨ n = 10 ∨ n = 11 ∨ n = 12 ∨ n = 13 ∨ n = 14 ∨ n = 15 ∨ n = 16 ∨ n = 17 ∨ n = 18 ∨ n = 19 ∨ n = 20 ∨ n = 21 ∨ n = 22 ∨ n = 23 ∨ n = 24 ∨ n = 25 ∨ n = 26 ∨ n = 27 ∨ n = 28 ∨ n = 29 ∨ n = 30 ∨ n = 31 := by omega
theorem rotr_back (x : Int) (n : Nat) (h : n < 32) (h0 : 0 ≤ x) (h1 : x < 4294967296) : rotr (rotr x n) ((32 - n) % 32) = x := by
  rcases below32 h with rfl | rfl | rfl | rfl | rfl | rfl | rfl | rfl | rfl | rfl | rfl | rfl | rfl | rfl | rfl | rfl | rfl | rfl | rfl | rfl | rfl | rfl | rfl | rfl | rfl | rfl | rfl | rfl | rfl | rfl | rfl | rfl <;> (simp only [rotr, Nat.reduceSub, Nat.reduceMod, Nat.reducePow, Int.reducePow, Nat.sub_zero, Nat.mod_self, Nat.sub_self]; omega)
theorem rotr_seven (x : Int) (n : Nat) (h : n < 32) (h0 : 0 ≤ x) (h1 : x < 4294967296) : rotr (rotr x n) 7 = rotr x ((n + 7) % 32) := by
  rcases below32 h with rfl | rfl | rfl | rfl | rfl | rfl | rfl | rfl | rfl | rfl | rfl | rfl | rfl | rfl | rfl | rfl | rfl | rfl | rfl | rfl | rfl | rfl | rfl | rfl | rfl | rfl | rfl | rfl | rfl | rfl | rfl | rfl <;> (simp only [rotr, Nat.reduceSub, Nat.reduceAdd, Nat.reduceMod, Nat.reducePow, Int.reducePow, Nat.sub_zero, Nat.mod_self, Nat.sub_self, Nat.zero_add]; omega)
end Go.Proofs.Ytlodhcmbonljgaa.Bits
