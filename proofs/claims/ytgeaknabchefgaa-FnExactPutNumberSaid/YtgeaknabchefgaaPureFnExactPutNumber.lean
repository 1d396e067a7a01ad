/- For every number the program's PutNumber returns what the reference's returns. No condition but that the number is of its kind. -/
import Derived.Test.YtgeaknabchefgaaPFnExactPutNumberx1
import Derived.Test.YtgeaknabchefgaaNum
namespace Go.Proofs.Ytgeaknabchefgaa.Pure
open Go.RowKit Go.Proofs.Ytgeaknabchefgaa.PFnExactPutNumber Go.Proofs.YtgeaknabchefgaaW.PrintWords Go.Proofs.YtgeaknabchefgaaW.PrintLast Go.Proofs.YtgeaknabchefgaaW.PrintMore Go.Proofs.Ytgeaknabchefgaa.Bits Go.Proofs.Ytgeaknabchefgaa.Num
namespace PutNumberOf
theorem l1In_eq (a b c : Int) : spec_l1In.f a b c = some (decide (b ≤ a ∧ a ≤ c)) := by
  unfold spec_l1In.f
  by_cases h : a ≥ b
  · rw [if_pos h]; simp [h]
  · rw [if_neg h]; simp [h]
theorem spec_put_loop (f : Nat) : ∀ (n : Int) (xs : List Int), 0 ≤ n → n < 128 ^ (f + 1) → n ≤ 1000000000000 → xs.length + f < 1000000 → Ev (fun k => spec_PutNumber.l0 k n xs) (strOfNums (xs ++ putN f n)) := by
  induction f with
  | zero =>
    intro n xs h0 h1 _ hx
    refine Ev.step (f := fun _ => some (strOfNums (xs ++ [n]))) (fun k => ?_) (Ev.now _)
    simp only [spec_PutNumber.l0]; rw [if_neg (by omega), if_pos (by omega), show n % 256 = n by omega]
  | succ f ih =>
    intro n xs h0 h1 h2 hx
    by_cases h : 128 ≤ n
    · refine Ev.step (f := fun k => spec_PutNumber.l0 k (n / 128) (xs ++ [n % 128 + 128])) (fun k => ?_) ?_
      · simp only [spec_PutNumber.l0]; rw [if_pos h, if_pos (by omega), tdiv128 n h0 (by omega), tmod128 n h0]
      · have := ih (n / 128) (xs ++ [n % 128 + 128]) (by omega) (by rw [Int.pow_succ] at h1; omega) (by omega) (by simp; omega)
        simpa [putN, h] using this
    · refine Ev.step (f := fun _ => some (strOfNums (xs ++ [n]))) (fun k => ?_) ?_
      · simp only [spec_PutNumber.l0]; rw [if_neg (by omega), if_pos (by omega), show n % 256 = n by omega]
      · simpa [putN, h] using Ev.now (strOfNums (xs ++ [n]))
theorem spec_put (n : Int) (h0 : 0 ≤ n) (h1 : n ≤ 1000000000000) : Ev (fun k => spec_PutNumber.f k n) (strOfNums (putN 5 n)) := by
  refine Ev.congr (f := fun k => spec_PutNumber.l0 k n []) (fun k => ?_) (spec_put_loop 5 n [] h0 (by omega) h1 (by simp))
  unfold spec_PutNumber.f; rw [l1In_eq]; simp [h0, h1]
theorem spec_put_not (n : Int) (h : ¬ (0 ≤ n ∧ n ≤ 1000000000000)) : Ev (fun k => spec_PutNumber.f k n) (⟨#[]⟩ : ByteArray) := by
  refine Ev.congr (f := fun k => some (⟨#[]⟩ : ByteArray)) (fun k => ?_) (Ev.now _)
  unfold spec_PutNumber.f; rw [l1In_eq]; simp only [Option.bind_some]; rw [if_neg (by simpa using h)]
theorem impl_put_loop (f : Nat) : ∀ (n : Int) (xs : List Int), 0 ≤ n → n < 128 ^ (f + 1) → n ≤ 1000000000000 → xs.length + f < 1000000 → Ev (fun k => impl_putNumber.l0 k n xs) (strOfNums (xs ++ putN f n)) := by
  induction f with
  | zero =>
    intro n xs h0 h1 _ hx
    refine Ev.step (f := fun _ => some (strOfNums (xs ++ [n]))) (fun k => ?_) (Ev.now _)
    simp only [impl_putNumber.l0]; rw [if_neg (by omega), if_pos (by omega), show n % 256 = n by omega]
  | succ f ih =>
    intro n xs h0 h1 h2 hx
    by_cases h : 128 ≤ n
    · refine Ev.step (f := fun k => impl_putNumber.l0 k (n / 128) (xs ++ [n % 128 + 128])) (fun k => ?_) ?_
      · simp only [impl_putNumber.l0]; rw [if_pos h, if_pos (by omega), tdiv128 n h0 (by omega), tmod128 n h0]
      · have := ih (n / 128) (xs ++ [n % 128 + 128]) (by omega) (by rw [Int.pow_succ] at h1; omega) (by omega) (by simp; omega)
        simpa [putN, h] using this
    · refine Ev.step (f := fun _ => some (strOfNums (xs ++ [n]))) (fun k => ?_) ?_
      · simp only [impl_putNumber.l0]; rw [if_neg (by omega), if_pos (by omega), show n % 256 = n by omega]
      · simpa [putN, h] using Ev.now (strOfNums (xs ++ [n]))
theorem impl_put (n : Int) (h0 : 0 ≤ n) (h1 : n ≤ 1000000000000) : Ev (fun k => impl_putNumber.f k n) (strOfNums (putN 5 n)) := by
  refine Ev.congr (f := fun k => impl_putNumber.l0 k n []) (fun k => ?_) (impl_put_loop 5 n [] h0 (by omega) h1 (by simp))
  unfold impl_putNumber.f; rfl
theorem isNumber_eq (a : Int) : impl_isNumber.f a = some (decide (0 ≤ a ∧ a ≤ 1000000000000)) := by
  unfold impl_isNumber.f impl_in.f
  by_cases h : a ≥ 0
  · rw [if_pos h]; simp [h]
  · rw [if_neg h]; simp [h]
theorem impl_Put (n : Int) (h0 : 0 ≤ n) (h1 : n ≤ 1000000000000) : Ev (fun k => impl_PutNumber.f k n) (strOfNums (putN 5 n)) := by
  refine Ev.congr (f := fun k => (impl_putNumber.f k n).bind fun t => some t) (fun k => ?_) (Ev.bind (impl_put n h0 h1) (Ev.now _))
  unfold impl_PutNumber.f; rw [isNumber_eq]; simp [h0, h1]
theorem impl_Put_not (n : Int) (h : ¬ (0 ≤ n ∧ n ≤ 1000000000000)) : Ev (fun k => impl_PutNumber.f k n) (⟨#[]⟩ : ByteArray) := by
  refine Ev.congr (f := fun k => some (⟨#[]⟩ : ByteArray)) (fun k => ?_) (Ev.now _)
  unfold impl_PutNumber.f; rw [isNumber_eq]; simp only [Option.bind_some]; rw [if_neg (by simpa using h)]
end PutNumberOf
open PutNumberOf

theorem FnExactPutNumber : laws_FnExactPutNumber.Pure := by
  intro n _
  refine Ev.rounds (g := fun k => laws_FnExactPutNumber.f k n) ?_
  unfold laws_FnExactPutNumber.f
  by_cases h : 0 ≤ n ∧ n ≤ 1000000000000
  · refine Ev.bind (spec_put n h.1 h.2) (Ev.bind (impl_Put n h.1 h.2) ?_)
    simp only [if_true]; exact Ev.now _
  · refine Ev.bind (spec_put_not n h) (Ev.bind (impl_Put_not n h) ?_)
    simp only [if_true]; exact Ev.now _

end Go.Proofs.Ytgeaknabchefgaa.Pure
