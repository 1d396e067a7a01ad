/- For every text the program's PutText returns what the reference's returns. No condition but the size that the model lets a text have. -/
import Derived.Test.YtgeaknabchefgaaPFnExactPutTextx1
import Derived.Test.YtgeaknabchefgaaNum
namespace Go.Proofs.Ytgeaknabchefgaa.Pure
open Go.RowKit Go.Proofs.Ytgeaknabchefgaa.PFnExactPutText Go.Proofs.YtgeaknabchefgaaW.PrintWords Go.Proofs.YtgeaknabchefgaaW.PrintLast Go.Proofs.YtgeaknabchefgaaW.PrintMore Go.Proofs.Ytgeaknabchefgaa.Bits Go.Proofs.Ytgeaknabchefgaa.Num
namespace PutTextOf
theorem l1In_eq (a b c : Int) : spec_l1In.f a b c = some (decide (b ≤ a ∧ a ≤ c)) := by
  unfold spec_l1In.f
  by_cases h : a ≥ b
  · rw [if_pos h]; simp [h]
  · rw [if_neg h]; simp [h]
theorem spec_put_loop (f : Nat) : ∀ (n : Int) (xs : List Int), 0 ≤ n → n < 128 ^ (f + 1) → n ≤ 1000000000000 → xs.length + f < 1000000 → Ev (fun k => spec_PutNumber.l0 k n xs) (strOfNums (xs ++ putN f n)) := by
  induction f with
  | zero =>
    intro n xs h0 h1 _ hx
    refine Ev.step (f := fun _ => some (strOfNums (xs ++ [n]))) (fun k => ?_) (Ev.now _)
    simp only [spec_PutNumber.l0]; rw [if_neg (by omega), if_pos (by omega), show n % 256 = n by omega]
  | succ f ih =>
    intro n xs h0 h1 h2 hx
    by_cases h : 128 ≤ n
    · refine Ev.step (f := fun k => spec_PutNumber.l0 k (n / 128) (xs ++ [n % 128 + 128])) (fun k => ?_) ?_
      · simp only [spec_PutNumber.l0]; rw [if_pos h, if_pos (by omega), tdiv128 n h0 (by omega), tmod128 n h0]
      · have := ih (n / 128) (xs ++ [n % 128 + 128]) (by omega) (by rw [Int.pow_succ] at h1; omega) (by omega) (by simp; omega)
        simpa [putN, h] using this
    · refine Ev.step (f := fun _ => some (strOfNums (xs ++ [n]))) (fun k => ?_) ?_
      · simp only [spec_PutNumber.l0]; rw [if_neg (by omega), if_pos (by omega), show n % 256 = n by omega]
      · simpa [putN, h] using Ev.now (strOfNums (xs ++ [n]))
theorem spec_put (n : Int) (h0 : 0 ≤ n) (h1 : n ≤ 1000000000000) : Ev (fun k => spec_PutNumber.f k n) (strOfNums (putN 5 n)) := by
  refine Ev.congr (f := fun k => spec_PutNumber.l0 k n []) (fun k => ?_) (spec_put_loop 5 n [] h0 (by omega) h1 (by simp))
  unfold spec_PutNumber.f; rw [l1In_eq]; simp [h0, h1]
theorem spec_put_not (n : Int) (h : ¬ (0 ≤ n ∧ n ≤ 1000000000000)) : Ev (fun k => spec_PutNumber.f k n) (⟨#[]⟩ : ByteArray) := by
  refine Ev.congr (f := fun k => some (⟨#[]⟩ : ByteArray)) (fun k => ?_) (Ev.now _)
  unfold spec_PutNumber.f; rw [l1In_eq]; simp only [Option.bind_some]; rw [if_neg (by simpa using h)]
theorem impl_put_loop (f : Nat) : ∀ (n : Int) (xs : List Int), 0 ≤ n → n < 128 ^ (f + 1) → n ≤ 1000000000000 → xs.length + f < 1000000 → Ev (fun k => impl_putNumber.l0 k n xs) (strOfNums (xs ++ putN f n)) := by
  induction f with
  | zero =>
    intro n xs h0 h1 _ hx
    refine Ev.step (f := fun _ => some (strOfNums (xs ++ [n]))) (fun k => ?_) (Ev.now _)
    simp only [impl_putNumber.l0]; rw [if_neg (by omega), if_pos (by omega), show n % 256 = n by omega]
  | succ f ih =>
    intro n xs h0 h1 h2 hx
    by_cases h : 128 ≤ n
    · refine Ev.step (f := fun k => impl_putNumber.l0 k (n / 128) (xs ++ [n % 128 + 128])) (fun k => ?_) ?_
      · simp only [impl_putNumber.l0]; rw [if_pos h, if_pos (by omega), tdiv128 n h0 (by omega), tmod128 n h0]
      · have := ih (n / 128) (xs ++ [n % 128 + 128]) (by omega) (by rw [Int.pow_succ] at h1; omega) (by omega) (by simp; omega)
        simpa [putN, h] using this
    · refine Ev.step (f := fun _ => some (strOfNums (xs ++ [n]))) (fun k => ?_) ?_
      · simp only [impl_putNumber.l0]; rw [if_neg (by omega), if_pos (by omega), show n % 256 = n by omega]
      · simpa [putN, h] using Ev.now (strOfNums (xs ++ [n]))
theorem impl_put (n : Int) (h0 : 0 ≤ n) (h1 : n ≤ 1000000000000) : Ev (fun k => impl_putNumber.f k n) (strOfNums (putN 5 n)) := by
  refine Ev.congr (f := fun k => impl_putNumber.l0 k n []) (fun k => ?_) (impl_put_loop 5 n [] h0 (by omega) h1 (by simp))
  unfold impl_putNumber.f; rfl
theorem spec_putText (s : ByteArray) : Ev (fun k => spec_PutText.f k s) (putTextM s) := by
  unfold spec_PutText.f putTextM
  by_cases h : (s.size : Int) > 20000
  · simp only [if_pos h]; exact Ev.now _
  · simp only [if_neg h]
    refine Ev.bind (spec_put s.size (by omega) (by omega)) ?_
    have := putN_length 5 s.size
    rw [if_pos (by rw [size_strOfNums]; omega)]; exact Ev.now _
theorem impl_putText_eq (s : ByteArray) (h : ¬ (s.size : Int) > 20000) : Ev (fun k => impl_putText.f k s) (putTextM s) := by
  unfold impl_putText.f putTextM
  simp only [if_neg h]
  refine Ev.bind (impl_put s.size (by omega) (by omega)) ?_
  have := putN_length 5 s.size
  rw [if_pos (by rw [size_strOfNums]; omega)]; exact Ev.now _
theorem impl_PutText_eq (s : ByteArray) : Ev (fun k => impl_PutText.f k s) (putTextM s) := by
  unfold impl_PutText.f
  by_cases h : (s.size : Int) > 20000
  · unfold putTextM; simp only [if_pos h]; exact Ev.now _
  · simp only [if_neg h]
    exact Ev.bind (impl_putText_eq s h) (Ev.now _)
end PutTextOf
open PutTextOf

theorem FnExactPutText : laws_FnExactPutText.Pure := by
  intro s _
  refine Ev.rounds (g := fun k => laws_FnExactPutText.f k s) ?_
  unfold laws_FnExactPutText.f
  by_cases h0 : (s.size : Int) > 1048576
  · simp only [if_pos h0]; exact Ev.now _
  · simp only [if_neg h0]
    refine Ev.bind (spec_putText s) (Ev.bind (impl_PutText_eq s) ?_)
    simp only [if_true]; exact Ev.now _

end Go.Proofs.Ytgeaknabchefgaa.Pure
