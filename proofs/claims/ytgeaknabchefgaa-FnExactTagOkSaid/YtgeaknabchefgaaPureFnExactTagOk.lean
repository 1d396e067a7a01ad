/- For every text the program's TagOk returns what the reference's returns. No condition but the size that the model lets a text have. -/
import Derived.Test.YtgeaknabchefgaaPFnExactTagOkx2
import Derived.Test.YtgeaknabchefgaaNum
namespace Go.Proofs.Ytgeaknabchefgaa.Pure
open Go.RowKit Go.Proofs.Ytgeaknabchefgaa.PFnExactTagOk Go.Proofs.YtgeaknabchefgaaW.PrintWords Go.Proofs.YtgeaknabchefgaaW.PrintLast Go.Proofs.YtgeaknabchefgaaW.PrintMore Go.Proofs.Ytgeaknabchefgaa.Bits Go.Proofs.Ytgeaknabchefgaa.Num
set_option linter.unusedSimpArgs false
set_option linter.unusedVariables false
namespace TagOkOf
theorem l3Low_eq (c : Int) : spec_l3Low.f c = some (lowByte c) := by
  unfold spec_l3Low.f spec_l1Digit.f lowByte
  by_cases h1 : c ≥ 48 <;> by_cases h2 : c ≤ 57 <;> by_cases h3 : c ≥ 97 <;> by_cases h4 : c ≤ 122 <;> simp [h1, h2, h3, h4] <;> omega
theorem spec_tag_loop (s : ByteArray) (hs : s.size ≤ 140737488351232) (d : Nat) : ∀ i : Nat, i + d = s.size → Ev (fun k => spec_TagOk.l0 k s (i : Int)) (((bytesOf s).drop i).all tagByte) := by
  induction d with
  | zero =>
    intro i hi
    rw [List.drop_eq_nil_of_le (by rw [bytesOf_length]; omega)]
    refine Ev.step (f := fun _ => some true) (fun k => ?_) (Ev.now _)
    simp only [spec_TagOk.l0]; rw [if_neg (by omega)]
  | succ d ih =>
    intro i hi
    have hlt : i < s.size := by omega
    rw [drop_bytes s i hlt]
    refine Ev.step (f := fun k => if tagByte (bt s i) = true then spec_TagOk.l0 k s ((i + 1 : Nat) : Int) else some false) (fun k => ?_) ?_
    · simp only [spec_TagOk.l0]; rw [if_pos (by omega), if_pos (by omega), l3Low_eq]; simp only [Option.bind_some]
      rw [wrap_succ i _ hlt hs]; exact tag_ifs _ _ _
    · by_cases h : tagByte (bt s i) = true
      · simp only [if_pos h, List.all_cons, h, Bool.true_and]; exact ih (i + 1) (by omega)
      · simp only [if_neg h, List.all_cons, h, Bool.false_and]; exact Ev.now _
theorem spec_tag (s : ByteArray) (hs : s.size ≤ 140737488351232) : Ev (fun k => spec_TagOk.f k s) (tagOk s) := by
  have j1 : ∀ b : Bool, Ev (fun k => spec_TagOk.j0 k s b) (if b = true then false else (bytesOf s).all tagByte) := by
    intro b
    refine Ev.step (f := fun k => if b = true then some false else spec_TagOk.l0 k s 0) (fun k => by simp only [spec_TagOk.j0]) ?_
    cases b with
    | true => exact Ev.now _
    | false => exact spec_tag_loop s hs s.size 0 (by omega)
  unfold spec_TagOk.f tagOk
  by_cases h1 : (s.size : Int) < 1
  · simp only [if_pos h1, show ¬ (1 ≤ s.size) by omega, decide_false, Bool.false_and]; exact j1 true
  · simp only [if_neg h1, show (1 ≤ s.size) by omega, decide_true, Bool.true_and]
    by_cases h2 : (s.size : Int) > 128
    · simp only [if_pos h2, show ¬ (s.size ≤ 128) by omega, decide_false, Bool.false_and]; exact j1 true
    · simp only [if_neg h2, show (s.size ≤ 128) by omega, decide_true, Bool.true_and, show 0 < (s.size : Int) by omega, if_true]
      by_cases h3 : bt s 0 = 46
      · simp only [if_pos h3, h3, beq_self_eq_true, Bool.not_true, Bool.false_and]; exact j1 true
      · simp only [if_neg h3, show (bt s 0 == 46) = false by simpa using h3, Bool.not_false, Bool.true_and]
        have := j1 (bt s 0 == 45)
        by_cases h4 : (bt s 0 == 45) = true
        · simpa [h4] using this
        · simpa [h4] using this
theorem wordByte_eq (c : Int) : impl_isWordByte.f c = some (lowByte c) := by
  unfold impl_isWordByte.f lowByte
  by_cases h1 : c ≥ 48 <;> by_cases h2 : c ≤ 57 <;> by_cases h3 : c ≥ 97 <;> by_cases h4 : c ≤ 122 <;> simp [h1, h2, h3, h4] <;> omega
theorem impl_tag_loop (s : ByteArray) (hs : s.size ≤ 140737488351232) (d : Nat) : ∀ i : Nat, i + d = s.size → Ev (fun k => impl_isTag.l0 k s (s.size : Int) (i : Int)) (((bytesOf s).drop i).all tagByte) := by
  induction d with
  | zero =>
    intro i hi
    rw [List.drop_eq_nil_of_le (by rw [bytesOf_length]; omega)]
    refine Ev.step (f := fun _ => some true) (fun k => ?_) (Ev.now _)
    simp only [impl_isTag.l0]; rw [if_neg (by omega)]
  | succ d ih =>
    intro i hi
    have hlt : i < s.size := by omega
    rw [drop_bytes s i hlt]
    refine Ev.step (f := fun k => if tagByte (bt s i) = true then impl_isTag.l0 k s (s.size : Int) ((i + 1 : Nat) : Int) else some false) (fun k => ?_) ?_
    · simp only [impl_isTag.l0]; rw [if_pos (by omega), if_pos (by omega), if_pos (by omega), wordByte_eq]; simp only [Option.bind_some]
      rw [wrap_succ i _ hlt hs]; exact tag_ifs _ _ _
    · by_cases h : tagByte (bt s i) = true
      · simp only [if_pos h, List.all_cons, h, Bool.true_and]; exact ih (i + 1) (by omega)
      · simp only [if_neg h, List.all_cons, h, Bool.false_and]; exact Ev.now _
theorem impl_tag (s : ByteArray) (hs : s.size ≤ 140737488351232) : Ev (fun k => impl_isTag.f k s) (tagOk s) := by
  have j1 : ∀ b : Bool, Ev (fun k => impl_isTag.j0 k s b) (if b = true then false else (bytesOf s).all tagByte) := by
    intro b
    refine Ev.step (f := fun k => if b = true then some false else impl_isTag.l0 k s (s.size : Int) 0) (fun k => by simp only [impl_isTag.j0]) ?_
    cases b with
    | true => exact Ev.now _
    | false => exact impl_tag_loop s hs s.size 0 (by omega)
  unfold impl_isTag.f tagOk
  by_cases h1 : (s.size : Int) < 1
  · simp only [if_pos h1, show ¬ (1 ≤ s.size) by omega, decide_false, Bool.false_and]; exact j1 true
  · simp only [if_neg h1, show (1 ≤ s.size) by omega, decide_true, Bool.true_and]
    by_cases h2 : (s.size : Int) > 128
    · simp only [if_pos h2, show ¬ (s.size ≤ 128) by omega, decide_false, Bool.false_and]; exact j1 true
    · simp only [if_neg h2, show (s.size ≤ 128) by omega, decide_true, Bool.true_and, show 0 < (s.size : Int) by omega, if_true]
      by_cases h3 : bt s 0 = 46
      · simp only [if_pos h3, h3, beq_self_eq_true, Bool.not_true, Bool.false_and]; exact j1 true
      · simp only [if_neg h3, show (bt s 0 == 46) = false by simpa using h3, Bool.not_false, Bool.true_and]
        have := j1 (bt s 0 == 45)
        by_cases h4 : (bt s 0 == 45) = true
        · simpa [h4] using this
        · simpa [h4] using this
end TagOkOf
open TagOkOf

theorem FnExactTagOk : laws_FnExactTagOk.Pure := by
  intro s hs
  refine Ev.rounds (g := fun k => laws_FnExactTagOk.f k s) ?_
  unfold laws_FnExactTagOk.f
  by_cases h0 : (s.size : Int) > 1048576
  · simp only [if_pos h0]; exact Ev.now _
  · simp only [if_neg h0]
    refine Ev.bind (spec_tag s hs) (Ev.bind (a := tagOk s) ?_ ?_)
    · unfold impl_TagOk.f; exact Ev.bind (impl_tag s hs) (Ev.now _)
    · simp only [bne_self_eq_false, Bool.false_eq_true, if_false]; exact Ev.now _

end Go.Proofs.Ytgeaknabchefgaa.Pure
