/- For every two codes: a drawn number and a drawn text come back from their bytes, whatever stands behind them, and what is read of drawn bytes has just the bytes that it was read from. No condition but the size that the model lets a code have. -/
import Derived.Test.YtjcejdajbapliaaQFnNumbersx
import Derived.Test.YtjcejdajbapliaaNumBackFnNumbers
namespace Go.Proofs.Ytjcejdajbapliaa.Pure
open Go.RowKit Go.Proofs.Ytjcejdajbapliaa.QFnNumbers Go.Proofs.YtjcejdajbapliaaW.PrintWords Go.Proofs.YtjcejdajbapliaaW.PrintLast Go.Proofs.YtjcejdajbapliaaW.PrintMore Go.Proofs.Ytjcejdajbapliaa.Bits Go.Proofs.Ytjcejdajbapliaa.Num Go.Proofs.Ytjcejdajbapliaa.Take Go.Proofs.Ytjcejdajbapliaa.Frame Go.Proofs.Ytjcejdajbapliaa.FrameRead Go.Proofs.Ytjcejdajbapliaa.NumBack
set_option linter.unusedSimpArgs false
set_option linter.unusedVariables false
namespace NumbersOf
theorem spec_take_loop (s : ByteArray) (hs : s.size ≤ 140737488351232) (f : Nat) : ∀ (i : Nat) (n : Int), f + i = 6 → i ≤ s.size → 0 ≤ n → n < p7 i →
    Ev (fun k => spec_TakeNumber.l0 k s n (p7 i) (i : Int)) (takeR s (takeL f i n ((bytesOf s).drop i))) := by
  induction f with
  | zero =>
    intro i n hi hle h0 h1
    have no : Ev (fun k => spec_TakeNumber.j1 k s n (p7 i) (i : Int) false) (takeR s none) :=
      Ev.step (f := fun _ => some (0, ⟨#[]⟩, false)) (fun k => by simp only [spec_TakeNumber.j1, Bool.false_eq_true, if_false]) (Ev.now _)
    by_cases hlt : (i : Int) < (s.size : Int)
    · refine Ev.step (f := fun k => spec_TakeNumber.j1 k s n (p7 i) (i : Int) false) (fun k => ?_) no
      simp only [spec_TakeNumber.l0]; rw [if_pos hlt, show decide ((i : Int) < 6) = false by simp; omega]
    · refine Ev.step (f := fun k => spec_TakeNumber.j1 k s n (p7 i) (i : Int) false) (fun k => ?_) no
      simp only [spec_TakeNumber.l0]; rw [if_neg hlt]
  | succ f ih =>
    intro i n hi hle h0 h1
    by_cases hlt : (i : Int) < (s.size : Int)
    · refine Ev.step (f := fun k => spec_TakeNumber.j1 k s n (p7 i) (i : Int) true) (fun k => ?_) ?_
      · simp only [spec_TakeNumber.l0]; rw [if_pos hlt, show decide ((i : Int) < 6) = true by simp; omega]
      have hlt' : i < s.size := by omega
      obtain ⟨c0, c1⟩ := bt_range s (i : Int)
      rw [drop_bytes s i hlt']
      have f0 : (0 : Int) ≤ (i : Int) := Int.natCast_nonneg i
      have f2 : (0 : Int) ≤ ((i + 1 : Nat) : Int) := Int.natCast_nonneg (i + 1)
      have f3 : ((i + 1 : Nat) : Int) ≤ (s.size : Int) := by omega
      have g1 : f + (i + 1) = 6 := by omega
      have g2 : i + 1 ≤ s.size := hlt'
      have i5 : i ≤ 5 := by omega
      obtain ⟨p1, p2⟩ := p7_range i i5
      obtain ⟨d1, d2, d3⟩ := digit_le i n (bt s i) i5 h0 h1
      have e1 : wrap64 (bt s i) = bt s i := by unfold wrap64; omega
      have e2 : wrap64 (n + wrap64 (Int.tmod (bt s i) 128 * p7 i)) = n + bt s i % 128 * p7 i := by
        rw [Int.tmod_eq_emod_of_nonneg c0]; unfold wrap64; omega
      have e3 : wrap64 (p7 i * 128) = p7 (i + 1) := by rw [p7_succ]; unfold wrap64; omega
      have e4 : wrap64 ((i : Int) + 1) = ((i + 1 : Nat) : Int) := wrap_succ i _ hlt' hs
      by_cases hc : 128 ≤ bt s i
      · refine Ev.step (f := fun k => spec_TakeNumber.l0 k s (n + bt s i % 128 * p7 i) (p7 (i + 1)) ((i + 1 : Nat) : Int)) (fun k => ?_) ?_
        · simp only [spec_TakeNumber.j1, if_true]; rw [if_pos f0, if_pos hlt, e1, e2, e3, e4, if_neg (Int.not_lt.2 hc)]
        · simp only [takeL, if_pos hc]; exact ih (i + 1) _ g1 g2 (Int.add_nonneg h0 d1) d3
      · simp only [takeL, if_neg hc]
        refine Ev.step (f := fun _ => some (takeR s (if (bt s i = 0 ∧ 0 < i) ∨ 1000000000000 < n + bt s i % 128 * p7 i then none else some (n + bt s i % 128 * p7 i, i + 1)))) (fun k => ?_) (Ev.now _)
        simp only [spec_TakeNumber.j1, if_true]; rw [if_pos f0, if_pos hlt, e1, e2, e3, e4, if_pos (Int.not_le.1 hc)]
        rw [if_pos f2, if_pos f3, Int.toNat_natCast]
        clear e1 e2 e3 e4
        have tot : 0 ≤ n + bt s i % 128 * p7 i := Int.add_nonneg h0 d1
        clear d1 d2 d3 p1 p2 h0 h1
        generalize n + bt s i % 128 * p7 i = T at tot ⊢
        by_cases hz : bt s i = 0
        · rw [if_pos hz]
          by_cases hp : 0 < i
          · rw [if_pos (show (i : Int) > 0 by omega), if_pos (.inl ⟨hz, hp⟩)]; rfl
          · rw [if_neg (show ¬ (i : Int) > 0 by omega)]
            by_cases hb : T > 1000000000000
            · rw [if_pos hb, if_pos (.inr hb)]; rfl
            · rw [if_neg hb, if_neg (by omega)]; rfl
        · rw [if_neg hz]
          by_cases hb : T > 1000000000000
          · rw [if_pos hb, if_pos (.inr hb)]; rfl
          · rw [if_neg hb, if_neg (by omega)]; rfl
    · refine Ev.step (f := fun k => spec_TakeNumber.j1 k s n (p7 i) (i : Int) false) (fun k => ?_) ?_
      · simp only [spec_TakeNumber.l0]; rw [if_neg hlt]
      · rw [List.drop_eq_nil_of_le (by rw [bytesOf_length]; omega)]
        exact Ev.step (f := fun _ => some (0, ⟨#[]⟩, false)) (fun k => by simp only [spec_TakeNumber.j1, Bool.false_eq_true, if_false]) (Ev.now _)
theorem spec_take (s : ByteArray) (hs : s.size ≤ 140737488351232) : Ev (fun k => spec_TakeNumber.f k s) (takeM s) := by
  unfold spec_TakeNumber.f
  exact spec_take_loop s hs 6 0 0 rfl (by omega) (by omega) (by decide)
theorem isNumber_eq (a : Int) : impl_isNumber.f a = some (decide (0 ≤ a ∧ a ≤ 1000000000000)) := by
  unfold impl_isNumber.f impl_in.f
  by_cases h : a ≥ 0
  · rw [if_pos h]; simp [h]
  · rw [if_neg h]; simp [h]
theorem impl_take_loop (s : ByteArray) (hs : s.size ≤ 140737488351232) (f : Nat) : ∀ (i : Nat) (n : Int), f + i = 6 → i ≤ s.size → 0 ≤ n → n < p7 i →
    Ev (fun k => impl_takeNumber.l0 k s n (i : Int)) (takeR s (takeL f i n ((bytesOf s).drop i))) := by
  induction f with
  | zero =>
    intro i n hi hle h0 h1
    have no : Ev (fun k => impl_takeNumber.j1 k s n (i : Int) false) (takeR s none) :=
      Ev.step (f := fun _ => some (0, ⟨#[]⟩, false)) (fun k => by simp only [impl_takeNumber.j1, Bool.false_eq_true, if_false]) (Ev.now _)
    by_cases hlt : (i : Int) < (s.size : Int)
    · refine Ev.step (f := fun k => impl_takeNumber.j1 k s n (i : Int) false) (fun k => ?_) no
      simp only [impl_takeNumber.l0]; rw [if_pos hlt, show decide ((i : Int) < 6) = false by simp; omega]
    · refine Ev.step (f := fun k => impl_takeNumber.j1 k s n (i : Int) false) (fun k => ?_) no
      simp only [impl_takeNumber.l0]; rw [if_neg hlt]
  | succ f ih =>
    intro i n hi hle h0 h1
    by_cases hlt : (i : Int) < (s.size : Int)
    · refine Ev.step (f := fun k => impl_takeNumber.j1 k s n (i : Int) true) (fun k => ?_) ?_
      · simp only [impl_takeNumber.l0]; rw [if_pos hlt, show decide ((i : Int) < 6) = true by simp; omega]
      have hlt' : i < s.size := by omega
      obtain ⟨c0, c1⟩ := bt_range s (i : Int)
      rw [drop_bytes s i hlt']
      have f0 : (0 : Int) ≤ (i : Int) := Int.natCast_nonneg i
      have f2 : (0 : Int) ≤ ((i + 1 : Nat) : Int) := Int.natCast_nonneg (i + 1)
      have f3 : ((i + 1 : Nat) : Int) ≤ (s.size : Int) := by omega
      have g1 : f + (i + 1) = 6 := by omega
      have g2 : i + 1 ≤ s.size := hlt'
      have i5 : i ≤ 5 := by omega
      obtain ⟨p1, p2⟩ := p7_range i i5
      obtain ⟨d1, d2, d3⟩ := digit_le i n (bt s i) i5 h0 h1
      have e1 : wrap64 (bt s i) = bt s i := by unfold wrap64; omega
      have e2 : Go.bits .or .i64 n (shl .i64 (Int.tmod (bt s i) 128) (wrap64 (7 * (i : Int)))) = n + bt s i % 128 * p7 i := or_digit i n _ i5 h0 h1 c0
      have e3 : 0 ≤ wrap64 (7 * (i : Int)) := by
        have : wrap64 (7 * (i : Int)) = 7 * (i : Int) := by clear d1 d2 d3 h0 h1 p1 p2; unfold wrap64; omega
        rw [this]; clear d1 d2 d3 h0 h1 p1 p2; omega
      have e4 : wrap64 ((i : Int) + 1) = ((i + 1 : Nat) : Int) := wrap_succ i _ hlt' hs
      by_cases hc : 128 ≤ bt s i
      · refine Ev.step (f := fun k => impl_takeNumber.l0 k s (n + bt s i % 128 * p7 i) ((i + 1 : Nat) : Int)) (fun k => ?_) ?_
        · simp only [impl_takeNumber.j1, if_true]; rw [if_pos f0, if_pos hlt, if_pos e3, e1, e2, e4, if_pos hc]
        · simp only [takeL, if_pos hc]; exact ih (i + 1) _ g1 g2 (Int.add_nonneg h0 d1) d3
      · simp only [takeL, if_neg hc]
        refine Ev.step (f := fun _ => some (takeR s (if (bt s i = 0 ∧ 0 < i) ∨ 1000000000000 < n + bt s i % 128 * p7 i then none else some (n + bt s i % 128 * p7 i, i + 1)))) (fun k => ?_) (Ev.now _)
        simp only [impl_takeNumber.j1, if_true]; rw [if_pos f0, if_pos hlt, if_pos e3, e1, e2, e4, if_neg hc]
        rw [if_pos f2, if_pos f3, Int.toNat_natCast, isNumber_eq]
        simp only [Option.bind_some, decide_eq_true_eq]
        clear e1 e2 e3 e4
        have tot : 0 ≤ n + bt s i % 128 * p7 i := Int.add_nonneg h0 d1
        clear d1 d2 d3 p1 p2 h0 h1
        generalize n + bt s i % 128 * p7 i = T at tot ⊢
        by_cases hz : bt s i = 0
        · rw [if_pos hz]
          by_cases hp : 0 < i
          · rw [if_pos (show (i : Int) > 0 by omega), if_pos (.inl ⟨hz, hp⟩)]; rfl
          · rw [if_neg (show ¬ (i : Int) > 0 by omega)]
            by_cases hb : T > 1000000000000
            · rw [if_neg (by omega), if_pos (.inr hb)]; rfl
            · rw [if_pos (by omega), if_neg (by omega)]; rfl
        · rw [if_neg hz]
          by_cases hb : T > 1000000000000
          · rw [if_neg (by omega), if_pos (.inr hb)]; rfl
          · rw [if_pos (by omega), if_neg (by omega)]; rfl
    · refine Ev.step (f := fun k => impl_takeNumber.j1 k s n (i : Int) false) (fun k => ?_) ?_
      · simp only [impl_takeNumber.l0]; rw [if_neg hlt]
      · rw [List.drop_eq_nil_of_le (by rw [bytesOf_length]; omega)]
        exact Ev.step (f := fun _ => some (0, ⟨#[]⟩, false)) (fun k => by simp only [impl_takeNumber.j1, Bool.false_eq_true, if_false]) (Ev.now _)
theorem impl_take (s : ByteArray) (hs : s.size ≤ 140737488351232) : Ev (fun k => impl_takeNumber.f k s) (takeM s) := by
  unfold impl_takeNumber.f
  exact impl_take_loop s hs 6 0 0 rfl (by omega) (by omega) (by decide)
theorem impl_takeText_eq (s : ByteArray) (hs : s.size ≤ 140737488351232) : Ev (fun k => impl_takeText.f k s) (takeTextM s) := by
  unfold impl_takeText.f
  refine Ev.bind (impl_take s hs) ?_
  have h0 := takeM_nonneg s
  unfold takeTextM
  by_cases h1 : (takeM s).2.2 = true
  · by_cases h2 : (takeM s).1 > 20000
    · simp only [if_pos h1, if_pos h2]; rw [if_neg (by omega)]; exact Ev.now _
    · by_cases h3 : (takeM s).1 > ((takeM s).2.1.size : Int)
      · simp only [if_pos h1, if_neg h2, if_pos h3]; rw [if_neg (by omega)]; exact Ev.now _
      · simp only [if_pos h1, if_neg h2, if_neg h3, if_pos h0, if_pos (show (takeM s).1 ≤ ((takeM s).2.1.size : Int) by omega)]
        rw [if_pos ⟨h1, by omega, by omega⟩]; exact Ev.now _
  · simp only [if_neg h1]; rw [if_neg (fun h => h1 h.1)]; exact Ev.now _
theorem l1In_eq (a b c : Int) : spec_l1In.f a b c = some (decide (b ≤ a ∧ a ≤ c)) := by
  unfold spec_l1In.f
  by_cases h : a ≥ b
  · rw [if_pos h]; simp [h]
  · rw [if_neg h]; simp [h]
theorem spec_put_loop (f : Nat) : ∀ (n : Int) (xs : List Int), 0 ≤ n → n < 128 ^ (f + 1) → n ≤ 1000000000000 → xs.length + f < 1000000 → Ev (fun k => spec_PutNumber.l0 k n xs) (strOfNums (xs ++ putN f n)) := by
  induction f with
  | zero =>
    intro n xs h0 h1 _ hx
    refine Ev.step (f := fun _ => some (strOfNums (xs ++ [n]))) (fun k => ?_) (Ev.now _)
    simp only [spec_PutNumber.l0]; rw [if_neg (by omega), if_pos (by omega), show n % 256 = n by omega]
  | succ f ih =>
    intro n xs h0 h1 h2 hx
    by_cases h : 128 ≤ n
    · refine Ev.step (f := fun k => spec_PutNumber.l0 k (n / 128) (xs ++ [n % 128 + 128])) (fun k => ?_) ?_
      · simp only [spec_PutNumber.l0]; rw [if_pos h, if_pos (by omega), tdiv128 n h0 (by omega), tmod128 n h0]
      · have := ih (n / 128) (xs ++ [n % 128 + 128]) (by omega) (by rw [Int.pow_succ] at h1; omega) (by omega) (by simp; omega)
        simpa [putN, h] using this
    · refine Ev.step (f := fun _ => some (strOfNums (xs ++ [n]))) (fun k => ?_) ?_
      · simp only [spec_PutNumber.l0]; rw [if_neg (by omega), if_pos (by omega), show n % 256 = n by omega]
      · simpa [putN, h] using Ev.now (strOfNums (xs ++ [n]))
theorem spec_put (n : Int) (h0 : 0 ≤ n) (h1 : n ≤ 1000000000000) : Ev (fun k => spec_PutNumber.f k n) (strOfNums (putN 5 n)) := by
  refine Ev.congr (f := fun k => spec_PutNumber.l0 k n []) (fun k => ?_) (spec_put_loop 5 n [] h0 (by omega) h1 (by simp))
  unfold spec_PutNumber.f; rw [l1In_eq]; simp [h0, h1]
theorem spec_put_not (n : Int) (h : ¬ (0 ≤ n ∧ n ≤ 1000000000000)) : Ev (fun k => spec_PutNumber.f k n) (⟨#[]⟩ : ByteArray) := by
  refine Ev.congr (f := fun k => some (⟨#[]⟩ : ByteArray)) (fun k => ?_) (Ev.now _)
  unfold spec_PutNumber.f; rw [l1In_eq]; simp only [Option.bind_some]; rw [if_neg (by simpa using h)]
theorem impl_put_loop (f : Nat) : ∀ (n : Int) (xs : List Int), 0 ≤ n → n < 128 ^ (f + 1) → n ≤ 1000000000000 → xs.length + f < 1000000 → Ev (fun k => impl_putNumber.l0 k n xs) (strOfNums (xs ++ putN f n)) := by
  induction f with
  | zero =>
    intro n xs h0 h1 _ hx
    refine Ev.step (f := fun _ => some (strOfNums (xs ++ [n]))) (fun k => ?_) (Ev.now _)
    simp only [impl_putNumber.l0]; rw [if_neg (by omega), if_pos (by omega), show n % 256 = n by omega]
  | succ f ih =>
    intro n xs h0 h1 h2 hx
    by_cases h : 128 ≤ n
    · refine Ev.step (f := fun k => impl_putNumber.l0 k (n / 128) (xs ++ [n % 128 + 128])) (fun k => ?_) ?_
      · simp only [impl_putNumber.l0]; rw [if_pos h, if_pos (by omega), tdiv128 n h0 (by omega), tmod128 n h0]
      · have := ih (n / 128) (xs ++ [n % 128 + 128]) (by omega) (by rw [Int.pow_succ] at h1; omega) (by omega) (by simp; omega)
        simpa [putN, h] using this
    · refine Ev.step (f := fun _ => some (strOfNums (xs ++ [n]))) (fun k => ?_) ?_
      · simp only [impl_putNumber.l0]; rw [if_neg (by omega), if_pos (by omega), show n % 256 = n by omega]
      · simpa [putN, h] using Ev.now (strOfNums (xs ++ [n]))
theorem impl_put (n : Int) (h0 : 0 ≤ n) (h1 : n ≤ 1000000000000) : Ev (fun k => impl_putNumber.f k n) (strOfNums (putN 5 n)) := by
  refine Ev.congr (f := fun k => impl_putNumber.l0 k n []) (fun k => ?_) (impl_put_loop 5 n [] h0 (by omega) h1 (by simp))
  unfold impl_putNumber.f; rfl
theorem spec_putText (s : ByteArray) : Ev (fun k => spec_PutText.f k s) (putTextM s) := by
  unfold spec_PutText.f putTextM
  by_cases h : (s.size : Int) > 20000
  · simp only [if_pos h]; exact Ev.now _
  · simp only [if_neg h]
    refine Ev.bind (spec_put s.size (by omega) (by omega)) ?_
    have := putN_length 5 s.size
    rw [if_pos (by rw [size_strOfNums]; omega)]; exact Ev.now _
theorem impl_putText_eq (s : ByteArray) (h : ¬ (s.size : Int) > 20000) : Ev (fun k => impl_putText.f k s) (putTextM s) := by
  unfold impl_putText.f putTextM
  simp only [if_neg h]
  refine Ev.bind (impl_put s.size (by omega) (by omega)) ?_
  have := putN_length 5 s.size
  rw [if_pos (by rw [size_strOfNums]; omega)]; exact Ev.now _
theorem impl_PutText_eq (s : ByteArray) : Ev (fun k => impl_PutText.f k s) (putTextM s) := by
  unfold impl_PutText.f
  by_cases h : (s.size : Int) > 20000
  · unfold putTextM; simp only [if_pos h]; exact Ev.now _
  · simp only [if_neg h]
    exact Ev.bind (impl_putText_eq s h) (Ev.now _)
section
variable {l : List Int} (hb : ∀ x ∈ l, (Lit.int .u8 x).wf = true) (hm : l.length ≤ 140737488351232)
include hb in
theorem rd_u8 (i : Int) : 0 ≤ rd l i ∧ rd l i ≤ 255 := by
  unfold rd
  rw [List.getD_eq_getElem?_getD]
  by_cases h : i.toNat < l.length
  · rw [List.getElem?_eq_getElem h]; exact wf_u8 (hb _ (List.getElem_mem h))
  · rw [List.getElem?_eq_none (by omega)]; simp
include hb hm in
theorem next_ok (p : Int) (h0 : 0 ≤ p) (h1 : p ≤ l.length) : ∃ c q, spec_l1Rd_next.f l p = some (c, q) ∧ 0 ≤ c ∧ c ≤ 255 ∧ 0 ≤ q ∧ q ≤ l.length := by
  unfold spec_l1Rd_next.f
  by_cases h : p ≥ (l.length : Int)
  · exact ⟨0, p, by rw [if_pos h], by omega, by omega, h0, h1⟩
  · have e1 : wrap64 (p + 1) = p + 1 := by unfold wrap64; omega
    have e2 : wrap64 (p + 1 - 1) = p := by unfold wrap64; omega
    obtain ⟨r0, r1⟩ := rd_u8 hb p
    have e3 : wrap64 (rd l p) = rd l p := by unfold wrap64; omega
    exact ⟨rd l p, p + 1, by rw [if_neg h, e1, e2, if_pos h0, if_pos (by omega), e3], r0, r1, by omega, by omega⟩
include hb hm in
theorem below_ok (p n : Int) (h0 : 0 ≤ p) (h1 : p ≤ l.length) (n0 : 1 ≤ n) (n1 : n ≤ 1000000) : ∃ c q, spec_l1Rd_below.f l p n = some (c, q) ∧ 0 ≤ c ∧ c < n ∧ 0 ≤ q ∧ q ≤ l.length := by
  unfold spec_l1Rd_below.f
  by_cases h : n ≤ 1
  · exact ⟨0, p, by rw [if_pos h], by omega, by omega, h0, h1⟩
  · rw [if_neg h]
    obtain ⟨c, q, hc, c0, c1, q0, q1⟩ := next_ok hb hm p h0 h1
    by_cases h2 : n ≤ 256
    · refine ⟨c % n, q, ?_, Int.emod_nonneg _ (by omega), Int.emod_lt_of_pos _ (by omega), q0, q1⟩
      rw [if_pos h2, hc]; simp only [Option.bind_some]; rw [if_neg (by omega), Int.tmod_eq_emod_of_nonneg c0]
    · obtain ⟨d, q', hd, d0, d1, q0', q1'⟩ := next_ok hb hm q q0 q1
      have e : wrap64 (wrap64 (c * 256) + d) = c * 256 + d := by unfold wrap64; omega
      refine ⟨(c * 256 + d) % n, q', ?_, Int.emod_nonneg _ (by omega), Int.emod_lt_of_pos _ (by omega), q0', q1'⟩
      rw [if_neg h2, hc]; simp only [Option.bind_some]; rw [hd]; simp only [Option.bind_some]; rw [if_neg (by omega), e, Int.tmod_eq_emod_of_nonneg (by omega)]
include hb hm in
theorem once_ok (p n : Int) (h0 : 0 ≤ p) (h1 : p ≤ l.length) (n0 : 1 ≤ n) (n1 : n ≤ 1000000) : ∃ b q, spec_l1Rd_once.f l p n = some (b, q) ∧ 0 ≤ q ∧ q ≤ l.length := by
  unfold spec_l1Rd_once.f
  obtain ⟨c, q, hc, c0, c1, q0, q1⟩ := below_ok hb hm p n h0 h1 n0 n1
  exact ⟨_, q, by rw [hc]; rfl, q0, q1⟩
theorem or_u64_range (x y : Int) : 0 ≤ Go.bits .or .u64 x y ∧ Go.bits .or .u64 x y ≤ 18446744073709551615 := by
  simp only [Go.bits, IntKind.wrap_u64]; omega
include hb hm in
theorem word_loop (d : Nat) : ∀ (x j p : Int), j + d = 8 → 0 ≤ j → 0 ≤ x → x ≤ 18446744073709551615 → 0 ≤ p → p ≤ l.length → ∃ r q, Ev (fun k => spec_l1Rd_word.l0 k x j l p) (r, q) ∧ 0 ≤ r ∧ r ≤ 18446744073709551615 ∧ 0 ≤ q ∧ q ≤ l.length := by
  induction d with
  | zero =>
    intro x j p hj hj0 x0 x1 h0 h1
    refine ⟨x, p, Ev.step (f := fun _ => some (x, p)) (fun k => ?_) (Ev.now _), x0, x1, h0, h1⟩
    simp only [spec_l1Rd_word.l0]; rw [if_neg (by omega)]
  | succ d ih =>
    intro x j p hj hj0 x0 x1 h0 h1
    obtain ⟨c, q, hc, c0, c1, q0, q1⟩ := next_ok hb hm p h0 h1
    obtain ⟨r0, r1⟩ := or_u64_range (IntKind.u64.wrap (x * 256)) (IntKind.u64.wrap c)
    obtain ⟨r, q', hr, h⟩ := ih _ (j + 1) q (by omega) (by omega) r0 r1 q0 q1
    refine ⟨r, q', Ev.step (f := fun k => spec_l1Rd_word.l0 k (Go.bits .or .u64 (IntKind.u64.wrap (x * 256)) (IntKind.u64.wrap c)) (j + 1) l q) (fun k => ?_) hr, h⟩
    simp only [spec_l1Rd_word.l0]; rw [if_pos (by omega), hc]; simp only [Option.bind_some]
    rw [show wrap64 (j + 1) = j + 1 by unfold wrap64; omega]
include hb hm in
theorem word_ok (p : Int) (h0 : 0 ≤ p) (h1 : p ≤ l.length) : ∃ r q, Ev (fun k => spec_l1Rd_word.f k l p) (r, q) ∧ 0 ≤ r ∧ r ≤ 18446744073709551615 ∧ 0 ≤ q ∧ q ≤ l.length := by
  unfold spec_l1Rd_word.f
  exact word_loop hb hm 8 0 0 p (by omega) (by omega) (by omega) (by omega) h0 h1
include hb hm in
theorem near_ok (p lo hi : Int) (h0 : 0 ≤ p) (h1 : p ≤ l.length) (b0 : -4611686018427387904 ≤ lo) (b1 : lo ≤ hi) (b2 : hi ≤ 4611686018427387903) :
    ∃ r q, Ev (fun k => spec_l1Rd_near.f k l p lo hi) (r, q) ∧ lo ≤ r ∧ r ≤ hi ∧ 0 ≤ q ∧ q ≤ l.length := by
  unfold spec_l1Rd_near.f
  obtain ⟨c, q, hc, c0, c1, q0, q1⟩ := below_ok hb hm p 8 h0 h1 (by omega) (by omega)
  simp only [hc, Option.bind_some]
  by_cases z0 : c = 0
  · exact ⟨lo, q, by simp only [if_pos z0]; exact Ev.now _, by omega, by omega, q0, q1⟩
  by_cases z1 : c = 1
  · exact ⟨hi, q, by simp only [if_neg z0, if_pos z1]; exact Ev.now _, by omega, by omega, q0, q1⟩
  obtain ⟨r, q', hr, r0, r1, q0', q1'⟩ := word_ok hb hm q q0 q1
  have e1 : IntKind.u64.wrap (wrap64 (wrap64 (hi - lo) + 1)) = hi - lo + 1 := by rw [IntKind.wrap_u64]; unfold wrap64; omega
  have m0 : 0 ≤ (r / 2) % (hi - lo + 1) := Int.emod_nonneg _ (by omega)
  have m1 : (r / 2) % (hi - lo + 1) < hi - lo + 1 := Int.emod_lt_of_pos _ (by omega)
  have e2 : wrap64 (lo + wrap64 (Int.tmod (r / 2) (hi - lo + 1))) = lo + (r / 2) % (hi - lo + 1) := by
    rw [Int.tmod_eq_emod_of_nonneg (by omega)]; unfold wrap64; omega
  refine ⟨lo + (r / 2) % (hi - lo + 1), q', ?_, by omega, by omega, q0', q1'⟩
  simp only [if_neg z0, if_neg z1, if_neg (show ¬ hi < lo by omega), e1, if_neg (show ¬ hi - lo + 1 = 0 by omega)]
  refine Ev.bind hr ?_
  simp only [e2]; exact Ev.now _
include hb hm in
theorem off_ok (p lo hi : Int) (h0 : 0 ≤ p) (h1 : p ≤ l.length) (b0 : -4611686018427387904 ≤ lo) (b1 : lo ≤ hi) (b2 : hi ≤ 4611686018427387903) :
    ∃ r q, Ev (fun k => spec_l1Rd_off.f k l p lo hi) (r, q) ∧ -9223372036854775808 ≤ r ∧ r ≤ 9223372036854775807 ∧ 0 ≤ q ∧ q ≤ l.length := by
  unfold spec_l1Rd_off.f
  obtain ⟨b, q, hc, q0, q1⟩ := once_ok hb hm p 24 h0 h1 (by omega) (by omega)
  simp only [hc, Option.bind_some]
  cases b with
  | true =>
    obtain ⟨c, q', hd, c0, c1, q0', q1'⟩ := below_ok hb hm q 4 q0 q1 (by omega) (by omega)
    simp only [hd, Option.bind_some, if_true]
    rw [if_pos c0, if_pos (by simp; omega)]
    refine ⟨_, q', Ev.now _, ?_, ?_, q0', q1'⟩
    all_goals
      have : c = 0 ∨ c = 1 ∨ c = 2 ∨ c = 3 := by omega
      rcases this with rfl | rfl | rfl | rfl <;> simp [rd] <;> unfold wrap64 <;> omega
  | false =>
    obtain ⟨r, q', hr, r0, r1, q0', q1'⟩ := near_ok hb hm q lo hi q0 q1 b0 b1 b2
    refine ⟨r, q', ?_, by omega, by omega, q0', q1'⟩
    simp only [Bool.false_eq_true, if_false]
    exact Ev.bind hr (Ev.now _)
include hb hm in
theorem data_ok (p : Int) (h0 : 0 ≤ p) (h1 : p ≤ l.length) : ∃ (s : ByteArray) (q : Int), spec_l1Rd_data.f l p = some (s, q) ∧ s.size ≤ 6 ∧ 0 ≤ q ∧ q ≤ l.length := by
  unfold spec_l1Rd_data.f
  obtain ⟨c, q, hc, c0, c1, q0, q1⟩ := below_ok hb hm p 8 h0 h1 (by omega) (by omega)
  simp only [Option.bind_some, hc]
  rw [if_pos c0, if_pos (by simp only [List.length_cons, List.length_nil]; omega)]
  refine ⟨_, q, rfl, ?_, q0, q1⟩
  have : c = 0 ∨ c = 1 ∨ c = 2 ∨ c = 3 ∨ c = 4 ∨ c = 5 ∨ c = 6 ∨ c = 7 := by omega
  rcases this with rfl | rfl | rfl | rfl | rfl | rfl | rfl | rfl <;> decide
theorem three (c : Int) (h0 : 0 ≤ c) (h1 : c < 3) : 200 ≤ rd [200, 20000, 1000000000000] c ∧ rd [200, 20000, 1000000000000] c ≤ 1000000000000 := by
  have : c = 0 ∨ c = 1 ∨ c = 2 := by omega
  rcases this with rfl | rfl | rfl <;> decide
include hb hm in
theorem drawNumber_ok : ∃ n, Ev (fun k => spec_DrawPutNumber.f k l) n := by
  unfold spec_DrawPutNumber.f spec_l1Open.f
  obtain ⟨c, q, hc, c0, c1, q0, q1⟩ := below_ok hb hm 0 3 (by omega) (by omega) (by omega) (by omega)
  obtain ⟨t0, t1⟩ := three c c0 c1
  generalize hY : ([200, 20000, 1000000000000] : List Int) = Y at t0 t1
  have hl : (Y.length : Int) = 3 := by rw [← hY]; rfl
  obtain ⟨n, q', hn, n0, n1, _⟩ := off_ok hb hm q 0 (rd Y c) q0 q1 (by omega) (by omega) (by omega)
  refine ⟨n, Ev.bind (Ev.now (l, (0 : Int))) (Ev.bind (Ev.now Y) (Ev.bind (Ev.is hc) ?_))⟩
  refine Ev.congr (f := fun k => (spec_l1Rd_off.f k l q 0 (rd Y c)).bind fun x => some x.1) (fun k => by rw [if_pos c0, if_pos (by omega)]) (Ev.bind hn (Ev.now _))
include hb hm in
theorem drawText_ok : ∃ s : ByteArray, Ev (fun k => spec_DrawPutText.f l) s ∧ s.size ≤ 20001 := by
  unfold spec_DrawPutText.f spec_l1Open.f
  obtain ⟨b, q, hc, q0, q1⟩ := once_ok hb hm 0 30 (by omega) (by omega) (by omega) (by omega)
  cases b with
  | true =>
    obtain ⟨c, q', hd, c0, c1, q0', q1'⟩ := below_ok hb hm q 2 q0 q1 (by omega) (by omega)
    refine ⟨strOfNums (List.replicate (20000 + c).toNat 0), Ev.bind (Ev.now (l, (0 : Int))) (Ev.bind (Ev.is hc) ?_), by rw [size_strOfNums, List.length_replicate]; omega⟩
    have e : wrap64 (20000 + c) = 20000 + c := by unfold wrap64; omega
    refine Ev.congr (f := fun k => (spec_l1Rd_below.f l q 2).bind fun x => (if 0 ≤ (wrap64 (20000 + x.1)) then (if (wrap64 (20000 + x.1) : Int).toNat ≤ 281474976710656 then (some (strOfNums (List.replicate (wrap64 (20000 + x.1) : Int).toNat 0))) else (none)) else (none))) (fun k => if_pos rfl) ?_
    refine Ev.bind (Ev.is hd) (Ev.is ?_)
    simp only [e]
    clear e
    rw [if_pos (by omega), if_pos (by omega)]
  | false =>
    obtain ⟨s, q', hs, s0, _⟩ := data_ok hb hm q q0 q1
    refine ⟨s, Ev.bind (Ev.now (l, (0 : Int))) (Ev.bind (Ev.is hc) ?_), by omega⟩
    refine Ev.congr (f := fun k => (spec_l1Rd_data.f l q).bind fun x => some x.1) (fun k => if_neg (by simp)) ?_
    exact Ev.bind (Ev.is hs) (Ev.now _)
include hb hm in
theorem drawTake_ok : ∃ s : ByteArray, Ev (fun k => spec_DrawTakeNumber.f k l) s ∧ s.size ≤ 100 := by
  unfold spec_DrawTakeNumber.f spec_l1Open.f
  obtain ⟨c, q, hc, c0, c1, q0, q1⟩ := below_ok hb hm 0 3 (by omega) (by omega) (by omega) (by omega)
  obtain ⟨t0, t1⟩ := three c c0 c1
  generalize hY : ([200, 20000, 1000000000000] : List Int) = Y at t0 t1
  have hl : (Y.length : Int) = 3 := by rw [← hY]; rfl
  obtain ⟨n, q2, hn, n0, n1, q20, q21⟩ := near_ok hb hm q 0 (rd Y c) q0 q1 (by omega) (by omega) (by omega)
  obtain ⟨s, q3, hs, s0, q30, q31⟩ := data_ok hb hm q2 q20 q21
  have hp := putN_length 5 n
  have hz : (strOfNums (putN 5 n) ++ s).size ≤ 12 := by rw [ByteArray.size_append, size_strOfNums]; omega
  have hz0 : 1 ≤ (strOfNums (putN 5 n)).size := by
    rw [size_strOfNums]; simp only [putN]; split <;> simp
  have hz1 : 1 ≤ (strOfNums (putN 5 n) ++ s).size := by rw [ByteArray.size_append]; omega
  have hs2 : (strOfNums (putN 5 n)).size + s.size ≤ 9223372036854775807 := by rw [ByteArray.size_append] at hz; omega
  have hl2 := bytesOf_length (strOfNums (putN 5 n) ++ s)
  have hput := spec_put n (by omega) (by omega)
  generalize strOfNums (putN 5 n) = T at *
  obtain ⟨i, q4, hi, i0, i1, q40, q41⟩ := below_ok hb hm q3 ((bytesOf (T ++ s)).length : Int) q30 q31 (by omega) (by omega)
  obtain ⟨e, q5, he, e0, e1, q50, q51⟩ := below_ok hb hm q4 8 q40 q41 (by omega) (by omega)
  have tail : ∃ r : ByteArray, r.size ≤ 100 ∧ (if e = 0 then (if 0 ≤ i then (if i < ((bytesOf (T ++ s)).length : Int) then (some (strOfNums ((bytesOf (T ++ s)).set (i : Int).toNat (Go.bits .or .u8 (rd (bytesOf (T ++ s)) i) 128)))) else (none)) else (none)) else (if e = 1 then (if 0 ≤ i then (if i ≤ ((bytesOf (T ++ s)).length : Int) then (some (strOfNums ((bytesOf (T ++ s)).take (i : Int).toNat))) else (none)) else (none)) else (if e = 2 then (some (strOfNums (([128, 0] : List Int)))) else (if e = 3 then (some (strOfNums (([255, 255, 255, 255, 255, 127] : List Int)))) else (some (strOfNums (bytesOf (T ++ s)))))))) = some r := by
    by_cases z0 : e = 0
    · refine ⟨_, ?_, by rw [if_pos z0, if_pos i0, if_pos i1]⟩
      rw [size_strOfNums, List.length_set]; omega
    by_cases z1 : e = 1
    · refine ⟨_, ?_, by rw [if_neg z0, if_pos z1, if_pos i0, if_pos (by omega)]⟩
      rw [size_strOfNums, List.length_take]; omega
    by_cases z2 : e = 2
    · refine ⟨_, ?_, by rw [if_neg z0, if_neg z1, if_pos z2]⟩
      rw [size_strOfNums]; simp
    by_cases z3 : e = 3
    · refine ⟨_, ?_, by rw [if_neg z0, if_neg z1, if_neg z2, if_pos z3]⟩
      rw [size_strOfNums]; simp
    refine ⟨_, ?_, by rw [if_neg z0, if_neg z1, if_neg z2, if_neg z3]⟩
    rw [size_strOfNums]; omega
  obtain ⟨r, hr, ht⟩ := tail
  refine ⟨r, Ev.bind (Ev.now (l, (0 : Int))) (Ev.bind (Ev.now Y) (Ev.bind (Ev.is hc) ?_)), hr⟩
  refine Ev.congr (f := fun k => (spec_l1Rd_near.f k l q 0 (rd Y c)).bind fun bt201 => ((spec_PutNumber.f k bt201.1).bind fun t203 => ((spec_l1Rd_data.f l bt201.2).bind fun bt204 => (if t203.size + bt204.1.size ≤ 9223372036854775807 then (if ((t203 ++ bt204.1).size : Int) ≤ 140737488351232 then ((some (bytesOf (t203 ++ bt204.1) : List Int)).bind fun y206 => ((spec_l1Rd_below.f l bt204.2 (y206.length : Int)).bind fun bt209 => ((spec_l1Rd_below.f l bt209.2 8).bind fun bt211 => (if bt211.1 = 0 then (if 0 ≤ bt209.1 then (if bt209.1 < (y206.length : Int) then (some (strOfNums (y206.set (bt209.1 : Int).toNat (Go.bits .or .u8 (rd y206 bt209.1) 128)))) else (none)) else (none)) else (if bt211.1 = 1 then (if 0 ≤ bt209.1 then (if bt209.1 ≤ (y206.length : Int) then (some (strOfNums (y206.take (bt209.1 : Int).toNat))) else (none)) else (none)) else (if bt211.1 = 2 then (some (strOfNums (([128, 0] : List Int)))) else (if bt211.1 = 3 then (some (strOfNums (([255, 255, 255, 255, 255, 127] : List Int)))) else (some (strOfNums y206))))))))) else (none)) else (none))))) (fun k => by rw [if_pos c0, if_pos (by omega)]) ?_
  refine Ev.bind hn (Ev.bind hput (Ev.bind (Ev.is hs) ?_))
  refine Ev.congr (f := fun k => _) (fun k => (if_pos hs2).trans (if_pos (show ((T ++ s).size : Int) ≤ 140737488351232 by omega))) ?_
  exact Ev.bind (Ev.now (bytesOf (T ++ s))) (Ev.bind (Ev.is hi) (Ev.bind (Ev.is he) (Ev.is ht)))
end
theorem impl_Put_eq (n : Int) : Ev (fun k => impl_PutNumber.f k n) (if 0 ≤ n ∧ n ≤ 1000000000000 then strOfNums (putN 5 n) else ⟨#[]⟩) := by
  unfold impl_PutNumber.f
  refine Ev.bind (Ev.is (isNumber_eq n)) ?_
  by_cases h : 0 ≤ n ∧ n ≤ 1000000000000
  · simp only [h, and_self, decide_true, if_true]
    exact Ev.bind (impl_put n h.1 h.2) (Ev.now _)
  · simp only [h, decide_false, Bool.false_eq_true, if_false]; exact Ev.now _
theorem spec_Put_eq (n : Int) : Ev (fun k => spec_PutNumber.f k n) (if 0 ≤ n ∧ n ≤ 1000000000000 then strOfNums (putN 5 n) else ⟨#[]⟩) := by
  by_cases h : 0 ≤ n ∧ n ≤ 1000000000000
  · rw [if_pos h]; exact spec_put n h.1 h.2
  · rw [if_neg h]; exact spec_put_not n h
theorem nil_of (s : ByteArray) (h : s.toList = []) : s = ⟨#[]⟩ := by
  apply ByteArray.ext; apply Array.ext'
  rw [ByteArray.toList_eq] at h; exact h
end NumbersOf
open NumbersOf

theorem FnNumbers : laws_FnNumbers.Pure := by
  intro l l' hm hs hb hm' hs' hb'
  refine Ev.rounds (g := fun k => laws_FnNumbers.f k l l') ?_
  have big : Ev (fun k => laws_FnNumbers.j0 k l l' true) true := Ev.step (f := fun _ => some true) (fun k => by simp only [laws_FnNumbers.j0, if_true]) (Ev.now _)
  unfold laws_FnNumbers.f laws_big.f
  refine Ev.bind (Ev.now _) ?_
  by_cases h0 : decide ((l.length : Int) > 1048576) = true
  · simp only [if_pos h0]; exact big
  simp only [if_neg h0]
  refine Ev.bind (Ev.now _) ?_
  by_cases h1 : decide ((l'.length : Int) > 1048576) = true
  · simp only [h1]; exact big
  simp only [h1]
  obtain ⟨n, hn⟩ := drawNumber_ok hb (by omega)
  obtain ⟨t, ht, htz⟩ := drawText_ok hb (by omega)
  obtain ⟨data, hd, hdz⟩ := drawTake_ok hb' (by omega)
  -- the last part
  have last : Ev (fun k => laws_FnNumbers.j3 k l') true := by
    refine Ev.step (f := fun k => (spec_DrawTakeNumber.f k l').bind fun t238 => ((spec_TakeNumber.f k t238).bind fun bt239 => ((impl_TakeNumber.f k t238).bind fun bt242 => (if (bt242.2.2 == bt239.2.2) = true then (if bt242.2.2 = true then ((impl_PutNumber.f k bt242.1).bind fun t245 => (if t245.size + bt242.2.1.size ≤ 9223372036854775807 then (some ((t245 ++ bt242.2.1).toList == t238.toList)) else (none))) else (some true)) else (some false))))) (fun k => by simp only [laws_FnNumbers.j3]) ?_
    refine Ev.bind hd (Ev.bind (spec_take data (by omega)) (Ev.bind (a := takeM data) ?_ ?_))
    · unfold impl_TakeNumber.f; exact Ev.bind (impl_take data (by omega)) (Ev.now _)
    simp only [beq_self_eq_true, if_true]
    by_cases hok : (takeM data).2.2 = true
    · simp only [if_pos hok]
      obtain ⟨k0, k1, kb⟩ := takeM_back data hok
      refine Ev.bind (impl_Put_eq _) ?_
      simp only [if_pos (show 0 ≤ (takeM data).1 ∧ (takeM data).1 ≤ 1000000000000 from ⟨k0, k1⟩)]
      have hz : (strOfNums (putN 5 (takeM data).1)).size + (takeM data).2.1.size ≤ 9223372036854775807 := by
        have : (strOfNums (putN 5 (takeM data).1) ++ (takeM data).2.1).size = data.size := by rw [kb]
        rw [ByteArray.size_append] at this; omega
      simp only [if_pos hz, kb, beq_self_eq_true]; exact Ev.now _
    · simp only [if_neg hok]; exact Ev.now _
  have hpt := impl_PutText_eq t
  have hpts := spec_putText t
  have hpn := impl_Put_eq n
  have hpns := spec_Put_eq n
  have hU : putTextM t = ⟨#[]⟩ ∨ (t.size : Int) ≤ 20000 := by
    by_cases h : (t.size : Int) > 20000
    · left; unfold putTextM; rw [if_pos h]
    · right; omega
  have hUz : (putTextM t).size ≤ 30000 := by
    unfold putTextM; split
    · exact Nat.zero_le _
    · have := putN_length 5 t.size
      rw [ByteArray.size_append, size_strOfNums]; omega
  have hUb : ∀ u, (t.size : Int) ≤ 20000 → takeTextM (putTextM t ++ u) = (t, u, true) := fun u h => takeTextM_put t u h
  have hS : ∃ s : ByteArray, (if 0 ≤ n ∧ n ≤ 1000000000000 then strOfNums (putN 5 n) else ⟨#[]⟩) = s ∧ s.size ≤ 6 ∧ (s = ⟨#[]⟩ ∨ ∀ u, takeM (s ++ u) = (n, u, true)) := by
    by_cases h : 0 ≤ n ∧ n ≤ 1000000000000
    · exact ⟨_, if_pos h, by rw [size_strOfNums]; have := putN_length 5 n; omega, .inr fun u => takeM_put n u h.1 h.2⟩
    · exact ⟨_, if_neg h, Nat.zero_le _, .inl rfl⟩
  obtain ⟨s, hs0, hsz, hsb⟩ := hS
  rw [hs0] at hpn hpns
  clear hs0
  generalize putTextM t = u at *
  refine Ev.step (f := fun k => (spec_DrawPutNumber.f k l).bind fun t226 => ((impl_PutNumber.f k t226).bind fun t227 => ((spec_DrawPutText.f l).bind fun t228 => ((impl_PutText.f k t228).bind fun t229 => ((spec_PutNumber.f k t226).bind fun t230 => (if t227.toList = t230.toList then ((spec_PutText.f k t228).bind fun t231 => (laws_FnNumbers.j1 k l' t226 t227 t228 t229 (t229.toList != t231.toList))) else (laws_FnNumbers.j1 k l' t226 t227 t228 t229 true))))))) (fun k => by simp only [laws_FnNumbers.j0, Bool.false_eq_true, if_false]) ?_
  refine Ev.bind hn (Ev.bind hpn (Ev.bind ht (Ev.bind hpt (Ev.bind hpns ?_))))
  simp only [if_true]
  refine Ev.bind hpts ?_
  simp only [bne_self_eq_false]
  have j2 : Ev (fun k => laws_FnNumbers.j2 k l' s t u) true := by
    by_cases he : u.toList = []
    · exact Ev.step (f := fun k => laws_FnNumbers.j3 k l') (fun k => by simp only [laws_FnNumbers.j2, if_pos he]) last
    · have h2 : (t.size : Int) ≤ 20000 := by
        rcases hU with h | h
        · exact absurd (by rw [h]; exact nilL) he
        · exact h
      refine Ev.step (f := fun k => (impl_TakeText.f k (u ++ s)).bind fun bt235 => (if bt235.2.2 = true then (if bt235.1.toList = t.toList then (if bt235.2.1.toList = s.toList then (laws_FnNumbers.j3 k l') else (some false)) else (some false)) else (some false))) (fun k => by simp only [laws_FnNumbers.j2, if_neg he, if_pos (show u.size + s.size ≤ 9223372036854775807 by omega)]) ?_
      refine Ev.bind (a := takeTextM (u ++ s)) ?_ ?_
      · unfold impl_TakeText.f; exact Ev.bind (impl_takeText_eq (u ++ s) (by rw [ByteArray.size_append]; omega)) (Ev.now _)
      · rw [hUb s h2]; simp only [if_true]; exact last
  by_cases he : s.toList = []
  · exact Ev.step (f := fun k => laws_FnNumbers.j2 k l' s t u) (fun k => by simp only [laws_FnNumbers.j1, Bool.false_eq_true, if_false, if_pos he]) j2
  · have h2 : ∀ u, takeM (s ++ u) = (n, u, true) := by
      rcases hsb with h | h
      · exact absurd (by rw [h]; exact nilL) he
      · exact h
    refine Ev.step (f := fun k => (impl_TakeNumber.f k (s ++ u)).bind fun bt232 => (if bt232.2.2 = true then (if bt232.1 = n then (if bt232.2.1.toList = u.toList then (laws_FnNumbers.j2 k l' s t u) else (some false)) else (some false)) else (some false))) (fun k => by simp only [laws_FnNumbers.j1, Bool.false_eq_true, if_false, if_neg he, if_pos (show s.size + u.size ≤ 9223372036854775807 by omega)]) ?_
    refine Ev.bind (a := takeM (s ++ u)) ?_ ?_
    · unfold impl_TakeNumber.f; exact Ev.bind (impl_take (s ++ u) (by rw [ByteArray.size_append]; omega)) (Ev.now _)
    · rw [h2 u]; simp only [if_true]; exact j2

end Go.Proofs.Ytjcejdajbapliaa.Pure
