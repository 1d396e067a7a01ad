import Derived.Test.YtjcejdajbapliaaTakeFnNumbers
import Derived.Test.YtjcejdajbapliaaFrameReadFnNumbers
/-! Numbers and texts come back from their bytes: the plain side. -/
namespace Go.Proofs.Ytjcejdajbapliaa.NumBack
open Go.RowKit Go.Proofs.YtjcejdajbapliaaW.PrintWords Go.Proofs.YtjcejdajbapliaaW.PrintLast Go.Proofs.YtjcejdajbapliaaW.PrintMore Go.Proofs.Ytjcejdajbapliaa.Bits Go.Proofs.Ytjcejdajbapliaa.Num Go.Proofs.Ytjcejdajbapliaa.Take Go.Proofs.Ytjcejdajbapliaa.Frame Go.Proofs.Ytjcejdajbapliaa.FrameRead
set_option linter.unusedSimpArgs false
set_option linter.unusedVariables false

theorem takeL_nonneg (f : Nat) : ∀ (i : Nat) (n : Int) (l : List Int) (m : Int) (j : Nat), 0 ≤ n → takeL f i n l = some (m, j) → 0 ≤ m := by
  induction f with
  | zero => intro i n l m j _ h; simp [takeL] at h
  | succ f ih =>
    intro i n l m j h0 h
    have hp := p7_pos i
    cases l with
    | nil => simp [takeL] at h
    | cons c l =>
      have hd : 0 ≤ c % 128 * p7 i := Int.mul_nonneg (Int.emod_nonneg _ (by decide)) (Int.le_of_lt hp)
      simp only [takeL] at h
      split at h
      · exact ih _ _ _ _ _ (by omega) h
      · split at h
        · simp at h
        · simp only [Option.some.injEq, Prod.mk.injEq] at h; omega
theorem takeM_nonneg (s : ByteArray) : 0 ≤ (takeM s).1 := by
  unfold takeM
  cases h : takeL 6 0 0 (bytesOf s) with
  | none => simp [takeR]
  | some x => obtain ⟨m, j⟩ := x; exact takeL_nonneg 6 0 0 _ m j (by omega) h
theorem putN_bytes (f : Nat) : ∀ n : Int, 0 ≤ n → n < 128 ^ (f + 1) → ∀ x ∈ putN f n, 0 ≤ x ∧ x < 256 := by
  induction f with
  | zero =>
    intro n h0 h1 x hx
    simp only [putN, List.mem_singleton] at hx
    subst hx
    rw [show (128 : Int) ^ (0 + 1) = 128 from rfl] at h1; omega
  | succ f ih =>
    intro n h0 h1 x hx
    simp only [putN] at hx
    split at hx
    · rcases List.mem_cons.1 hx with rfl | hx
      · omega
      · exact ih (n / 128) (by omega) (by rw [Int.pow_succ] at h1; generalize (128 : Int) ^ (f + 1) = q at *; omega) x hx
    · simp only [List.mem_singleton] at hx
      omega
theorem part_sum (n p : Int) : n % 128 * p + n / 128 * (p * 128) = n * p := by
  have h : n = n % 128 + 128 * (n / 128) := by omega
  conv => rhs; rw [h]
  rw [Int.add_mul, Int.mul_comm p 128, ← Int.mul_assoc, Int.mul_comm (n / 128) 128]
theorem take_put (f : Nat) : ∀ (i : Nat) (acc n : Int) (rest : List Int), 0 ≤ acc → 0 ≤ n → n < 128 ^ (f + 1) → acc + n * p7 i ≤ 1000000000000 → (i = 0 ∨ n ≠ 0) →
    takeL (f + 1) i acc (putN f n ++ rest) = some (acc + n * p7 i, i + (putN f n).length) := by
  induction f with
  | zero =>
    intro i acc n rest ha h0 h1 hm hi
    rw [show (128 : Int) ^ (0 + 1) = 128 from rfl] at h1
    simp only [putN, List.cons_append, List.nil_append, takeL]
    have e : n % 128 = n := by omega
    rw [if_neg (by omega), e, if_neg (by omega)]; rfl
  | succ f ih =>
    intro i acc n rest ha h0 h1 hm hi
    by_cases h : 128 ≤ n
    · have e : (n % 128 + 128) % 128 = n % 128 := by omega
      have hp := p7_pos i
      have hs := part_sum n (p7 i)
      have hd : 0 ≤ n % 128 * p7 i := Int.mul_nonneg (by omega) (Int.le_of_lt hp)
      simp only [putN, if_pos h, List.cons_append]
      rw [takeL, if_pos (by omega), e]
      rw [ih (i + 1) _ (n / 128) rest (by omega) (by omega) (by rw [Int.pow_succ] at h1; generalize (128 : Int) ^ (f + 1) = q at *; omega) (by rw [p7_succ]; omega) (.inr (by omega)), p7_succ, Int.add_assoc, hs]
      simp only [List.length_cons, Option.some.injEq, Prod.mk.injEq, true_and]; omega
    · have e : n % 128 = n := by omega
      simp only [putN, if_neg h, List.cons_append, List.nil_append, takeL]
      rw [e, if_neg (by omega)]; rfl
theorem extract_append_right (a u : ByteArray) : (a ++ u).extract a.size (a ++ u).size = u := by
  apply bytesOf_inj
  rw [bytesOf_extract, bytesOf_append, ByteArray.size_append, ← bytesOf_length a, List.drop_left, ← bytesOf_length u, show (bytesOf a).length + (bytesOf u).length - (bytesOf a).length = (bytesOf u).length by omega, List.take_length]
theorem takeM_put (n : Int) (u : ByteArray) (h0 : 0 ≤ n) (h1 : n ≤ 1000000000000) : takeM (strOfNums (putN 5 n) ++ u) = (n, u, true) := by
  unfold takeM
  have hb : bytesOf (strOfNums (putN 5 n)) = putN 5 n := bytesOf_strOfNums _ (putN_bytes 5 n h0 (by rw [show (128 : Int) ^ (5 + 1) = 4398046511104 from rfl]; omega))
  have := take_put 5 0 0 n (bytesOf u) (by omega) h0 (by rw [show (128 : Int) ^ (5 + 1) = 4398046511104 from rfl]; omega) (by rw [p7_zero]; omega) (.inl rfl)
  rw [bytesOf_append, hb, this]
  simp only [takeR, p7_zero, Int.mul_one, Int.zero_add, Nat.zero_add]
  have := extract_append_right (strOfNums (putN 5 n)) u
  rw [size_strOfNums] at this
  rw [this]
theorem takeTextM_put (s u : ByteArray) (h : (s.size : Int) ≤ 20000) : takeTextM (putTextM s ++ u) = (s, u, true) := by
  have ep : putTextM s = strOfNums (putN 5 s.size) ++ s := by unfold putTextM; rw [if_neg (by omega)]
  unfold takeTextM
  rw [ep, ByteArray.append_assoc, takeM_put s.size (s ++ u) (by omega) (by omega)]
  have e1 : (s ++ u).size = s.size + u.size := ByteArray.size_append
  rw [if_pos ⟨rfl, h, by rw [e1]; omega⟩]
  have e2 : (s ++ u).extract 0 s.size = s := by
    apply bytesOf_inj
    rw [bytesOf_extract, bytesOf_append, List.drop_zero, Nat.sub_zero, ← bytesOf_length, List.take_left]
  simp only [Int.toNat_natCast]
  rw [e2, extract_append_right]
theorem take_back (f : Nat) : ∀ (i : Nat) (acc : Int) (l : List Int) (m : Int) (j : Nat), (∀ x ∈ l, 0 ≤ x ∧ x < 256) → 0 ≤ acc → takeL (f + 1) i acc l = some (m, j) →
    ∃ n : Int, m = acc + n * p7 i ∧ 0 ≤ n ∧ (0 < i → n ≠ 0) ∧ m ≤ 1000000000000 ∧ i < j ∧ j ≤ i + l.length ∧ putN f n = l.take (j - i) := by
  have last : ∀ (f i : Nat) (acc c : Int) (r : List Int) (m : Int) (j : Nat), 0 ≤ c → ¬ 128 ≤ c → (if (c = 0 ∧ 0 < i) ∨ 1000000000000 < acc + c % 128 * p7 i then none else some (acc + c % 128 * p7 i, i + 1)) = some (m, j) →
      ∃ n : Int, m = acc + n * p7 i ∧ 0 ≤ n ∧ (0 < i → n ≠ 0) ∧ m ≤ 1000000000000 ∧ i < j ∧ j ≤ i + (c :: r).length ∧ putN f n = (c :: r).take (j - i) := by
    intro f i acc c r m j h0 h1 h
    have e : c % 128 = c := by omega
    rw [e] at h
    split at h
    · cases h
    · next hn =>
      simp only [Option.some.injEq, Prod.mk.injEq] at h
      obtain ⟨rfl, rfl⟩ := h
      refine ⟨c, rfl, h0, fun hi hc => hn (.inl ⟨hc, hi⟩), by omega, by omega, by simp only [List.length_cons]; omega, ?_⟩
      rw [putN_small f c (by omega), show i + 1 - i = 1 by omega]; rfl
  induction f with
  | zero =>
    intro i acc l m j hl ha h
    match l, h with
    | [], h => simp [takeL] at h
    | c :: r, h =>
      have hc := hl c (by simp)
      rw [takeL] at h
      split at h
      · simp [takeL] at h
      · next h1 => exact last 0 i acc c r m j hc.1 h1 h
  | succ f ih =>
    intro i acc l m j hl ha h
    match l, h with
    | [], h => simp [takeL] at h
    | c :: r, h =>
      have hc := hl c (by simp)
      rw [takeL] at h
      split at h
      · next h1 =>
        have hp := p7_pos i
        have hd : 0 ≤ c % 128 * p7 i := Int.mul_nonneg (by omega) (Int.le_of_lt hp)
        obtain ⟨n, e1, e2, e3, e4, e5, e6, e7⟩ := ih (i + 1) _ r m j (fun x hx => hl x (List.mem_cons_of_mem _ hx)) (by omega) h
        have hn : n ≠ 0 := e3 (by omega)
        have h3 : (c % 128 + 128 * n) % 128 = c % 128 := by omega
        have h4 : (c % 128 + 128 * n) / 128 = n := by omega
        have hs := part_sum (c % 128 + 128 * n) (p7 i)
        rw [h3, h4, ← p7_succ] at hs
        refine ⟨c % 128 + 128 * n, by rw [← hs, e1]; omega, by omega, fun _ => by omega, e4, by omega, by simp only [List.length_cons]; omega, ?_⟩
        simp only [putN, if_pos (show 128 ≤ c % 128 + 128 * n by omega), h3, h4, e7]
        rw [show j - i = (j - (i + 1)) + 1 by omega, List.take_succ_cons, show c % 128 + 128 = c by omega]
      · next h1 => exact last (f + 1) i acc c r m j hc.1 h1 h
/-- What is read has just the bytes that it was read from. -/
theorem takeM_back (s : ByteArray) (h : (takeM s).2.2 = true) : 0 ≤ (takeM s).1 ∧ (takeM s).1 ≤ 1000000000000 ∧ strOfNums (putN 5 (takeM s).1) ++ (takeM s).2.1 = s := by
  unfold takeM at h ⊢
  cases hx : takeL 6 0 0 (bytesOf s) with
  | none => rw [hx] at h; cases h
  | some x =>
    obtain ⟨m, j⟩ := x
    have hb : ∀ x ∈ bytesOf s, 0 ≤ x ∧ x < 256 := fun x hx => by
      obtain ⟨b, _, rfl⟩ := List.mem_map.1 hx
      have := b.toNat_lt; omega
    obtain ⟨n, e1, e2, e3, e4, e5, e6, e7⟩ := take_back 5 0 0 (bytesOf s) m j hb (by omega) hx
    rw [p7_zero, Int.mul_one, Int.zero_add] at e1
    subst e1
    simp only [takeR]
    have hl := bytesOf_length s
    refine ⟨e2, e4, ?_⟩
    rw [e7, Nat.sub_zero, strOfNums_take]
    have := extract_join s 0 j s.size (by omega) (by omega) (Nat.le_refl _)
    rw [this, extract_all]
end Go.Proofs.Ytjcejdajbapliaa.NumBack
