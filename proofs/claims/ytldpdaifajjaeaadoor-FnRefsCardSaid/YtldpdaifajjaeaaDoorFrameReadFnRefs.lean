import Derived.Test.YtldpdaifajjaeaaDoorFrameFnRefs
/-! Frames read from bytes: the plain side. -/
namespace Go.Proofs.YtldpdaifajjaeaaDoor.FrameRead
open Go.RowKit Go.Proofs.YtldpdaifajjaeaaDoorW.PrintWords Go.Proofs.YtldpdaifajjaeaaDoorW.PrintLast Go.Proofs.YtldpdaifajjaeaaDoorW.PrintMore Go.Proofs.YtldpdaifajjaeaaDoor.Bits Go.Proofs.YtldpdaifajjaeaaDoor.Num Go.Proofs.YtldpdaifajjaeaaDoor.Crc Go.Proofs.YtldpdaifajjaeaaDoor.Frame
set_option linter.unusedSimpArgs false
set_option linter.unusedVariables false

theorem bytesOf_extract (s : ByteArray) (a b : Nat) : bytesOf (s.extract a b) = ((bytesOf s).drop a).take (b - a) := by
  unfold bytesOf
  rw [ByteArray.data_extract, Array.toList_extract, List.extract_eq_take_drop, List.map_take, List.map_drop]
theorem bytesOf_append (s t : ByteArray) : bytesOf (s ++ t) = bytesOf s ++ bytesOf t := by
  unfold bytesOf
  rw [ByteArray.data_append, Array.toList_append, List.map_append]
theorem nilL : (⟨#[]⟩ : ByteArray).toList = [] := by rw [ByteArray.toList_eq]
theorem bytesOf_inj {s t : ByteArray} (h : bytesOf s = bytesOf t) : s = t := by
  rw [← strOfNums_bytesOf s, h, strOfNums_bytesOf]
theorem bytesOf_strOfNums (l : List Int) (h : ∀ x ∈ l, 0 ≤ x ∧ x < 256) : bytesOf (strOfNums l) = l := by
  unfold bytesOf strOfNums
  simp only [List.map_map]
  refine (List.map_congr_left fun x hx => ?_).trans (List.map_id l)
  obtain ⟨h0, h1⟩ := h x hx
  simp only [Function.comp, id]
  have : (UInt8.ofNat x.toNat).toNat = x.toNat % 256 := UInt8.toNat_ofNat' ..
  omega
theorem bt_getD (s : ByteArray) (i : Int) : bt s i = (bytesOf s).getD i.toNat 0 := by rw [← rd_bytesOf]; rfl
theorem bt_extract (s : ByteArray) (a b i : Nat) (h : a + i < b) : bt (s.extract a b) (i : Int) = bt s ((a + i : Nat) : Int) := by
  rw [bt_getD, bt_getD, bytesOf_extract, Int.toNat_natCast, Int.toNat_natCast]
  simp only [List.getD_eq_getElem?_getD, List.getElem?_take, List.getElem?_drop]
  rw [if_pos (by omega)]
theorem rd_drop (s : ByteArray) (a i : Nat) : rd ((bytesOf s).drop a) (i : Int) = bt s ((a + i : Nat) : Int) := by
  rw [bt_getD]
  unfold rd
  simp only [List.getD_eq_getElem?_getD, List.getElem?_drop, Int.toNat_natCast]
theorem extract_size (s : ByteArray) (a b : Nat) (h : a ≤ b) (hb : b ≤ s.size) : (s.extract a b).size = b - a := by
  rw [ByteArray.size_extract]; omega
theorem extract_all (s : ByteArray) : s.extract 0 s.size = s := by
  apply bytesOf_inj
  rw [bytesOf_extract, List.drop_zero, Nat.sub_zero, ← bytesOf_length, List.take_length]
theorem strOfNums_take (s : ByteArray) (n : Nat) : strOfNums ((bytesOf s).take n) = s.extract 0 n := by
  apply bytesOf_inj
  rw [bytesOf_extract, List.drop_zero, Nat.sub_zero, bytesOf_strOfNums]
  intro x hx
  obtain ⟨b, _, rfl⟩ := List.mem_map.1 (List.mem_of_mem_take hx)
  have := b.toNat_lt; omega

/-- Four bytes as a word, the lowest first. -/
def wordOf (a b c d : Int) : Int := Go.bits .or .u32 (Go.bits .or .u32 (Go.bits .or .u32 (a % 4294967296) (((b % 4294967296) * 256) % 4294967296)) (((c % 4294967296) * 65536) % 4294967296)) (((d % 4294967296) * 16777216) % 4294967296)
theorem wordOf_is (a b c d : Int) (ha : 0 ≤ a ∧ a ≤ 255) (hb : 0 ≤ b ∧ b ≤ 255) (hc : 0 ≤ c ∧ c ≤ 255) (hd : 0 ≤ d ∧ d ≤ 255) : wordOf a b c d = a + 256 * b + 65536 * c + 16777216 * d := by
  have e1 : a % 4294967296 = a := by omega
  have e2 : b % 4294967296 * 256 % 4294967296 = b * 256 := by omega
  have e3 : c % 4294967296 * 65536 % 4294967296 = c * 65536 := by omega
  have e4 : d % 4294967296 * 16777216 % 4294967296 = d * 16777216 := by omega
  unfold wordOf
  rw [e1, e2, e3, e4]
  rw [bits_or_comm .u32 a, bits_join .u32 32 (by decide) wraps_u32 8 (b * 256) a (by omega) (by omega) (by omega) (by omega) (by omega) (by omega)]
  rw [bits_or_comm .u32 _ (c * 65536), bits_join .u32 32 (by decide) wraps_u32 16 (c * 65536) (b * 256 + a) (by omega) (by omega) (by omega) (by omega) (by omega) (by omega)]
  rw [bits_or_comm .u32 _ (d * 16777216), bits_join .u32 32 (by decide) wraps_u32 24 (d * 16777216) _ (by omega) (by omega) (by omega) (by omega) (by omega) (by omega)]
  omega
theorem wordOf_range (a b c d : Int) : 0 ≤ wordOf a b c d ∧ wordOf a b c d < 4294967296 := by
  unfold wordOf; simp only [Go.bits, IntKind.wrap_u32]; omega
theorem four_wordOf (a b c d : Int) (ha : 0 ≤ a ∧ a ≤ 255) (hb : 0 ≤ b ∧ b ≤ 255) (hc : 0 ≤ c ∧ c ≤ 255) (hd : 0 ≤ d ∧ d ≤ 255) : four (wordOf a b c d) = [a, b, c, d] := by
  rw [wordOf_is a b c d ha hb hc hd]
  unfold four
  simp only [List.cons.injEq, and_true]
  omega
/-- The word at place i. -/
def wordAt (t : ByteArray) (i : Nat) : Int := wordOf (bt t i) (bt t ((i + 1 : Nat) : Int)) (bt t ((i + 2 : Nat) : Int)) (bt t ((i + 3 : Nat) : Int))
theorem wordAt_range (t : ByteArray) (i : Nat) : 0 ≤ wordAt t i ∧ wordAt t i < 4294967296 := wordOf_range _ _ _ _

attribute [irreducible] wordOf wordAt
theorem wrap_bt (t : ByteArray) (i : Int) : wrap64 (bt t i) = bt t i := by
  obtain ⟨r0, r1⟩ := bt_range t i
  unfold wrap64; omega
theorem w_cuts (W : Int) (h0 : 0 ≤ W) (h1 : W ≤ 20000) : wrap64 W = W ∧ wrap64 (5 + W) = 5 + W ∧ wrap64 (5 + W + 4) = 9 + W := by
  unfold wrap64; omega
theorem p_cuts (p n : Nat) (W : Int) (hn : W = n) (h1 : n ≤ 20000) (hp : p ≤ 140737488351232) : wrap64 ((p : Int) + (9 + W)) = ((p + (9 + n) : Nat) : Int) := by
  unfold wrap64; omega
/-- The frame with which bytes begin: its kind and body, how many bytes it is, a code. -/
def frameOf (t : ByteArray) : Int × ByteArray × Int × Int :=
  if ¬ (1 ≤ bt t 0 ∧ bt t 0 ≤ 100) then (0, ⟨#[]⟩, 0, 2)
  else if (t.size : Int) < 5 then (0, ⟨#[]⟩, 0, 1)
  else if wordAt t 1 > 20000 then (0, ⟨#[]⟩, 0, 3)
  else if (t.size : Int) < 9 + wordAt t 1 then (0, ⟨#[]⟩, 0, 1)
  else if wordAt t (5 + (wordAt t 1).toNat) = crcM (t.extract 0 (5 + (wordAt t 1).toNat)) then (bt t 0, t.extract 5 (5 + (wordAt t 1).toNat), 9 + wordAt t 1, 0)
  else (0, ⟨#[]⟩, 0, 4)
/-- What code 0 says. -/
theorem frameOf_ok (t : ByteArray) (h : (frameOf t).2.2.2 = 0) : ∃ n : Nat, n ≤ 20000 ∧ wordAt t 1 = n ∧ 9 + n ≤ t.size ∧ (1 ≤ bt t 0 ∧ bt t 0 ≤ 100) ∧ wordAt t (5 + n) = crcM (t.extract 0 (5 + n)) ∧ frameOf t = (bt t 0, t.extract 5 (5 + n), ((9 + n : Nat) : Int), 0) := by
  unfold frameOf at h ⊢
  obtain ⟨w0, w1⟩ := wordAt_range t 1
  by_cases h1 : 1 ≤ bt t 0 ∧ bt t 0 ≤ 100
  · rw [if_neg (not_not_intro h1)] at h
    by_cases h2 : (t.size : Int) < 5
    · rw [if_pos h2] at h; exact absurd h (by decide)
    rw [if_neg h2] at h
    by_cases h3 : wordAt t 1 > 20000
    · rw [if_pos h3] at h; exact absurd h (by decide)
    rw [if_neg h3] at h
    by_cases h4 : (t.size : Int) < 9 + wordAt t 1
    · rw [if_pos h4] at h; exact absurd h (by decide)
    rw [if_neg h4] at h
    by_cases h5 : wordAt t (5 + (wordAt t 1).toNat) = crcM (t.extract 0 (5 + (wordAt t 1).toNat))
    · refine ⟨(wordAt t 1).toNat, by omega, by omega, by omega, h1, h5, ?_⟩
      rw [if_neg (not_not_intro h1), if_neg h2, if_neg h3, if_neg h4, if_pos h5]
      congr 3
      all_goals omega
    · rw [if_neg h5] at h; exact absurd h (by decide)
  · rw [if_pos h1] at h; exact absurd h (by decide)
theorem frameOf_is (t : ByteArray) (n : Nat) (hn : n ≤ 20000) (hw : wordAt t 1 = n) (hs : 9 + n ≤ t.size) (hk : 1 ≤ bt t 0 ∧ bt t 0 ≤ 100) (hc : wordAt t (5 + n) = crcM (t.extract 0 (5 + n))) :
    frameOf t = (bt t 0, t.extract 5 (5 + n), ((9 + n : Nat) : Int), 0) := by
  unfold frameOf
  have e : (wordAt t 1).toNat = n := by omega
  rw [if_neg (not_not_intro hk), if_neg (by omega), if_neg (by omega), if_neg (by omega), e, if_pos hc]
  congr 3
  all_goals omega
theorem frameOf_code (t : ByteArray) : (frameOf t).2.2.2 = 0 ∨ (frameOf t).2.2.2 = 1 ∨ (frameOf t).2.2.2 = 2 ∨ (frameOf t).2.2.2 = 3 ∨ (frameOf t).2.2.2 = 4 := by
  unfold frameOf
  repeat' split
  all_goals simp
/-- The frames of bytes from place 'at' on, behind those that are read: at most d of them. -/
def readM (s : ByteArray) : Nat → List (Int × ByteArray) → Nat → List (Int × ByteArray) × Int × Int
  | 0, acc, p => (acc, p, 0)
  | d + 1, acc, p =>
    if p < s.size then
      if acc.length = 2000 then (acc, p, 5)
      else if (frameOf (s.extract p s.size)).2.2.2 = 0 then readM s d (acc ++ [((frameOf (s.extract p s.size)).1, (frameOf (s.extract p s.size)).2.1)]) (p + (frameOf (s.extract p s.size)).2.2.1.toNat)
      else (acc, p, (frameOf (s.extract p s.size)).2.2.2)
    else (acc, p, 0)
theorem frame_in (s : ByteArray) (p : Nat) (hp : p < s.size) (h : (frameOf (s.extract p s.size)).2.2.2 = 0) : ∃ n : Nat, 9 ≤ n ∧ p + n ≤ s.size ∧ (frameOf (s.extract p s.size)).2.2.1 = (n : Int) := by
  obtain ⟨n, _, _, h3, _, _, h6⟩ := frameOf_ok _ h
  rw [extract_size s p s.size (by omega) (Nat.le_refl _)] at h3
  exact ⟨9 + n, by omega, by omega, by rw [h6]⟩
/-- What was read: never more than 2,000 frames, and its place lies in the bytes. -/
theorem readM_in (s : ByteArray) (d : Nat) : ∀ (acc : List (Int × ByteArray)) (p : Nat), p ≤ s.size → acc.length ≤ 2000 → (readM s d acc p).1.length ≤ 2000 ∧ ∃ m : Nat, (readM s d acc p).2.1 = (m : Int) ∧ p ≤ m ∧ m ≤ s.size := by
  induction d with
  | zero => intro acc p hp ha; exact ⟨ha, p, rfl, Nat.le_refl _, hp⟩
  | succ d ih =>
    intro acc p hp ha
    simp only [readM]
    by_cases h1 : p < s.size
    · rw [if_pos h1]
      by_cases h2 : acc.length = 2000
      · rw [if_pos h2]; exact ⟨ha, p, rfl, Nat.le_refl _, hp⟩
      rw [if_neg h2]
      by_cases h3 : (frameOf (s.extract p s.size)).2.2.2 = 0
      · rw [if_pos h3]
        obtain ⟨n, n0, n1, hn⟩ := frame_in s p h1 h3
        have en : ((frameOf (s.extract p s.size)).2.2.1).toNat = n := by rw [hn]; rfl
        rw [en]
        obtain ⟨r1, m, r2, r3, r4⟩ := ih (acc ++ [((frameOf (s.extract p s.size)).1, (frameOf (s.extract p s.size)).2.1)]) (p + n) n1 (by rw [List.length_append]; simp only [List.length_cons, List.length_nil]; omega)
        exact ⟨r1, m, r2, by omega, r4⟩
      · rw [if_neg h3]; exact ⟨ha, p, rfl, Nat.le_refl _, hp⟩
    · rw [if_neg h1]; exact ⟨ha, p, rfl, Nat.le_refl _, hp⟩
theorem take_five (L : List Int) (h : 5 ≤ L.length) : L.take 5 = [L.getD 0 0, L.getD 1 0, L.getD 2 0, L.getD 3 0, L.getD 4 0] := by
  match L, h with
  | a :: b :: c :: d :: e :: r, _ => rfl
theorem take_plus (L : List Int) (a b : Nat) : L.take (a + b) = L.take a ++ (L.drop a).take b := by
  rw [List.take_add]
theorem four_at (t : ByteArray) (i : Nat) (h : i + 4 ≤ t.size) : four (wordAt t i) = ((bytesOf t).drop i).take 4 := by
  have b0 := bt_range t i
  have b1 := bt_range t ((i + 1 : Nat) : Int)
  have b2 := bt_range t ((i + 2 : Nat) : Int)
  have b3 := bt_range t ((i + 3 : Nat) : Int)
  unfold wordAt
  rw [four_wordOf _ _ _ _ b0 b1 b2 b3]
  rw [drop_bytes t i (by omega), drop_bytes t (i + 1) (by omega), drop_bytes t (i + 1 + 1) (by omega), drop_bytes t (i + 1 + 1 + 1) (by omega)]
  rfl
/-- A frame that was read, written, is the bytes that it was read from. -/
theorem frame_back (t : ByteArray) (h : (frameOf t).2.2.2 = 0) : frameM (frameOf t).1 (frameOf t).2.1 = t.extract 0 (frameOf t).2.2.1.toNat := by
  obtain ⟨n, f1, f2, f3, f4, f5, f6⟩ := frameOf_ok t h
  rw [f6]
  simp only [Int.toNat_natCast]
  have hz : (t.extract 5 (5 + n)).size = n := by rw [extract_size _ _ _ (by omega) (by omega)]; omega
  have hl := bytesOf_length t
  have hL : (bytesOf t).drop 0 = bytesOf t := rfl
  have hw : ((n : Int)) % 4294967296 = wordAt t 1 := by rw [f2]; omega
  have h0 : bt t 0 = (bytesOf t).getD 0 0 := bt_getD t 0
  have head : frameHead (bt t 0) (t.extract 5 (5 + n)) = t.extract 0 (5 + n) := by
    apply bytesOf_inj
    unfold frameHead
    have e1 : bt t 0 % 256 = bt t 0 := by omega
    rw [hz, hw, e1, bytesOf_append, bytesOf_append, four_at t 1 (by omega)]
    have d0 := drop_bytes t 0 (by omega)
    rw [bytesOf_strOfNums [bt t 0] (by simp; omega), bytesOf_strOfNums (((bytesOf t).drop 1).take 4) (fun x hx => by
      obtain ⟨b, _, rfl⟩ := List.mem_map.1 (List.mem_of_mem_drop (List.mem_of_mem_take hx))
      have := b.toNat_lt; omega)]
    rw [bytesOf_extract, bytesOf_extract, List.drop_zero, Nat.sub_zero, show 5 + n - 5 = n by omega, take_plus (bytesOf t) 5 n, show (5 : Nat) = 1 + 4 from rfl, take_plus (bytesOf t) 1 4]
    congr 2
    have := drop_bytes t 0 (by omega)
    rw [List.drop_zero] at this
    conv => rhs; rw [this]
    rfl
  unfold frameM
  rw [if_pos ⟨f4, by omega⟩, head, ← f5]
  apply bytesOf_inj
  rw [bytesOf_append, four_at t (5 + n) (by omega), bytesOf_strOfNums _ (fun x hx => by
      obtain ⟨b, _, rfl⟩ := List.mem_map.1 (List.mem_of_mem_drop (List.mem_of_mem_take hx))
      have := b.toNat_lt; omega), bytesOf_extract, bytesOf_extract, List.drop_zero, Nat.sub_zero, Nat.sub_zero, show 9 + n = (5 + n) + 4 by omega, take_plus (bytesOf t) (5 + n) 4]
/-- A frame at the begin of a beginning is the frame at the begin of the whole. -/
theorem frame_prefix (t : ByteArray) (j : Nat) (hj : j ≤ t.size) (h : (frameOf (t.extract 0 j)).2.2.2 = 0) : frameOf t = frameOf (t.extract 0 j) := by
  obtain ⟨n, f1, f2, f3, f4, f5, f6⟩ := frameOf_ok _ h
  have hz : (t.extract 0 j).size = j := by rw [extract_size _ _ _ (by omega) hj]; omega
  have hb : ∀ i : Nat, i < j → bt (t.extract 0 j) (i : Int) = bt t (i : Int) := fun i hi => by
    have := bt_extract t 0 j i (by omega)
    rw [this, Nat.zero_add]
  have hw : ∀ i : Nat, i + 4 ≤ j → wordAt (t.extract 0 j) i = wordAt t i := fun i hi => by
    unfold wordAt
    rw [hb i (by omega), hb (i + 1) (by omega), hb (i + 2) (by omega), hb (i + 3) (by omega)]
  have h0 : bt (t.extract 0 j) 0 = bt t 0 := hb 0 (by omega)
  rw [hw 1 (by omega)] at f2
  rw [h0] at f4
  have e1 : (t.extract 0 j).extract 0 (5 + n) = t.extract 0 (5 + n) := by rw [ByteArray.extract_extract]; congr 1; omega
  have e2 : (t.extract 0 j).extract 5 (5 + n) = t.extract 5 (5 + n) := by rw [ByteArray.extract_extract]; congr 1 <;> omega
  rw [hw (5 + n) (by omega), e1] at f5
  rw [f6, frameOf_is t n f1 f2 (by omega) f4 f5, h0, e2]
/-- The bytes of frames, one behind the other. -/
def joinF : List (Int × ByteArray) → ByteArray
  | [] => ⟨#[]⟩
  | x :: r => frameM x.1 x.2 ++ joinF r
theorem extract_nil (s : ByteArray) (p : Nat) : s.extract p p = ⟨#[]⟩ := by
  apply bytesOf_inj; rw [bytesOf_extract]; simp [bytesOf]
theorem extract_join (s : ByteArray) (a b c : Nat) (h1 : a ≤ b) (h2 : b ≤ c) (hc : c ≤ s.size) : s.extract a b ++ s.extract b c = s.extract a c := by
  apply bytesOf_inj
  rw [bytesOf_append, bytesOf_extract, bytesOf_extract, bytesOf_extract, show c - a = (b - a) + (c - b) by omega, take_plus _ (b - a) (c - b), List.drop_drop, show a + (b - a) = b by omega]
theorem readM_back (s : ByteArray) (d : Nat) : ∀ (acc : List (Int × ByteArray)) (p : Nat), p ≤ s.size →
    ∃ (gs : List (Int × ByteArray)) (m : Nat), (readM s d acc p).1 = acc ++ gs ∧ (readM s d acc p).2.1 = (m : Int) ∧ p ≤ m ∧ m ≤ s.size ∧ joinF gs = s.extract p m := by
  induction d with
  | zero => intro acc p hp; exact ⟨[], p, by simp [readM], rfl, Nat.le_refl _, hp, by rw [extract_nil]; rfl⟩
  | succ d ih =>
    intro acc p hp
    simp only [readM]
    have stop : ∀ c : Int, ∃ (gs : List (Int × ByteArray)) (m : Nat), acc = acc ++ gs ∧ (p : Int) = (m : Int) ∧ p ≤ m ∧ m ≤ s.size ∧ joinF gs = s.extract p m := fun c => ⟨[], p, by simp, rfl, Nat.le_refl _, hp, by rw [extract_nil]; rfl⟩
    by_cases h1 : p < s.size
    · rw [if_pos h1]
      by_cases h2 : acc.length = 2000
      · rw [if_pos h2]; exact stop 0
      rw [if_neg h2]
      by_cases h3 : (frameOf (s.extract p s.size)).2.2.2 = 0
      · rw [if_pos h3]
        obtain ⟨n, n0, n1, hn⟩ := frame_in s p h1 h3
        have hb := frame_back _ h3
        rw [hn, Int.toNat_natCast] at hb
        rw [hn, Int.toNat_natCast]
        obtain ⟨gs, m, g1, g2, g3, g4, g5⟩ := ih (acc ++ [((frameOf (s.extract p s.size)).1, (frameOf (s.extract p s.size)).2.1)]) (p + n) n1
        refine ⟨((frameOf (s.extract p s.size)).1, (frameOf (s.extract p s.size)).2.1) :: gs, m, by rw [g1]; simp, g2, by omega, g4, ?_⟩
        rw [joinF, hb, g5, ByteArray.extract_extract, Nat.add_zero, show min (p + n) s.size = p + n by omega]
        exact extract_join s p (p + n) m (by omega) g3 g4
      · rw [if_neg h3]; exact stop 0
    · rw [if_neg h1]; exact stop 0
theorem readM_succ (s : ByteArray) (d : Nat) (acc : List (Int × ByteArray)) (p : Nat) : readM s (d + 1) acc p =
    if p < s.size then
      if acc.length = 2000 then (acc, (p : Int), (5 : Int))
      else if (frameOf (s.extract p s.size)).2.2.2 = 0 then readM s d (acc ++ [((frameOf (s.extract p s.size)).1, (frameOf (s.extract p s.size)).2.1)]) (p + (frameOf (s.extract p s.size)).2.2.1.toNat)
      else (acc, (p : Int), (frameOf (s.extract p s.size)).2.2.2)
    else (acc, (p : Int), 0) := rfl
/-- What is read of a beginning is a beginning of what is read of the whole. -/
theorem readM_prefix (s : ByteArray) (j : Nat) (hj : j ≤ s.size) (d : Nat) : ∀ (d' : Nat) (acc : List (Int × ByteArray)) (p : Nat), p ≤ j → s.size - p < d' →
    ∃ gs : List (Int × ByteArray), (readM s d' acc p).1 = (readM (s.extract 0 j) d acc p).1 ++ gs ∧ (readM (s.extract 0 j) d acc p).2.1 ≤ (readM s d' acc p).2.1 := by
  have hz : (s.extract 0 j).size = j := by rw [extract_size _ _ _ (by omega) hj]; omega
  induction d with
  | zero =>
    intro d' acc p hp hd
    obtain ⟨gs, m, g1, g2, g3, g4, g5⟩ := readM_back s d' acc p (by omega)
    exact ⟨gs, by rw [g1]; rfl, by rw [g2]; simp only [readM]; omega⟩
  | succ d ih =>
    intro d' acc p hp hd
    have stop : ∀ c : Int, ∃ gs : List (Int × ByteArray), (readM s d' acc p).1 = acc ++ gs ∧ (p : Int) ≤ (readM s d' acc p).2.1 := fun c => by
      obtain ⟨gs, m, g1, g2, g3, g4, g5⟩ := readM_back s d' acc p (by omega)
      exact ⟨gs, g1, by rw [g2]; omega⟩
    rw [readM_succ, hz]
    have hcut : (s.extract 0 j).extract p j = (s.extract p s.size).extract 0 (j - p) := by
      rw [ByteArray.extract_extract, ByteArray.extract_extract]; congr 1 <;> omega
    rw [hcut]
    by_cases h1 : p < j
    · rw [if_pos h1]
      by_cases h2 : acc.length = 2000
      · rw [if_pos h2]; exact stop 0
      rw [if_neg h2]
      by_cases h3 : (frameOf ((s.extract p s.size).extract 0 (j - p))).2.2.2 = 0
      · rw [if_pos h3]
        have hf := frame_prefix (s.extract p s.size) (j - p) (by rw [extract_size _ _ _ (by omega) (Nat.le_refl _)]; omega) h3
        obtain ⟨n, n0, n1, hn⟩ := frame_in (s.extract 0 j) p (by omega) (by rw [hz, hcut]; exact h3)
        rw [hz, hcut] at hn
        rw [hz] at n1
        rw [hn, Int.toNat_natCast, ← hf]
        rw [← hf] at hn h3
        obtain ⟨d', rfl⟩ : ∃ m, d' = m + 1 := ⟨d' - 1, by omega⟩
        have e : readM s (d' + 1) acc p = readM s d' (acc ++ [((frameOf (s.extract p s.size)).1, (frameOf (s.extract p s.size)).2.1)]) (p + n) := by
          simp only [readM]; rw [if_pos (by omega), if_neg h2, if_pos h3, hn, Int.toNat_natCast]
        rw [e]
        exact ih d' _ (p + n) n1 (by omega)
      · rw [if_neg h3]; exact stop 0
    · rw [if_neg h1]; exact stop 0
theorem frameM_size (kind : Int) (s : ByteArray) : (frameM kind s).size ≤ 9 + s.size := by
  unfold frameM
  split
  · rw [ByteArray.size_append, frameHead_size, size_strOfNums]; simp only [four, List.length_cons, List.length_nil]; omega
  · exact Nat.zero_le _
end Go.Proofs.YtldpdaifajjaeaaDoor.FrameRead
