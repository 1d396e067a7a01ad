/- For every text the program's ReadFrames returns what the reference's returns, and what it returns owns its memory. No condition but the size that the model lets a text have. -/
import Derived.Test.YtjcejdajbapliaaQFnExactReadFramesx
import Derived.Test.YtjcejdajbapliaaFrameReadFnExactReadFrames
namespace Go.Proofs.Ytjcejdajbapliaa.Pure
open Go.RowKit Go.Proofs.Ytjcejdajbapliaa.QFnExactReadFrames Go.Proofs.YtjcejdajbapliaaW.PrintWords Go.Proofs.YtjcejdajbapliaaW.PrintLast Go.Proofs.YtjcejdajbapliaaW.PrintMore Go.Proofs.Ytjcejdajbapliaa.Bits Go.Proofs.Ytjcejdajbapliaa.Num Go.Proofs.Ytjcejdajbapliaa.Crc Go.Proofs.Ytjcejdajbapliaa.Frame Go.Proofs.Ytjcejdajbapliaa.FrameRead Go.Proofs.Ytjcejdajbapliaa.Loops
set_option linter.unusedSimpArgs false
set_option linter.unusedVariables false
namespace ReadFramesOf
theorem spec_crc_in (s : ByteArray) (i : Nat) (r : Int) (hi : i < s.size) (hs : s.size ≤ 140737488351232) (d : Nat) : ∀ (j : Nat) (x : Int), j + d = 8 →
    Ev (fun k => spec_Crc.l0 k s (crcBits d x) ((i + 1 : Nat) : Int)) r → Ev (fun k => spec_Crc.l1 k s x (i : Int) (j : Int)) r := by
  induction d with
  | zero =>
    intro j x hj hr
    refine Ev.step (fun k => ?_) hr
    simp only [spec_Crc.l1]; rw [if_neg (by omega), wrap_succ i _ hi hs]; rfl
  | succ d ih =>
    intro j x hj hr
    refine Ev.step (f := fun k => spec_Crc.l1 k s (crcBit x) (i : Int) ((j + 1 : Nat) : Int)) (fun k => ?_) (ih (j + 1) (crcBit x) (by omega) hr)
    simp only [spec_Crc.l1, crcBit]; rw [if_pos (by omega), wrap_lit j (by omega)]
    by_cases h : Go.bits .and .u32 x 1 = 1
    · rw [if_pos h, if_pos h]
    · rw [if_neg h, if_neg h]
theorem spec_crc_out (s : ByteArray) (hs : s.size ≤ 140737488351232) (d : Nat) : ∀ (i : Nat) (x : Int), i + d = s.size → Ev (fun k => spec_Crc.l0 k s x (i : Int)) (Go.bits .xor .u32 4294967295 (crcL x ((bytesOf s).drop i))) := by
  induction d with
  | zero =>
    intro i x hi
    rw [List.drop_eq_nil_of_le (by rw [bytesOf_length]; omega)]
    refine Ev.step (f := fun _ => some (Go.bits .xor .u32 4294967295 x)) (fun k => ?_) (Ev.now _)
    simp only [spec_Crc.l0]; rw [if_neg (by omega)]
  | succ d ih =>
    intro i x hi
    have hlt : i < s.size := by omega
    rw [drop_bytes s i hlt]
    refine Ev.step (f := fun k => spec_Crc.l1 k s (Go.bits .xor .u32 x (bt s i)) (i : Int) ((0 : Nat) : Int)) (fun k => ?_) (spec_crc_in s i _ hlt hs 8 0 _ rfl (ih (i + 1) _ (by omega)))
    simp only [spec_Crc.l0]; rw [if_pos (by omega), if_pos (by omega), bt_mod]; rfl
theorem spec_crc (s : ByteArray) (hs : s.size ≤ 140737488351232) : Ev (fun k => spec_Crc.f k s) (crcM s) := by
  unfold spec_Crc.f
  exact spec_crc_out s hs s.size 0 4294967295 (by omega)
theorem impl_crc_in (s : ByteArray) (i : Nat) (r : Int) (hi : i < s.size) (hs : s.size ≤ 140737488351232) (d : Nat) : ∀ (j : Nat) (x : Int), j + d = 8 →
    Ev (fun k => impl_crc.l0 k s (crcBits d x) (s.size : Int) ((i + 1 : Nat) : Int)) r → Ev (fun k => impl_crc.l1 k s x (s.size : Int) (i : Int) (j : Int)) r := by
  induction d with
  | zero =>
    intro j x hj hr
    refine Ev.step (fun k => ?_) hr
    simp only [impl_crc.l1]; rw [if_neg (by omega), wrap_succ i _ hi hs]; rfl
  | succ d ih =>
    intro j x hj hr
    refine Ev.step (f := fun k => impl_crc.l1 k s (crcBit x) (s.size : Int) (i : Int) ((j + 1 : Nat) : Int)) (fun k => ?_) (ih (j + 1) (crcBit x) (by omega) hr)
    simp only [impl_crc.l1, crcBit]; rw [if_pos (by omega), wrap_lit j (by omega)]
    by_cases h : Go.bits .and .u32 x 1 = 1
    · rw [if_pos h, if_pos h]
    · rw [if_neg h, if_neg h]
theorem impl_crc_out (s : ByteArray) (hs : s.size ≤ 140737488351232) (d : Nat) : ∀ (i : Nat) (x : Int), i + d = s.size → Ev (fun k => impl_crc.l0 k s x (s.size : Int) (i : Int)) (Go.bits .xor .u32 4294967295 (crcL x ((bytesOf s).drop i))) := by
  induction d with
  | zero =>
    intro i x hi
    rw [List.drop_eq_nil_of_le (by rw [bytesOf_length]; omega)]
    refine Ev.step (f := fun _ => some (Go.bits .xor .u32 4294967295 x)) (fun k => ?_) (Ev.now _)
    simp only [impl_crc.l0]; rw [if_neg (by omega)]
  | succ d ih =>
    intro i x hi
    have hlt : i < s.size := by omega
    rw [drop_bytes s i hlt]
    refine Ev.step (f := fun k => impl_crc.l1 k s (Go.bits .xor .u32 x (bt s i)) (s.size : Int) (i : Int) ((0 : Nat) : Int)) (fun k => ?_) (impl_crc_in s i _ hlt hs 8 0 _ rfl (ih (i + 1) _ (by omega)))
    simp only [impl_crc.l0]; rw [if_pos (by omega), if_pos (by omega), if_pos (by omega), bt_mod]; rfl
theorem impl_crc_eq (s : ByteArray) (hs : s.size ≤ 140737488351232) : Ev (fun k => impl_crc.f k s) (crcM s) := by
  unfold impl_crc.f
  exact impl_crc_out s hs s.size 0 4294967295 (by omega)
theorem l1In_eq (a b c : Int) : spec_l1In.f a b c = some (decide (b ≤ a ∧ a ≤ c)) := by
  unfold spec_l1In.f
  by_cases h : a ≥ b
  · rw [if_pos h]; simp [h]
  · rw [if_neg h]; simp [h]
theorem spec_word (t : ByteArray) (i : Nat) (h : i + 4 ≤ t.size) : spec_l2Word.f (t.extract i (i + 4)) = some (wordAt t i) := by
  unfold spec_l2Word.f wordAt wordOf
  have hz : (t.extract i (i + 4)).size = 4 := by rw [extract_size _ _ _ (by omega) h]; omega
  have b0 := bt_extract t i (i + 4) 0 (by omega)
  have b1 := bt_extract t i (i + 4) 1 (by omega)
  have b2 := bt_extract t i (i + 4) 2 (by omega)
  have b3 := bt_extract t i (i + 4) 3 (by omega)
  rw [hz, if_pos (by decide), if_pos (by decide), if_pos (by decide), if_pos (by decide)]
  rw [show (0 : Int) = ((0 : Nat) : Int) from rfl, show (1 : Int) = ((1 : Nat) : Int) from rfl, show (2 : Int) = ((2 : Nat) : Int) from rfl, show (3 : Int) = ((3 : Nat) : Int) from rfl, b0, b1, b2, b3, Nat.add_zero]
theorem spec_frameOf (t : ByteArray) (h0 : 0 < t.size) (hs : t.size ≤ 140737488351232) : Ev (fun k => spec_l2Frame.f k t) (frameOf t) := by
  unfold spec_l2Frame.f frameOf
  obtain ⟨r0, r1⟩ := bt_range t 0
  obtain ⟨w0, w1⟩ := wordAt_range t 1
  rw [show wrap64 (bt t 0) = bt t 0 by unfold wrap64; omega]
  simp only [if_pos (show (0 : Int) < (t.size : Int) by omega), l1In_eq, Option.bind_some, decide_eq_true_eq]
  by_cases h1 : 1 ≤ bt t 0 ∧ bt t 0 ≤ 100
  · rw [if_neg (not_not_intro h1)]
    simp only [if_pos h1]
    by_cases h2 : (t.size : Int) < 5
    · simp only [if_pos h2]; exact Ev.now _
    simp only [if_neg h2, if_pos (show (1 : Int) ≤ 5 by omega), if_pos (show (5 : Int) ≤ (t.size : Int) by omega), spec_word t 1 (by omega), Option.bind_some]
    by_cases h3 : wordAt t 1 > 20000
    · simp only [if_pos h3]; exact Ev.now _
    have e0 : wrap64 (wordAt t 1) = wordAt t 1 := by unfold wrap64; omega
    have e1 : wrap64 (9 + wordAt t 1) = 9 + wordAt t 1 := by unfold wrap64; omega
    have e2 : wrap64 (9 + wordAt t 1 - 4) = 5 + wordAt t 1 := by unfold wrap64; omega
    simp only [if_neg h3, e0, e1, e2]
    by_cases h4 : (t.size : Int) < 9 + wordAt t 1
    · simp only [if_pos h4]; exact Ev.now _
    have e3 : (5 + wordAt t 1).toNat = 5 + (wordAt t 1).toNat := by omega
    have e4 : (9 + wordAt t 1).toNat = 5 + (wordAt t 1).toNat + 4 := by omega
    simp only [if_neg h4, if_pos (show (0 : Int) ≤ 5 + wordAt t 1 by omega), if_pos (show 5 + wordAt t 1 ≤ 9 + wordAt t 1 by omega), if_pos (show 9 + wordAt t 1 ≤ (t.size : Int) by omega), if_pos (show 5 + wordAt t 1 ≤ (t.size : Int) by omega),
      e3, e4, spec_word t (5 + (wordAt t 1).toNat) (by omega), Option.bind_some]
    refine Ev.bind (spec_crc _ (by rw [extract_size _ _ _ (by omega) (by omega)]; omega)) ?_
    by_cases h5 : wordAt t (5 + (wordAt t 1).toNat) = crcM (t.extract 0 (5 + (wordAt t 1).toNat))
    · simp only [if_pos h5, if_pos (show (5 : Int) ≤ 5 + wordAt t 1 by omega)]; exact Ev.now _
    · simp only [if_neg h5]; exact Ev.now _
  · rw [if_pos h1]
    simp only [if_neg h1]; exact Ev.now _
abbrev FR := S31
def mkF (x : Int × ByteArray) : FR := ⟨x.1, x.2⟩
def mkR (x : List (Int × ByteArray) × Int × Int) : List FR × Int × Int := (x.1.map mkF, x.2.1, x.2.2)
theorem spec_read (s : ByteArray) (hs : s.size ≤ 140737488351232) (d : Nat) : ∀ (acc : List (Int × ByteArray)) (p : Nat), p ≤ s.size → s.size - p < d → acc.length ≤ 2000 →
    Ev (fun k => spec_ReadFrames.l0 k s (acc.map mkF) (p : Int)) (mkR (readM s d acc p)) := by
  induction d with
  | zero => intro acc p hp hd; omega
  | succ d ih =>
    intro acc p hp hd ha
    simp only [readM]
    by_cases h1 : p < s.size
    · rw [if_pos h1]
      by_cases h2 : acc.length = 2000
      · rw [if_pos h2]
        refine Ev.step (f := fun _ => some (acc.map mkF, (p : Int), 5)) (fun k => ?_) (Ev.now _)
        simp only [spec_ReadFrames.l0]; rw [if_pos (by omega), if_pos (by rw [List.length_map]; omega)]
      rw [if_neg h2]
      have hz : (s.extract p s.size).size = s.size - p := extract_size s p s.size hp (Nat.le_refl _)
      refine Ev.step (f := fun k => (spec_l2Frame.f k (s.extract p s.size)).bind fun t => if t.2.2.2 = 0 then spec_ReadFrames.l0 k s (acc.map mkF ++ [⟨t.1, t.2.1⟩]) (wrap64 ((p : Int) + t.2.2.1)) else some (acc.map mkF, (p : Int), t.2.2.2)) (fun k => ?_) ?_
      · simp only [spec_ReadFrames.l0]; rw [if_pos (by omega), if_neg (by rw [List.length_map]; omega), if_pos (by omega), if_pos (by omega), Int.toNat_natCast]
        simp only [if_pos (show (acc.map mkF).length < 5864062014805 by rw [List.length_map]; omega)]
      refine Ev.bind (spec_frameOf _ (by omega) (by omega)) ?_
      by_cases h3 : (frameOf (s.extract p s.size)).2.2.2 = 0
      · obtain ⟨n, n0, n1, hn⟩ := frame_in s p h1 h3
        simp only [if_pos h3]
        rw [hn, show wrap64 ((p : Int) + (n : Int)) = ((p + n : Nat) : Int) by unfold wrap64; omega, Int.toNat_natCast]
        have := ih (acc ++ [((frameOf (s.extract p s.size)).1, (frameOf (s.extract p s.size)).2.1)]) (p + n) n1 (by omega) (by rw [List.length_append]; simp only [List.length_cons, List.length_nil]; omega)
        rw [List.map_append] at this; exact this
      · simp only [if_neg h3]; exact Ev.now _
    · rw [if_neg h1]
      refine Ev.step (f := fun _ => some (acc.map mkF, (p : Int), 0)) (fun k => ?_) (Ev.now _)
      simp only [spec_ReadFrames.l0]; rw [if_neg (by omega)]
theorem spec_ReadFrames_eq (s : ByteArray) (hs : s.size ≤ 140737488351232) : Ev (fun k => spec_ReadFrames.f k s) (mkR (readM s (s.size + 1) [] 0)) := by
  unfold spec_ReadFrames.f
  exact spec_read s hs (s.size + 1) [] 0 (by omega) (by omega) (by simp)
theorem impl_word (t : ByteArray) (i : Nat) (h : i + 4 ≤ t.size) : binary_littleEndian_Uint32.f ((bytesOf t).drop i) = some (wordAt t i) := by
  unfold binary_littleEndian_Uint32.f wordAt wordOf
  have hz : ((bytesOf t).drop i).length = t.size - i := by rw [List.length_drop, bytesOf_length]
  have b0 := rd_drop t i 0
  have b1 := rd_drop t i 1
  have b2 := rd_drop t i 2
  have b3 := rd_drop t i 3
  rw [hz, if_pos (by omega), if_pos (by omega), if_pos (by omega), if_pos (by omega)]
  rw [show (0 : Int) = ((0 : Nat) : Int) from rfl, show (1 : Int) = ((1 : Nat) : Int) from rfl, show (2 : Int) = ((2 : Nat) : Int) from rfl, show (3 : Int) = ((3 : Nat) : Int) from rfl, b0, b1, b2, b3, Nat.add_zero]
theorem impl_read (s : ByteArray) (hs : s.size ≤ 140737488351232) (d : Nat) : ∀ (acc : List (Int × ByteArray)) (p : Nat), p ≤ s.size → s.size - p < d → acc.length ≤ 2000 →
    Ev (fun k => impl_readFrames.l0 k s (acc.map mkF) (p : Int)) (mkR (readM s d acc p)) := by
  induction d with
  | zero => intro acc p hp hd; omega
  | succ d ih =>
    intro acc p hp hd ha
    have hz : (s.extract p s.size).size = s.size - p := extract_size s p s.size hp (Nat.le_refl _)
    have hl : (bytesOf (s.extract p s.size)).length = s.size - p := by rw [bytesOf_length, hz]
    simp only [readM]
    by_cases h1 : p < s.size
    · rw [if_pos h1]
      by_cases h2 : acc.length = 2000
      · rw [if_pos h2]
        refine Ev.step (f := fun _ => some (acc.map mkF, (p : Int), 5)) (fun k => ?_) (Ev.now _)
        simp only [impl_readFrames.l0]
        rw [if_pos (by omega), if_pos (by omega), Int.toNat_natCast, if_pos (by omega), Option.bind_some, if_neg (by omega), if_pos (by rw [List.length_map]; omega)]
      rw [if_neg h2]
      have hup : Ev (fun k => impl_readFrames.j1 k s (acc.map mkF) (p : Int) (bytesOf (s.extract p s.size)) (decide (¬ (1 ≤ bt (s.extract p s.size) 0 ∧ bt (s.extract p s.size) 0 ≤ 100))))
          (mkR (if (frameOf (s.extract p s.size)).2.2.2 = 0 then readM s d (acc ++ [((frameOf (s.extract p s.size)).1, (frameOf (s.extract p s.size)).2.1)]) (p + (frameOf (s.extract p s.size)).2.2.1.toNat) else (acc, (p : Int), (frameOf (s.extract p s.size)).2.2.2))) := by
        generalize s.extract p s.size = t at hz hl
        obtain ⟨r0, r1⟩ := bt_range t 0
        obtain ⟨w0, w1⟩ := wordAt_range t 1
        have stop : ∀ c : Int, c ≠ 0 → frameOf t = (0, ⟨#[]⟩, 0, c) → mkR (if (frameOf t).2.2.2 = 0 then readM s d (acc ++ [((frameOf t).1, (frameOf t).2.1)]) (p + (frameOf t).2.2.1.toNat) else (acc, (p : Int), (frameOf t).2.2.2)) = (acc.map mkF, (p : Int), c) := fun c hc hf => by
          rw [hf]; simp only [if_neg hc]; rfl
        by_cases c1 : 1 ≤ bt t 0 ∧ bt t 0 ≤ 100
        · by_cases c2 : (t.size : Int) < 5
          · rw [stop 1 (by decide) (by unfold frameOf; rw [if_neg (not_not_intro c1), if_pos c2])]
            refine Ev.step (f := fun _ => some (acc.map mkF, (p : Int), 1)) (fun k => ?_) (Ev.now _)
            simp only [impl_readFrames.j1]; rw [if_neg (by simp [c1]), if_pos (by omega)]
          by_cases c3 : wordAt t 1 > 20000
          · rw [stop 3 (by decide) (by unfold frameOf; rw [if_neg (not_not_intro c1), if_neg c2, if_pos c3])]
            refine Ev.step (f := fun _ => some (acc.map mkF, (p : Int), 3)) (fun k => ?_) (Ev.now _)
            simp only [impl_readFrames.j1]; rw [if_neg (by simp [c1]), if_neg (by omega), if_pos (by omega), impl_word t 1 (by omega), Option.bind_some, if_pos c3]
          have E := Aside0.mk (w_cuts (wordAt t 1) w0 (by omega))
          by_cases c4 : (t.size : Int) < 9 + wordAt t 1
          · rw [stop 1 (by decide) (by unfold frameOf; rw [if_neg (not_not_intro c1), if_neg c2, if_neg c3, if_pos c4])]
            refine Ev.step (f := fun _ => some (acc.map mkF, (p : Int), 1)) (fun k => ?_) (Ev.now _)
            have g1 : ((bytesOf t).length : Int) < 9 + wordAt t 1 := by
              rw [hl, ← hz]; exact c4
            simp only [impl_readFrames.j1]; rw [if_neg (by simp [c1]), if_neg (by omega), if_pos (by omega), impl_word t 1 (by omega), Option.bind_some, if_neg c3, E.out.1, E.out.2.1, E.out.2.2, if_pos g1]
          obtain ⟨n, hn⟩ : ∃ n : Nat, wordAt t 1 = n := ⟨(wordAt t 1).toNat, by omega⟩
          have e3 : (5 + wordAt t 1).toNat = 5 + n := by omega
          have hcut : (t.extract 0 (5 + n)).size = 5 + n := by rw [extract_size _ _ _ (by omega) (by omega)]; omega
          have body : (t.extract 0 (5 + n)).extract 5 (5 + n) = t.extract 5 (5 + n) := by rw [ByteArray.extract_extract]; congr 1; omega
          have g1 : ¬ ((bytesOf t).length : Int) < 9 + wordAt t 1 := by
            rw [hl, ← hz]; exact c4
          have g2 : 0 ≤ 5 + wordAt t 1 := by omega
          have g3 : 5 + wordAt t 1 ≤ ((bytesOf t).length : Int) := by
            rw [hl, ← hz]; omega
          have step : ∀ k, impl_readFrames.j1 (k + 1) s (acc.map mkF) (p : Int) (bytesOf t) (decide (¬ (1 ≤ bt t 0 ∧ bt t 0 ≤ 100))) =
              (impl_crc.f k (t.extract 0 (5 + n))).bind fun c => if wordAt t (5 + n) = c then impl_readFrames.l0 k s (acc.map mkF ++ [⟨bt t 0, t.extract 5 (5 + n)⟩]) ((p + (9 + n) : Nat) : Int) else some (acc.map mkF, (p : Int), 4) := fun k => by
            simp only [impl_readFrames.j1]
            rw [if_neg (by simp [c1]), if_neg (by omega), if_pos (by omega), impl_word t 1 (by omega), Option.bind_some, if_neg c3, E.out.1, E.out.2.1, E.out.2.2, if_neg g1, if_pos g2, if_pos g3, e3]
            simp only [Option.bind_some, strOfNums_take, impl_word t (5 + n) (by omega), hcut, body, rd_bytesOf]
            rw [if_pos (show (0 : Int) < ((bytesOf t).length : Int) by omega), if_pos (show (5 : Int) ≤ ((5 + n : Nat) : Int) by omega), if_pos (show (acc.map mkF).length < 5864062014805 by rw [List.length_map]; omega), wrap_bt t 0, p_cuts p n _ hn (by omega) (by omega)]
          refine Ev.step step (Ev.bind (impl_crc_eq _ (by omega)) ?_)
          by_cases c5 : wordAt t (5 + n) = crcM (t.extract 0 (5 + n))
          · rw [frameOf_is t n (by omega) hn (by omega) c1 c5]
            simp only [if_pos c5, if_true, Int.toNat_natCast]
            have := ih (acc ++ [(bt t 0, t.extract 5 (5 + n))]) (p + (9 + n)) (by omega) (by omega) (by rw [List.length_append]; simp only [List.length_cons, List.length_nil]; omega)
            rw [List.map_append] at this; exact this
          · rw [stop 4 (by decide) (by unfold frameOf; rw [if_neg (not_not_intro c1), if_neg c2, if_neg c3, if_neg c4, show (wordAt t 1).toNat = n by omega, if_neg c5])]
            simp only [if_neg c5]; exact Ev.now _
        · rw [stop 2 (by decide) (by unfold frameOf; rw [if_pos c1])]
          refine Ev.step (f := fun _ => some (acc.map mkF, (p : Int), 2)) (fun k => ?_) (Ev.now _)
          simp only [impl_readFrames.j1]; rw [if_pos (by simp [c1])]
      refine Ev.step (fun k => ?_) hup
      simp only [impl_readFrames.l0]
      rw [if_pos (by omega), if_pos (by omega), Int.toNat_natCast, if_pos (by omega), Option.bind_some, if_neg (by omega), if_neg (by rw [List.length_map]; omega), if_pos (by omega), rd_bytesOf]
      by_cases h4 : bt (s.extract p s.size) 0 < 1
      · rw [if_pos h4]; congr 1; simp; omega
      · rw [if_neg h4]; congr 1; simp; omega
    · rw [if_neg h1]
      refine Ev.step (f := fun _ => some (acc.map mkF, (p : Int), 0)) (fun k => ?_) (Ev.now _)
      simp only [impl_readFrames.l0]
      rw [if_pos (by omega), if_pos (by omega), Int.toNat_natCast, if_pos (by omega), Option.bind_some, if_pos (by omega)]
theorem impl_ReadFrames_eq (s : ByteArray) (hs : s.size ≤ 140737488351232) : Ev (fun k => impl_ReadFrames.f k s) (mkR (readM s (s.size + 1) [] 0)) := by
  unfold impl_ReadFrames.f impl_readFrames.f
  exact Ev.bind (impl_read s hs (s.size + 1) [] 0 (by omega) (by omega) (by simp)) (Ev.now _)
theorem markText_loop (n : Nat) : ∀ (v : Int) (acc : ByteArray), v.toNat ≤ n → 0 ≤ v → v ≤ 4611686018427387904 → acc.size + v.toNat ≤ 4611686018427387905 → ∃ t, Ev (fun k => laws_markText.l0 k v acc) t := by
  induction n with
  | zero =>
    intro v acc hn h0 h1 hs
    refine ⟨(⟨#[109]⟩ : ByteArray) ++ acc, Ev.step (f := fun _ => some ((⟨#[109]⟩ : ByteArray) ++ acc)) (fun k => ?_) (Ev.now _)⟩
    simp only [laws_markText.l0]; rw [if_neg (by omega), if_pos (by omega)]
  | succ n ih =>
    intro v acc hn h0 h1 hs
    by_cases hv : v > 0
    · have e1 : wrap64 (Int.tdiv v 10) = v / 10 := by rw [Int.tdiv_eq_ediv_of_nonneg h0]; unfold wrap64; omega
      have sz : (strOfNums [wrap64 (48 + Int.tmod v 10) % 256]).size = 1 := by rw [size_strOfNums]; rfl
      have sz2 : (strOfNums [wrap64 (48 + Int.tmod v 10) % 256] ++ acc).size = 1 + acc.size := by rw [ByteArray.size_append, sz]
      obtain ⟨t, ht⟩ := ih (v / 10) (strOfNums [wrap64 (48 + Int.tmod v 10) % 256] ++ acc) (by omega) (by omega) (by omega) (by rw [sz2]; omega)
      refine ⟨t, Ev.step (f := fun k => laws_markText.l0 k (v / 10) (strOfNums [wrap64 (48 + Int.tmod v 10) % 256] ++ acc)) (fun k => ?_) ht⟩
      simp only [laws_markText.l0, Option.bind_some]; rw [if_pos hv, if_pos (by rw [sz]; omega), e1]
    · refine ⟨(⟨#[109]⟩ : ByteArray) ++ acc, Ev.step (f := fun _ => some ((⟨#[109]⟩ : ByteArray) ++ acc)) (fun k => ?_) (Ev.now _)⟩
      simp only [laws_markText.l0]; rw [if_neg hv, if_pos (by omega)]
/-- The text of a mark. -/
noncomputable def markT (v : Int) : ByteArray := open Classical in if h : ∃ t, Ev (fun k => laws_markText.f k v) t then Classical.choose h else ⟨#[]⟩
theorem markT_ok (v : Int) (h0 : 0 < v) (h1 : v ≤ 4611686018427387904) : Ev (fun k => laws_markText.f k v) (markT v) := by
  have h : ∃ t, Ev (fun k => laws_markText.f k v) t := by
    obtain ⟨t, ht⟩ := markText_loop v.toNat v ⟨#[]⟩ (Nat.le_refl _) (by omega) h1 (by show 0 + v.toNat ≤ _; omega)
    refine ⟨t, ?_⟩
    unfold laws_markText.f
    simp only [if_neg (show ¬ v ≤ 0 by omega)]; exact ht
  unfold markT
  rw [dif_pos h]; exact Classical.choose_spec h
theorem rdF (l : List FR) (i : Nat) (h : i < l.length) : rd_T31 l (i : Int) = l[i] := getD_at l i _ h
theorem eq_refl (a : List FR) (hl : a.length ≤ 2097152) : Ev (fun k => laws_eqFrameS.f k a a) true := by
  unfold laws_eqFrameS.f
  simp only [if_true]
  refine on_loop (n := a.length) (F := fun k i => laws_eqFrameS.l0 k a a i) (fun i hi k => ?_) (Ev.step (f := fun _ => some true) (fun k => ?_) (Ev.now _))
  · simp only [laws_eqFrameS.l0, laws_eqFrame.f]; rw [if_pos (by omega), if_pos (by omega), if_pos (by omega), wrap_nat i (by omega)]; simp
  · simp only [laws_eqFrameS.l0]; rw [if_neg (by omega)]
noncomputable def updF (v : Int) (x : FR) : FR := ⟨v, markT (v + 1)⟩
theorem mark_held (xs : List FR) (hl : xs.length ≤ 2097152) : ∃ m ys, Ev (fun k => laws_markFrameS.f k xs 1) (m, ys) ∧ 1 ≤ m ∧ m ≤ 10000000 ∧ Ev (fun k => laws_heldFrameS.f k ys 1) m := by
  obtain ⟨ys, he, hyl, hy⟩ := mark_loop (c := 2) (upd := updF) (F := fun k acc v i => laws_markFrameS.l0 k acc v i) xs 1
    (fun i acc h ha r hr => by
      have e1 : wrap64 (1 + 2 * (i : Int) + 1) = 1 + 2 * (i : Int) + 1 := by unfold wrap64; omega
      have e2 : wrap64 (1 + 2 * (i : Int) + 1 + 1) = 1 + 2 * ((i + 1 : Nat) : Int) := by unfold wrap64; omega
      have hi : (i : Int) < (acc.length : Int) := by omega
      refine Ev.step (f := fun k => (laws_markText.f k (1 + 2 * (i : Int) + 1)).bind fun t => laws_markFrameS.l0 k (acc.set i ⟨1 + 2 * (i : Int), t⟩) (1 + 2 * ((i + 1 : Nat) : Int)) ((i + 1 : Nat) : Int)) (fun k => ?_) (Ev.bind (markT_ok _ (by omega) (by omega)) hr)
      have g : ∀ x : FR, rd_T31 (acc.set i x) (i : Int) = x := fun x => by
        rw [rdF _ i (by rw [List.length_set]; exact h), List.getElem_set_self]
      simp only [laws_markFrameS.l0]; rw [if_pos hi, if_pos (by omega), Int.toNat_natCast, e1, e2, wrap_nat i (by omega)]
      rw [Option.bind_some, g]
      simp only [List.set_set])
    (fun acc ha => Ev.step (f := fun _ => some (1 + 2 * (xs.length : Int), acc)) (fun k => by simp only [laws_markFrameS.l0]; rw [if_neg (by omega)]) (Ev.now _))
  refine ⟨1 + 2 * (xs.length : Int), ys, ?_, by omega, by omega, ?_⟩
  · unfold laws_markFrameS.f; exact he
  unfold laws_heldFrameS.f
  refine fold_loop (n := xs.length) (F := fun k v i => laws_heldFrameS.l0 k ys v i) (st := fun i => 1 + 2 * (i : Int)) (fun i hi hr => ?_) (Ev.step (f := fun _ => some (1 + 2 * (xs.length : Int))) (fun k => ?_) (Ev.now _))
  · have hi' : i < ys.length := by omega
    have e1 : wrap64 (1 + 2 * (i : Int) + 1) = 1 + 2 * (i : Int) + 1 := by unfold wrap64; omega
    have e2 : wrap64 (1 + 2 * (i : Int) + 1 + 1) = 1 + 2 * ((i + 1 : Nat) : Int) := by unfold wrap64; omega
    have g := hy i hi' hi
    refine Ev.step (f := fun k => (laws_markText.f k (1 + 2 * (i : Int) + 1)).bind fun t => if (markT (1 + 2 * (i : Int) + 1)).toList = t.toList then laws_heldFrameS.l0 k ys (1 + 2 * ((i + 1 : Nat) : Int)) ((i + 1 : Nat) : Int) else some (-1)) (fun k => ?_) (Ev.bind (markT_ok _ (by omega) (by omega)) (by simp only [if_true]; exact hr))
    simp only [laws_heldFrameS.l0]; rw [if_pos (by omega), if_pos (by omega), rdF ys i hi', g]
    simp only [updF, if_true, e1, e2, wrap_nat i (show i < 9223372036854775807 by omega)]
  · simp only [laws_heldFrameS.l0]; rw [if_neg (by omega)]
end ReadFramesOf
open ReadFramesOf

theorem FnExactReadFrames : laws_FnExactReadFrames.Pure := by
  intro s hs
  refine Ev.rounds (g := fun k => laws_FnExactReadFrames.f k s) ?_
  unfold laws_FnExactReadFrames.f
  by_cases h0 : (s.size : Int) > 1048576
  · simp only [if_pos h0]; exact Ev.now _
  simp only [if_neg h0]
  obtain ⟨hl, _⟩ := readM_in s (s.size + 1) [] 0 (by omega) (by simp)
  have hspec := spec_ReadFrames_eq s hs
  have himpl := impl_ReadFrames_eq s hs
  have hm : (mkR (readM s (s.size + 1) [] 0)).1.length ≤ 2097152 := by unfold mkR; rw [List.length_map]; omega
  generalize mkR (readM s (s.size + 1) [] 0) = R at hspec himpl hm
  obtain ⟨p1, p2, p3⟩ := R
  have he := eq_refl p1 hm
  obtain ⟨m, ys, hm1, hm0, hm2, hh⟩ := mark_held p1 hm
  refine Ev.bind hspec (Ev.bind himpl (Ev.bind he ?_))
  simp only [if_true, bne_self_eq_false]
  refine Ev.step (f := fun k => (laws_markFrameS.f k p1 1).bind fun bt181 => ((laws_heldFrameS.f k bt181.2 1).bind fun t183 => (if t183 < 0 then (some false) else (if t183 = bt181.1 then ((impl_ReadFrames.f k s).bind fun bt184 => ((laws_eqFrameS.f k bt184.1 p1).bind fun t189 => (if t189 = true then (if bt184.2.1 = p2 then (laws_FnExactReadFrames.j1 k bt181.2 bt181.1 (bt184.2.2 != p3)) else (laws_FnExactReadFrames.j1 k bt181.2 bt181.1 true)) else (laws_FnExactReadFrames.j1 k bt181.2 bt181.1 true)))) else (some false))))) (fun k => by simp only [laws_FnExactReadFrames.j0, Bool.false_eq_true, if_false]) ?_
  refine Ev.bind hm1 (Ev.bind hh ?_)
  simp only [if_neg (show ¬ m < 0 by omega), if_true]
  refine Ev.bind himpl (Ev.bind he ?_)
  simp only [if_true, bne_self_eq_false]
  refine Ev.step (f := fun k => (laws_heldFrameS.f k ys 1).bind fun t190 => (if t190 < 0 then (some false) else (if t190 = m then (some true) else (some false)))) (fun k => by simp only [laws_FnExactReadFrames.j1, Bool.false_eq_true, if_false]) (Ev.bind hh ?_)
  simp only [if_neg (show ¬ m < 0 by omega), if_true]
  exact Ev.now _

end Go.Proofs.Ytjcejdajbapliaa.Pure
