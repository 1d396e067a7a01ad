/- For every code: what is read of the drawn bytes are frames whose bytes these are, from the beginning, and of a beginning of them a beginning of these. No condition but the size that the model lets a code have. -/
import Derived.Test.YthjpfkphfenbeaaQFnFramedx
import Derived.Test.YthjpfkphfenbeaaFrameReadFnFramed
namespace Go.Proofs.Ythjpfkphfenbeaa.Pure
open Go.RowKit Go.Proofs.Ythjpfkphfenbeaa.QFnFramed Go.Proofs.YthjpfkphfenbeaaW.PrintWords Go.Proofs.YthjpfkphfenbeaaW.PrintLast Go.Proofs.YthjpfkphfenbeaaW.PrintMore Go.Proofs.Ythjpfkphfenbeaa.Bits Go.Proofs.Ythjpfkphfenbeaa.Num Go.Proofs.Ythjpfkphfenbeaa.Crc Go.Proofs.Ythjpfkphfenbeaa.Frame Go.Proofs.Ythjpfkphfenbeaa.FrameRead Go.Proofs.Ythjpfkphfenbeaa.Loops
set_option linter.unusedSimpArgs false
set_option linter.unusedVariables false
namespace FramedOf
theorem spec_crc_in (s : ByteArray) (i : Nat) (r : Int) (hi : i < s.size) (hs : s.size ≤ 140737488351232) (d : Nat) : ∀ (j : Nat) (x : Int), j + d = 8 →
    Ev (fun k => spec_Crc.l0 k s (crcBits d x) ((i + 1 : Nat) : Int)) r → Ev (fun k => spec_Crc.l1 k s x (i : Int) (j : Int)) r := by
  induction d with
  | zero =>
    intro j x hj hr
    refine Ev.step (fun k => ?_) hr
    simp only [spec_Crc.l1]; rw [if_neg (by omega), wrap_succ i _ hi hs]; rfl
  | succ d ih =>
    intro j x hj hr
    refine Ev.step (f := fun k => spec_Crc.l1 k s (crcBit x) (i : Int) ((j + 1 : Nat) : Int)) (fun k => ?_) (ih (j + 1) (crcBit x) (by omega) hr)
    simp only [spec_Crc.l1, crcBit]; rw [if_pos (by omega), wrap_lit j (by omega)]
    by_cases h : Go.bits .and .u32 x 1 = 1
    · rw [if_pos h, if_pos h]
    · rw [if_neg h, if_neg h]
theorem spec_crc_out (s : ByteArray) (hs : s.size ≤ 140737488351232) (d : Nat) : ∀ (i : Nat) (x : Int), i + d = s.size → Ev (fun k => spec_Crc.l0 k s x (i : Int)) (Go.bits .xor .u32 4294967295 (crcL x ((bytesOf s).drop i))) := by
  induction d with
  | zero =>
    intro i x hi
    rw [List.drop_eq_nil_of_le (by rw [bytesOf_length]; omega)]
    refine Ev.step (f := fun _ => some (Go.bits .xor .u32 4294967295 x)) (fun k => ?_) (Ev.now _)
    simp only [spec_Crc.l0]; rw [if_neg (by omega)]
  | succ d ih =>
    intro i x hi
    have hlt : i < s.size := by omega
    rw [drop_bytes s i hlt]
    refine Ev.step (f := fun k => spec_Crc.l1 k s (Go.bits .xor .u32 x (bt s i)) (i : Int) ((0 : Nat) : Int)) (fun k => ?_) (spec_crc_in s i _ hlt hs 8 0 _ rfl (ih (i + 1) _ (by omega)))
    simp only [spec_Crc.l0]; rw [if_pos (by omega), if_pos (by omega), bt_mod]; rfl
theorem spec_crc (s : ByteArray) (hs : s.size ≤ 140737488351232) : Ev (fun k => spec_Crc.f k s) (crcM s) := by
  unfold spec_Crc.f
  exact spec_crc_out s hs s.size 0 4294967295 (by omega)
theorem impl_crc_in (s : ByteArray) (i : Nat) (r : Int) (hi : i < s.size) (hs : s.size ≤ 140737488351232) (d : Nat) : ∀ (j : Nat) (x : Int), j + d = 8 →
    Ev (fun k => impl_crc.l0 k s (crcBits d x) (s.size : Int) ((i + 1 : Nat) : Int)) r → Ev (fun k => impl_crc.l1 k s x (s.size : Int) (i : Int) (j : Int)) r := by
  induction d with
  | zero =>
    intro j x hj hr
    refine Ev.step (fun k => ?_) hr
    simp only [impl_crc.l1]; rw [if_neg (by omega), wrap_succ i _ hi hs]; rfl
  | succ d ih =>
    intro j x hj hr
    refine Ev.step (f := fun k => impl_crc.l1 k s (crcBit x) (s.size : Int) (i : Int) ((j + 1 : Nat) : Int)) (fun k => ?_) (ih (j + 1) (crcBit x) (by omega) hr)
    simp only [impl_crc.l1, crcBit]; rw [if_pos (by omega), wrap_lit j (by omega)]
    by_cases h : Go.bits .and .u32 x 1 = 1
    · rw [if_pos h, if_pos h]
    · rw [if_neg h, if_neg h]
theorem impl_crc_out (s : ByteArray) (hs : s.size ≤ 140737488351232) (d : Nat) : ∀ (i : Nat) (x : Int), i + d = s.size → Ev (fun k => impl_crc.l0 k s x (s.size : Int) (i : Int)) (Go.bits .xor .u32 4294967295 (crcL x ((bytesOf s).drop i))) := by
  induction d with
  | zero =>
    intro i x hi
    rw [List.drop_eq_nil_of_le (by rw [bytesOf_length]; omega)]
    refine Ev.step (f := fun _ => some (Go.bits .xor .u32 4294967295 x)) (fun k => ?_) (Ev.now _)
    simp only [impl_crc.l0]; rw [if_neg (by omega)]
  | succ d ih =>
    intro i x hi
    have hlt : i < s.size := by omega
    rw [drop_bytes s i hlt]
    refine Ev.step (f := fun k => impl_crc.l1 k s (Go.bits .xor .u32 x (bt s i)) (s.size : Int) (i : Int) ((0 : Nat) : Int)) (fun k => ?_) (impl_crc_in s i _ hlt hs 8 0 _ rfl (ih (i + 1) _ (by omega)))
    simp only [impl_crc.l0]; rw [if_pos (by omega), if_pos (by omega), if_pos (by omega), bt_mod]; rfl
theorem impl_crc_eq (s : ByteArray) (hs : s.size ≤ 140737488351232) : Ev (fun k => impl_crc.f k s) (crcM s) := by
  unfold impl_crc.f
  exact impl_crc_out s hs s.size 0 4294967295 (by omega)
theorem l1In_eq (a b c : Int) : spec_l1In.f a b c = some (decide (b ≤ a ∧ a ≤ c)) := by
  unfold spec_l1In.f
  by_cases h : a ≥ b
  · rw [if_pos h]; simp [h]
  · rw [if_neg h]; simp [h]
theorem spec_frame (kind : Int) (s : ByteArray) : Ev (fun k => spec_WriteFrame.f k kind s) (frameM kind s) := by
  have bad : Ev (fun k => spec_WriteFrame.j0 k true kind s) (⟨#[]⟩ : ByteArray) := Ev.step (f := fun _ => some ⟨#[]⟩) (fun k => by simp only [spec_WriteFrame.j0, if_true]) (Ev.now _)
  unfold spec_WriteFrame.f frameM
  simp only [l1In_eq, Option.bind_some]
  by_cases h1 : 1 ≤ kind ∧ kind ≤ 100
  · simp only [h1, and_self, decide_true, if_true, true_and]
    by_cases h2 : (s.size : Int) > 20000
    · simp only [h2, decide_true, if_neg (show ¬ (s.size : Int) ≤ 20000 by omega)]; exact bad
    · simp only [h2, decide_false, if_pos (show (s.size : Int) ≤ 20000 by omega)]
      have hz := frameHead_size kind s
      refine Ev.step (f := fun k => (spec_Crc.f k (frameHead kind s)).bind fun t => some (frameHead kind s ++ strOfNums (four t))) (fun k => ?_) (Ev.bind (spec_crc _ (by omega)) (Ev.now _))
      simp only [spec_WriteFrame.j0, Bool.false_eq_true, if_false, Option.bind_some, spec_l2Four.f]
      have e1 : (strOfNums [kind % 256]).size = 1 := by rw [size_strOfNums]; rfl
      have e2 : ∀ n : Int, (strOfNums [n % 256, n / 256 % 256, n / 65536 % 256, n / 16777216 % 256]).size = 4 := fun n => by rw [size_strOfNums]; rfl
      simp only [e1, e2, show 1 + 4 ≤ 9223372036854775807 by omega, show 1 + 4 + s.size ≤ 9223372036854775807 by omega, show 1 + 4 + s.size + 4 ≤ 9223372036854775807 by omega, if_true]
      rfl
  · simp only [h1, decide_false, Bool.false_eq_true, if_false, false_and]; exact bad
theorem in_eq (a b c : Int) : impl_in.f a b c = some (decide (b ≤ a ∧ a ≤ c)) := by
  unfold impl_in.f
  by_cases h : a ≥ b
  · rw [if_pos h]; simp [h]
  · rw [if_neg h]; simp [h]
theorem app32 (l : List Int) (n : Int) (h : l.length < 1000000) : binary_littleEndian_AppendUint32.f l n = some (l ++ four n) := by
  unfold binary_littleEndian_AppendUint32.f
  simp only [Option.bind_some]; rw [if_pos (by simp only [List.length_cons, List.length_nil]; omega)]; rfl
theorem impl_frame (kind : Int) (s : ByteArray) : Ev (fun k => impl_writeFrame.f k kind s) (frameM kind s) := by
  have bad : Ev (fun k => impl_writeFrame.j0 k true kind s) (⟨#[]⟩ : ByteArray) := Ev.step (f := fun _ => some ⟨#[]⟩) (fun k => by simp only [impl_writeFrame.j0, if_true]) (Ev.now _)
  unfold impl_writeFrame.f frameM
  simp only [in_eq, Option.bind_some]
  by_cases h1 : 1 ≤ kind ∧ kind ≤ 100
  · simp only [h1, and_self, decide_true, if_true, true_and]
    by_cases h2 : (s.size : Int) > 20000
    · simp only [h2, decide_true, if_neg (show ¬ (s.size : Int) ≤ 20000 by omega)]; exact bad
    · simp only [h2, decide_false, if_pos (show (s.size : Int) ≤ 20000 by omega)]
      have hz := frameHead_size kind s
      refine Ev.step (f := fun k => (impl_crc.f k (frameHead kind s)).bind fun t => some (frameHead kind s ++ strOfNums (four t))) (fun k => ?_) (Ev.bind (impl_crc_eq _ (by omega)) (Ev.now _))
      simp only [impl_writeFrame.j0, Bool.false_eq_true, if_false]
      rw [app32 _ _ (by simp)]
      have e1 : ([kind % 256] ++ four ((s.size : Int) % 4294967296)).length = 5 := rfl
      have e2 : ([kind % 256] ++ four ((s.size : Int) % 4294967296) ++ bytesOf s).length < 1000000 := by rw [List.length_append, e1, bytesOf_length]; omega
      simp only [Option.bind_some, e1, show 5 + s.size < 140737488355328 by omega, if_true, frameHead_list, app32 _ _ e2, strOfNums_append _ (four _)]
  · simp only [h1, decide_false, Bool.false_eq_true, if_false, false_and]; exact bad
theorem spec_word (t : ByteArray) (i : Nat) (h : i + 4 ≤ t.size) : spec_l2Word.f (t.extract i (i + 4)) = some (wordAt t i) := by
  unfold spec_l2Word.f wordAt wordOf
  have hz : (t.extract i (i + 4)).size = 4 := by rw [extract_size _ _ _ (by omega) h]; omega
  have b0 := bt_extract t i (i + 4) 0 (by omega)
  have b1 := bt_extract t i (i + 4) 1 (by omega)
  have b2 := bt_extract t i (i + 4) 2 (by omega)
  have b3 := bt_extract t i (i + 4) 3 (by omega)
  rw [hz, if_pos (by decide), if_pos (by decide), if_pos (by decide), if_pos (by decide)]
  rw [show (0 : Int) = ((0 : Nat) : Int) from rfl, show (1 : Int) = ((1 : Nat) : Int) from rfl, show (2 : Int) = ((2 : Nat) : Int) from rfl, show (3 : Int) = ((3 : Nat) : Int) from rfl, b0, b1, b2, b3, Nat.add_zero]
theorem spec_frameOf (t : ByteArray) (h0 : 0 < t.size) (hs : t.size ≤ 140737488351232) : Ev (fun k => spec_l2Frame.f k t) (frameOf t) := by
  unfold spec_l2Frame.f frameOf
  obtain ⟨r0, r1⟩ := bt_range t 0
  obtain ⟨w0, w1⟩ := wordAt_range t 1
  rw [show wrap64 (bt t 0) = bt t 0 by unfold wrap64; omega]
  simp only [if_pos (show (0 : Int) < (t.size : Int) by omega), l1In_eq, Option.bind_some, decide_eq_true_eq]
  by_cases h1 : 1 ≤ bt t 0 ∧ bt t 0 ≤ 100
  · rw [if_neg (not_not_intro h1)]
    simp only [if_pos h1]
    by_cases h2 : (t.size : Int) < 5
    · simp only [if_pos h2]; exact Ev.now _
    simp only [if_neg h2, if_pos (show (1 : Int) ≤ 5 by omega), if_pos (show (5 : Int) ≤ (t.size : Int) by omega), spec_word t 1 (by omega), Option.bind_some]
    by_cases h3 : wordAt t 1 > 20000
    · simp only [if_pos h3]; exact Ev.now _
    have e0 : wrap64 (wordAt t 1) = wordAt t 1 := by unfold wrap64; omega
    have e1 : wrap64 (9 + wordAt t 1) = 9 + wordAt t 1 := by unfold wrap64; omega
    have e2 : wrap64 (9 + wordAt t 1 - 4) = 5 + wordAt t 1 := by unfold wrap64; omega
    simp only [if_neg h3, e0, e1, e2]
    by_cases h4 : (t.size : Int) < 9 + wordAt t 1
    · simp only [if_pos h4]; exact Ev.now _
    have e3 : (5 + wordAt t 1).toNat = 5 + (wordAt t 1).toNat := by omega
    have e4 : (9 + wordAt t 1).toNat = 5 + (wordAt t 1).toNat + 4 := by omega
    simp only [if_neg h4, if_pos (show (0 : Int) ≤ 5 + wordAt t 1 by omega), if_pos (show 5 + wordAt t 1 ≤ 9 + wordAt t 1 by omega), if_pos (show 9 + wordAt t 1 ≤ (t.size : Int) by omega), if_pos (show 5 + wordAt t 1 ≤ (t.size : Int) by omega),
      e3, e4, spec_word t (5 + (wordAt t 1).toNat) (by omega), Option.bind_some]
    refine Ev.bind (spec_crc _ (by rw [extract_size _ _ _ (by omega) (by omega)]; omega)) ?_
    by_cases h5 : wordAt t (5 + (wordAt t 1).toNat) = crcM (t.extract 0 (5 + (wordAt t 1).toNat))
    · simp only [if_pos h5, if_pos (show (5 : Int) ≤ 5 + wordAt t 1 by omega)]; exact Ev.now _
    · simp only [if_neg h5]; exact Ev.now _
  · rw [if_pos h1]
    simp only [if_neg h1]; exact Ev.now _
abbrev FR := S31
def mkF (x : Int × ByteArray) : FR := ⟨x.1, x.2⟩
def mkR (x : List (Int × ByteArray) × Int × Int) : List FR × Int × Int := (x.1.map mkF, x.2.1, x.2.2)
theorem spec_read (s : ByteArray) (hs : s.size ≤ 140737488351232) (d : Nat) : ∀ (acc : List (Int × ByteArray)) (p : Nat), p ≤ s.size → s.size - p < d → acc.length ≤ 2000 →
    Ev (fun k => spec_ReadFrames.l0 k s (acc.map mkF) (p : Int)) (mkR (readM s d acc p)) := by
  induction d with
  | zero => intro acc p hp hd; omega
  | succ d ih =>
    intro acc p hp hd ha
    simp only [readM]
    by_cases h1 : p < s.size
    · rw [if_pos h1]
      by_cases h2 : acc.length = 2000
      · rw [if_pos h2]
        refine Ev.step (f := fun _ => some (acc.map mkF, (p : Int), 5)) (fun k => ?_) (Ev.now _)
        simp only [spec_ReadFrames.l0]; rw [if_pos (by omega), if_pos (by rw [List.length_map]; omega)]
      rw [if_neg h2]
      have hz : (s.extract p s.size).size = s.size - p := extract_size s p s.size hp (Nat.le_refl _)
      refine Ev.step (f := fun k => (spec_l2Frame.f k (s.extract p s.size)).bind fun t => if t.2.2.2 = 0 then spec_ReadFrames.l0 k s (acc.map mkF ++ [⟨t.1, t.2.1⟩]) (wrap64 ((p : Int) + t.2.2.1)) else some (acc.map mkF, (p : Int), t.2.2.2)) (fun k => ?_) ?_
      · simp only [spec_ReadFrames.l0]; rw [if_pos (by omega), if_neg (by rw [List.length_map]; omega), if_pos (by omega), if_pos (by omega), Int.toNat_natCast]
        simp only [if_pos (show (acc.map mkF).length < 5864062014805 by rw [List.length_map]; omega)]
      refine Ev.bind (spec_frameOf _ (by omega) (by omega)) ?_
      by_cases h3 : (frameOf (s.extract p s.size)).2.2.2 = 0
      · obtain ⟨n, n0, n1, hn⟩ := frame_in s p h1 h3
        simp only [if_pos h3]
        rw [hn, show wrap64 ((p : Int) + (n : Int)) = ((p + n : Nat) : Int) by unfold wrap64; omega, Int.toNat_natCast]
        have := ih (acc ++ [((frameOf (s.extract p s.size)).1, (frameOf (s.extract p s.size)).2.1)]) (p + n) n1 (by omega) (by rw [List.length_append]; simp only [List.length_cons, List.length_nil]; omega)
        rw [List.map_append] at this; exact this
      · simp only [if_neg h3]; exact Ev.now _
    · rw [if_neg h1]
      refine Ev.step (f := fun _ => some (acc.map mkF, (p : Int), 0)) (fun k => ?_) (Ev.now _)
      simp only [spec_ReadFrames.l0]; rw [if_neg (by omega)]
theorem spec_ReadFrames_eq (s : ByteArray) (hs : s.size ≤ 140737488351232) : Ev (fun k => spec_ReadFrames.f k s) (mkR (readM s (s.size + 1) [] 0)) := by
  unfold spec_ReadFrames.f
  exact spec_read s hs (s.size + 1) [] 0 (by omega) (by omega) (by simp)
theorem impl_word (t : ByteArray) (i : Nat) (h : i + 4 ≤ t.size) : binary_littleEndian_Uint32.f ((bytesOf t).drop i) = some (wordAt t i) := by
  unfold binary_littleEndian_Uint32.f wordAt wordOf
  have hz : ((bytesOf t).drop i).length = t.size - i := by rw [List.length_drop, bytesOf_length]
  have b0 := rd_drop t i 0
  have b1 := rd_drop t i 1
  have b2 := rd_drop t i 2
  have b3 := rd_drop t i 3
  rw [hz, if_pos (by omega), if_pos (by omega), if_pos (by omega), if_pos (by omega)]
  rw [show (0 : Int) = ((0 : Nat) : Int) from rfl, show (1 : Int) = ((1 : Nat) : Int) from rfl, show (2 : Int) = ((2 : Nat) : Int) from rfl, show (3 : Int) = ((3 : Nat) : Int) from rfl, b0, b1, b2, b3, Nat.add_zero]
theorem impl_read (s : ByteArray) (hs : s.size ≤ 140737488351232) (d : Nat) : ∀ (acc : List (Int × ByteArray)) (p : Nat), p ≤ s.size → s.size - p < d → acc.length ≤ 2000 →
    Ev (fun k => impl_readFrames.l0 k s (acc.map mkF) (p : Int)) (mkR (readM s d acc p)) := by
  induction d with
  | zero => intro acc p hp hd; omega
  | succ d ih =>
    intro acc p hp hd ha
    have hz : (s.extract p s.size).size = s.size - p := extract_size s p s.size hp (Nat.le_refl _)
    have hl : (bytesOf (s.extract p s.size)).length = s.size - p := by rw [bytesOf_length, hz]
    simp only [readM]
    by_cases h1 : p < s.size
    · rw [if_pos h1]
      by_cases h2 : acc.length = 2000
      · rw [if_pos h2]
        refine Ev.step (f := fun _ => some (acc.map mkF, (p : Int), 5)) (fun k => ?_) (Ev.now _)
        simp only [impl_readFrames.l0]
        rw [if_pos (by omega), if_pos (by omega), Int.toNat_natCast, if_pos (by omega), Option.bind_some, if_neg (by omega), if_pos (by rw [List.length_map]; omega)]
      rw [if_neg h2]
      have hup : Ev (fun k => impl_readFrames.j1 k s (acc.map mkF) (p : Int) (bytesOf (s.extract p s.size)) (decide (¬ (1 ≤ bt (s.extract p s.size) 0 ∧ bt (s.extract p s.size) 0 ≤ 100))))
          (mkR (if (frameOf (s.extract p s.size)).2.2.2 = 0 then readM s d (acc ++ [((frameOf (s.extract p s.size)).1, (frameOf (s.extract p s.size)).2.1)]) (p + (frameOf (s.extract p s.size)).2.2.1.toNat) else (acc, (p : Int), (frameOf (s.extract p s.size)).2.2.2))) := by
        generalize s.extract p s.size = t at hz hl
        obtain ⟨r0, r1⟩ := bt_range t 0
        obtain ⟨w0, w1⟩ := wordAt_range t 1
        have stop : ∀ c : Int, c ≠ 0 → frameOf t = (0, ⟨#[]⟩, 0, c) → mkR (if (frameOf t).2.2.2 = 0 then readM s d (acc ++ [((frameOf t).1, (frameOf t).2.1)]) (p + (frameOf t).2.2.1.toNat) else (acc, (p : Int), (frameOf t).2.2.2)) = (acc.map mkF, (p : Int), c) := fun c hc hf => by
          rw [hf]; simp only [if_neg hc]; rfl
        by_cases c1 : 1 ≤ bt t 0 ∧ bt t 0 ≤ 100
        · by_cases c2 : (t.size : Int) < 5
          · rw [stop 1 (by decide) (by unfold frameOf; rw [if_neg (not_not_intro c1), if_pos c2])]
            refine Ev.step (f := fun _ => some (acc.map mkF, (p : Int), 1)) (fun k => ?_) (Ev.now _)
            simp only [impl_readFrames.j1]; rw [if_neg (by simp [c1]), if_pos (by omega)]
          by_cases c3 : wordAt t 1 > 20000
          · rw [stop 3 (by decide) (by unfold frameOf; rw [if_neg (not_not_intro c1), if_neg c2, if_pos c3])]
            refine Ev.step (f := fun _ => some (acc.map mkF, (p : Int), 3)) (fun k => ?_) (Ev.now _)
            simp only [impl_readFrames.j1]; rw [if_neg (by simp [c1]), if_neg (by omega), if_pos (by omega), impl_word t 1 (by omega), Option.bind_some, if_pos c3]
          have E := Aside0.mk (w_cuts (wordAt t 1) w0 (by omega))
          by_cases c4 : (t.size : Int) < 9 + wordAt t 1
          · rw [stop 1 (by decide) (by unfold frameOf; rw [if_neg (not_not_intro c1), if_neg c2, if_neg c3, if_pos c4])]
            refine Ev.step (f := fun _ => some (acc.map mkF, (p : Int), 1)) (fun k => ?_) (Ev.now _)
            have g1 : ((bytesOf t).length : Int) < 9 + wordAt t 1 := by
              rw [hl, ← hz]; exact c4
            simp only [impl_readFrames.j1]; rw [if_neg (by simp [c1]), if_neg (by omega), if_pos (by omega), impl_word t 1 (by omega), Option.bind_some, if_neg c3, E.out.1, E.out.2.1, E.out.2.2, if_pos g1]
          obtain ⟨n, hn⟩ : ∃ n : Nat, wordAt t 1 = n := ⟨(wordAt t 1).toNat, by omega⟩
          have e3 : (5 + wordAt t 1).toNat = 5 + n := by omega
          have hcut : (t.extract 0 (5 + n)).size = 5 + n := by rw [extract_size _ _ _ (by omega) (by omega)]; omega
          have body : (t.extract 0 (5 + n)).extract 5 (5 + n) = t.extract 5 (5 + n) := by rw [ByteArray.extract_extract]; congr 1; omega
          have g1 : ¬ ((bytesOf t).length : Int) < 9 + wordAt t 1 := by
            rw [hl, ← hz]; exact c4
          have g2 : 0 ≤ 5 + wordAt t 1 := by omega
          have g3 : 5 + wordAt t 1 ≤ ((bytesOf t).length : Int) := by
            rw [hl, ← hz]; omega
          have step : ∀ k, impl_readFrames.j1 (k + 1) s (acc.map mkF) (p : Int) (bytesOf t) (decide (¬ (1 ≤ bt t 0 ∧ bt t 0 ≤ 100))) =
              (impl_crc.f k (t.extract 0 (5 + n))).bind fun c => if wordAt t (5 + n) = c then impl_readFrames.l0 k s (acc.map mkF ++ [⟨bt t 0, t.extract 5 (5 + n)⟩]) ((p + (9 + n) : Nat) : Int) else some (acc.map mkF, (p : Int), 4) := fun k => by
            simp only [impl_readFrames.j1]
            rw [if_neg (by simp [c1]), if_neg (by omega), if_pos (by omega), impl_word t 1 (by omega), Option.bind_some, if_neg c3, E.out.1, E.out.2.1, E.out.2.2, if_neg g1, if_pos g2, if_pos g3, e3]
            simp only [Option.bind_some, strOfNums_take, impl_word t (5 + n) (by omega), hcut, body, rd_bytesOf]
            rw [if_pos (show (0 : Int) < ((bytesOf t).length : Int) by omega), if_pos (show (5 : Int) ≤ ((5 + n : Nat) : Int) by omega), if_pos (show (acc.map mkF).length < 5864062014805 by rw [List.length_map]; omega), wrap_bt t 0, p_cuts p n _ hn (by omega) (by omega)]
          refine Ev.step step (Ev.bind (impl_crc_eq _ (by omega)) ?_)
          by_cases c5 : wordAt t (5 + n) = crcM (t.extract 0 (5 + n))
          · rw [frameOf_is t n (by omega) hn (by omega) c1 c5]
            simp only [if_pos c5, if_true, Int.toNat_natCast]
            have := ih (acc ++ [(bt t 0, t.extract 5 (5 + n))]) (p + (9 + n)) (by omega) (by omega) (by rw [List.length_append]; simp only [List.length_cons, List.length_nil]; omega)
            rw [List.map_append] at this; exact this
          · rw [stop 4 (by decide) (by unfold frameOf; rw [if_neg (not_not_intro c1), if_neg c2, if_neg c3, if_neg c4, show (wordAt t 1).toNat = n by omega, if_neg c5])]
            simp only [if_neg c5]; exact Ev.now _
        · rw [stop 2 (by decide) (by unfold frameOf; rw [if_pos c1])]
          refine Ev.step (f := fun _ => some (acc.map mkF, (p : Int), 2)) (fun k => ?_) (Ev.now _)
          simp only [impl_readFrames.j1]; rw [if_pos (by simp [c1])]
      refine Ev.step (fun k => ?_) hup
      simp only [impl_readFrames.l0]
      rw [if_pos (by omega), if_pos (by omega), Int.toNat_natCast, if_pos (by omega), Option.bind_some, if_neg (by omega), if_neg (by rw [List.length_map]; omega), if_pos (by omega), rd_bytesOf]
      by_cases h4 : bt (s.extract p s.size) 0 < 1
      · rw [if_pos h4]; congr 1; simp; omega
      · rw [if_neg h4]; congr 1; simp; omega
    · rw [if_neg h1]
      refine Ev.step (f := fun _ => some (acc.map mkF, (p : Int), 0)) (fun k => ?_) (Ev.now _)
      simp only [impl_readFrames.l0]
      rw [if_pos (by omega), if_pos (by omega), Int.toNat_natCast, if_pos (by omega), Option.bind_some, if_pos (by omega)]
theorem impl_ReadFrames_eq (s : ByteArray) (hs : s.size ≤ 140737488351232) : Ev (fun k => impl_ReadFrames.f k s) (mkR (readM s (s.size + 1) [] 0)) := by
  unfold impl_ReadFrames.f impl_readFrames.f
  exact Ev.bind (impl_read s hs (s.size + 1) [] 0 (by omega) (by omega) (by simp)) (Ev.now _)
section
variable {l : List Int} (hb : ∀ x ∈ l, (Lit.int .u8 x).wf = true) (hm : l.length ≤ 140737488351232)
include hb in
theorem rd_u8 (i : Int) : 0 ≤ rd l i ∧ rd l i ≤ 255 := by
  unfold rd
  rw [List.getD_eq_getElem?_getD]
  by_cases h : i.toNat < l.length
  · rw [List.getElem?_eq_getElem h]; exact wf_u8 (hb _ (List.getElem_mem h))
  · rw [List.getElem?_eq_none (by omega)]; simp
include hb hm in
theorem next_ok (p : Int) (h0 : 0 ≤ p) (h1 : p ≤ l.length) : ∃ c q, spec_l1Rd_next.f l p = some (c, q) ∧ 0 ≤ c ∧ c ≤ 255 ∧ 0 ≤ q ∧ q ≤ l.length := by
  unfold spec_l1Rd_next.f
  by_cases h : p ≥ (l.length : Int)
  · exact ⟨0, p, by rw [if_pos h], by omega, by omega, h0, h1⟩
  · have e1 : wrap64 (p + 1) = p + 1 := by unfold wrap64; omega
    have e2 : wrap64 (p + 1 - 1) = p := by unfold wrap64; omega
    obtain ⟨r0, r1⟩ := rd_u8 hb p
    have e3 : wrap64 (rd l p) = rd l p := by unfold wrap64; omega
    exact ⟨rd l p, p + 1, by rw [if_neg h, e1, e2, if_pos h0, if_pos (by omega), e3], r0, r1, by omega, by omega⟩
include hb hm in
theorem below_ok (p n : Int) (h0 : 0 ≤ p) (h1 : p ≤ l.length) (n0 : 1 ≤ n) (n1 : n ≤ 1000000) : ∃ c q, spec_l1Rd_below.f l p n = some (c, q) ∧ 0 ≤ c ∧ c < n ∧ 0 ≤ q ∧ q ≤ l.length := by
  unfold spec_l1Rd_below.f
  by_cases h : n ≤ 1
  · exact ⟨0, p, by rw [if_pos h], by omega, by omega, h0, h1⟩
  · rw [if_neg h]
    obtain ⟨c, q, hc, c0, c1, q0, q1⟩ := next_ok hb hm p h0 h1
    by_cases h2 : n ≤ 256
    · refine ⟨c % n, q, ?_, Int.emod_nonneg _ (by omega), Int.emod_lt_of_pos _ (by omega), q0, q1⟩
      rw [if_pos h2, hc]; simp only [Option.bind_some]; rw [if_neg (by omega), Int.tmod_eq_emod_of_nonneg c0]
    · obtain ⟨d, q', hd, d0, d1, q0', q1'⟩ := next_ok hb hm q q0 q1
      have e : wrap64 (wrap64 (c * 256) + d) = c * 256 + d := by unfold wrap64; omega
      refine ⟨(c * 256 + d) % n, q', ?_, Int.emod_nonneg _ (by omega), Int.emod_lt_of_pos _ (by omega), q0', q1'⟩
      rw [if_neg h2, hc]; simp only [Option.bind_some]; rw [hd]; simp only [Option.bind_some]; rw [if_neg (by omega), e, Int.tmod_eq_emod_of_nonneg (by omega)]
include hb hm in
theorem once_ok (p n : Int) (h0 : 0 ≤ p) (h1 : p ≤ l.length) (n0 : 1 ≤ n) (n1 : n ≤ 1000000) : ∃ b q, spec_l1Rd_once.f l p n = some (b, q) ∧ 0 ≤ q ∧ q ≤ l.length := by
  unfold spec_l1Rd_once.f
  obtain ⟨c, q, hc, c0, c1, q0, q1⟩ := below_ok hb hm p n h0 h1 n0 n1
  exact ⟨_, q, by rw [hc]; rfl, q0, q1⟩
theorem or_u64_range (x y : Int) : 0 ≤ Go.bits .or .u64 x y ∧ Go.bits .or .u64 x y ≤ 18446744073709551615 := by
  simp only [Go.bits, IntKind.wrap_u64]; omega
include hb hm in
theorem word_loop (d : Nat) : ∀ (x j p : Int), j + d = 8 → 0 ≤ j → 0 ≤ x → x ≤ 18446744073709551615 → 0 ≤ p → p ≤ l.length → ∃ r q, Ev (fun k => spec_l1Rd_word.l0 k x j l p) (r, q) ∧ 0 ≤ r ∧ r ≤ 18446744073709551615 ∧ 0 ≤ q ∧ q ≤ l.length := by
  induction d with
  | zero =>
    intro x j p hj hj0 x0 x1 h0 h1
    refine ⟨x, p, Ev.step (f := fun _ => some (x, p)) (fun k => ?_) (Ev.now _), x0, x1, h0, h1⟩
    simp only [spec_l1Rd_word.l0]; rw [if_neg (by omega)]
  | succ d ih =>
    intro x j p hj hj0 x0 x1 h0 h1
    obtain ⟨c, q, hc, c0, c1, q0, q1⟩ := next_ok hb hm p h0 h1
    obtain ⟨r0, r1⟩ := or_u64_range (IntKind.u64.wrap (x * 256)) (IntKind.u64.wrap c)
    obtain ⟨r, q', hr, h⟩ := ih _ (j + 1) q (by omega) (by omega) r0 r1 q0 q1
    refine ⟨r, q', Ev.step (f := fun k => spec_l1Rd_word.l0 k (Go.bits .or .u64 (IntKind.u64.wrap (x * 256)) (IntKind.u64.wrap c)) (j + 1) l q) (fun k => ?_) hr, h⟩
    simp only [spec_l1Rd_word.l0]; rw [if_pos (by omega), hc]; simp only [Option.bind_some]
    rw [show wrap64 (j + 1) = j + 1 by unfold wrap64; omega]
include hb hm in
theorem word_ok (p : Int) (h0 : 0 ≤ p) (h1 : p ≤ l.length) : ∃ r q, Ev (fun k => spec_l1Rd_word.f k l p) (r, q) ∧ 0 ≤ r ∧ r ≤ 18446744073709551615 ∧ 0 ≤ q ∧ q ≤ l.length := by
  unfold spec_l1Rd_word.f
  exact word_loop hb hm 8 0 0 p (by omega) (by omega) (by omega) (by omega) h0 h1
include hb hm in
theorem near_ok (p lo hi : Int) (h0 : 0 ≤ p) (h1 : p ≤ l.length) (b0 : -4611686018427387904 ≤ lo) (b1 : lo ≤ hi) (b2 : hi ≤ 4611686018427387903) :
    ∃ r q, Ev (fun k => spec_l1Rd_near.f k l p lo hi) (r, q) ∧ lo ≤ r ∧ r ≤ hi ∧ 0 ≤ q ∧ q ≤ l.length := by
  unfold spec_l1Rd_near.f
  obtain ⟨c, q, hc, c0, c1, q0, q1⟩ := below_ok hb hm p 8 h0 h1 (by omega) (by omega)
  simp only [hc, Option.bind_some]
  by_cases z0 : c = 0
  · exact ⟨lo, q, by simp only [if_pos z0]; exact Ev.now _, by omega, by omega, q0, q1⟩
  by_cases z1 : c = 1
  · exact ⟨hi, q, by simp only [if_neg z0, if_pos z1]; exact Ev.now _, by omega, by omega, q0, q1⟩
  obtain ⟨r, q', hr, r0, r1, q0', q1'⟩ := word_ok hb hm q q0 q1
  have e1 : IntKind.u64.wrap (wrap64 (wrap64 (hi - lo) + 1)) = hi - lo + 1 := by rw [IntKind.wrap_u64]; unfold wrap64; omega
  have m0 : 0 ≤ (r / 2) % (hi - lo + 1) := Int.emod_nonneg _ (by omega)
  have m1 : (r / 2) % (hi - lo + 1) < hi - lo + 1 := Int.emod_lt_of_pos _ (by omega)
  have e2 : wrap64 (lo + wrap64 (Int.tmod (r / 2) (hi - lo + 1))) = lo + (r / 2) % (hi - lo + 1) := by
    rw [Int.tmod_eq_emod_of_nonneg (by omega)]; unfold wrap64; omega
  refine ⟨lo + (r / 2) % (hi - lo + 1), q', ?_, by omega, by omega, q0', q1'⟩
  simp only [if_neg z0, if_neg z1, if_neg (show ¬ hi < lo by omega), e1, if_neg (show ¬ hi - lo + 1 = 0 by omega)]
  refine Ev.bind hr ?_
  simp only [e2]; exact Ev.now _
include hb hm in
theorem data_ok (p : Int) (h0 : 0 ≤ p) (h1 : p ≤ l.length) : ∃ (s : ByteArray) (q : Int), spec_l1Rd_data.f l p = some (s, q) ∧ s.size ≤ 6 ∧ 0 ≤ q ∧ q ≤ l.length := by
  unfold spec_l1Rd_data.f
  obtain ⟨c, q, hc, c0, c1, q0, q1⟩ := below_ok hb hm p 8 h0 h1 (by omega) (by omega)
  simp only [Option.bind_some, hc]
  rw [if_pos c0, if_pos (by simp only [List.length_cons, List.length_nil]; omega)]
  refine ⟨_, q, rfl, ?_, q0, q1⟩
  have : c = 0 ∨ c = 1 ∨ c = 2 ∨ c = 3 ∨ c = 4 ∨ c = 5 ∨ c = 6 ∨ c = 7 := by omega
  rcases this with rfl | rfl | rfl | rfl | rfl | rfl | rfl | rfl <;> decide
include hb hm in
theorem frameDraw_ok (p : Int) (h0 : 0 ≤ p) (h1 : p ≤ l.length) : ∃ (a : Int) (s : ByteArray) (q : Int), Ev (fun k => spec_l1Rd_frame.f k l p) (a, s, q) ∧ (1 ≤ a ∧ a ≤ 100) ∧ s.size ≤ 6 ∧ 0 ≤ q ∧ q ≤ l.length := by
  unfold spec_l1Rd_frame.f
  obtain ⟨a, q, ha, a0, a1, q0, q1⟩ := near_ok hb hm p 1 100 h0 h1 (by omega) (by omega) (by omega)
  obtain ⟨s, q', hs, s0, q0', q1'⟩ := data_ok hb hm q q0 q1
  refine ⟨a, s, q', Ev.bind ha ?_, ⟨a0, a1⟩, s0, q0', q1'⟩
  simp only [hs, Option.bind_some]; exact Ev.now _
theorem drawF_fill (t : ByteArray) (ht : t.size ≤ 20) (d : Nat) : ∀ (xs : List Int) (n : Int), n.toNat ≤ d → n ≤ 2001 → xs.length + 20 * n.toNat ≤ 100000 → ∃ r : ByteArray, Ev (fun k => spec_DrawReadFrames.l1 k t xs n) r ∧ r.size ≤ 100000 := by
  induction d with
  | zero =>
    intro xs n hd hn hx
    refine ⟨strOfNums xs, Ev.step (f := fun _ => some (strOfNums xs)) (fun k => ?_) (Ev.now _), by rw [size_strOfNums]; omega⟩
    simp only [spec_DrawReadFrames.l1]; rw [if_neg (by omega)]
  | succ d ih =>
    intro xs n hd hn hx
    by_cases h : n > 0
    · have hl := bytesOf_length t
      obtain ⟨r, hr, hz⟩ := ih (xs ++ bytesOf t) (n - 1) (by omega) (by omega) (by rw [List.length_append]; omega)
      refine ⟨r, Ev.step (fun k => ?_) hr, hz⟩
      simp only [spec_DrawReadFrames.l1]; rw [if_pos h, if_pos (by omega), show wrap64 (n - 1) = n - 1 by unfold wrap64; omega]
    · refine ⟨strOfNums xs, Ev.step (f := fun _ => some (strOfNums xs)) (fun k => ?_) (Ev.now _), by rw [size_strOfNums]; omega⟩
      simp only [spec_DrawReadFrames.l1]; rw [if_neg h]
include hb hm in
theorem drawF_end (xs : List Int) (hx : xs.length ≤ 100000) (p : Int) (h0 : 0 ≤ p) (h1 : p ≤ l.length) : ∃ r : ByteArray, Ev (fun k => spec_DrawReadFrames.j1 k xs l p) r ∧ r.size ≤ 100000 := by
  obtain ⟨b, q, hc, q0, q1⟩ := once_ok hb hm p 80 h0 h1 (by omega) (by omega)
  cases b with
  | false =>
    refine ⟨strOfNums xs, Ev.step (f := fun _ => some (strOfNums xs)) (fun k => ?_) (Ev.now _), by rw [size_strOfNums]; omega⟩
    simp only [spec_DrawReadFrames.j1, hc, Option.bind_some, Bool.false_eq_true, if_false]
  | true =>
    obtain ⟨c, q', hd, c0, c1, q0', q1'⟩ := below_ok hb hm q 2 q0 q1 (by omega) (by omega)
    have hf := frameM_size 1 ⟨#[]⟩
    have hf0 : (⟨#[]⟩ : ByteArray).size = 0 := rfl
    obtain ⟨r, hr, hz⟩ := drawF_fill (frameM 1 ⟨#[]⟩) (by omega) (2000 + c).toNat [] (2000 + c) (Nat.le_refl _) (by omega) (by simp only [List.length_nil]; omega)
    refine ⟨r, Ev.step (f := fun k => (spec_WriteFrame.f k 1 ⟨#[]⟩).bind fun t => spec_DrawReadFrames.l1 k t [] (2000 + c)) (fun k => ?_) (Ev.bind (spec_frame 1 ⟨#[]⟩) hr), hz⟩
    simp only [spec_DrawReadFrames.j1, hc, hd, Option.bind_some, if_true, show wrap64 (2000 + c) = 2000 + c by unfold wrap64; omega]
include hb hm in
theorem drawF_loop (d : Nat) : ∀ (s : ByteArray) (n p : Int), n.toNat ≤ d → n ≤ 5 → s.size + 20 * n.toNat ≤ 1000 → 0 ≤ p → p ≤ l.length → ∃ r : ByteArray, Ev (fun k => spec_DrawReadFrames.l0 k s n l p) r ∧ r.size ≤ 100000 := by
  have stop : ∀ (s : ByteArray) (n p : Int), ¬ n > 0 → s.size ≤ 1000 → 0 ≤ p → p ≤ l.length → ∃ r : ByteArray, Ev (fun k => spec_DrawReadFrames.l0 k s n l p) r ∧ r.size ≤ 100000 := by
    intro s n p hn hs h0 h1
    by_cases he : s.toList = []
    · obtain ⟨c, q, hc, c0, c1, q0, q1⟩ := below_ok hb hm p 6 h0 h1 (by omega) (by omega)
      refine ⟨_, Ev.step (f := fun _ => some (rdOf ByteArray.empty [(⟨#[]⟩ : ByteArray), ⟨#[0]⟩, ⟨#[1]⟩, ⟨#[1, 0, 0, 0]⟩, ⟨#[1, 255, 255, 255, 255]⟩, ⟨#[1, 0, 0, 0, 0, 0, 0, 0]⟩] c)) (fun k => ?_) (Ev.now _), ?_⟩
      · simp only [spec_DrawReadFrames.l0]; rw [if_neg hn, if_pos he, Option.bind_some, hc, Option.bind_some, if_pos c0, if_pos (by simp only [List.length_cons, List.length_nil]; omega)]
      · have : c = 0 ∨ c = 1 ∨ c = 2 ∨ c = 3 ∨ c = 4 ∨ c = 5 := by omega
        rcases this with rfl | rfl | rfl | rfl | rfl | rfl <;> decide
    have hl := bytesOf_length s
    have hne : s.size ≠ 0 := fun h => he (by
      have : s.data.toList = [] := by apply List.eq_nil_of_length_eq_zero; rw [Array.length_toList]; exact h
      rw [ByteArray.toList_eq]; exact this)
    obtain ⟨i, q, hi, i0, i1, q0, q1⟩ := below_ok hb hm p ((bytesOf s).length : Int) h0 h1 (by omega) (by omega)
    obtain ⟨c, q2, hc, c0, c1, q20, q21⟩ := below_ok hb hm q 8 q0 q1 (by omega) (by omega)
    have base : ∀ k, spec_DrawReadFrames.l0 (k + 1) s n l p = (if c = 0 then ((spec_l1Rd_below.f l q2 256).bind fun bt161 => (if 0 ≤ i then (if i < ((bytesOf s).length : Int) then (spec_DrawReadFrames.j1 k ((bytesOf s).set (i : Int).toNat ((bt161.1) % 256)) l bt161.2) else (none)) else (none))) else (if c = 1 then (if 0 ≤ i then (if i ≤ ((bytesOf s).length : Int) then (spec_DrawReadFrames.j1 k ((bytesOf s).take (i : Int).toNat) l q2) else (none)) else (none)) else (if c = 2 then ((spec_l1Rd_below.f l q2 120).bind fun bt167 => (if (bytesOf s).length < 140737488355328 then (spec_DrawReadFrames.j1 k ((bytesOf s) ++ [(bt167.1) % 256]) l bt167.2) else (none))) else (spec_DrawReadFrames.j1 k (bytesOf s) l q2)))) := fun k => by
      simp only [spec_DrawReadFrames.l0]; rw [if_neg hn, if_neg he, if_pos (by omega), Option.bind_some, hi, Option.bind_some, hc, Option.bind_some]
    by_cases z0 : c = 0
    · obtain ⟨x, q3, hx, x0, x1, q30, q31⟩ := below_ok hb hm q2 256 q20 q21 (by omega) (by omega)
      obtain ⟨r, hr, hz⟩ := drawF_end hb hm ((bytesOf s).set i.toNat (x % 256)) (by rw [List.length_set]; omega) q3 q30 q31
      exact ⟨r, Ev.step (fun k => by rw [base, if_pos z0, hx, Option.bind_some, if_pos i0, if_pos i1]) hr, hz⟩
    by_cases z1 : c = 1
    · obtain ⟨r, hr, hz⟩ := drawF_end hb hm ((bytesOf s).take i.toNat) (by rw [List.length_take]; omega) q2 q20 q21
      exact ⟨r, Ev.step (fun k => by rw [base, if_neg z0, if_pos z1, if_pos i0, if_pos (by omega)]) hr, hz⟩
    by_cases z2 : c = 2
    · obtain ⟨x, q3, hx, x0, x1, q30, q31⟩ := below_ok hb hm q2 120 q20 q21 (by omega) (by omega)
      obtain ⟨r, hr, hz⟩ := drawF_end hb hm ((bytesOf s) ++ [x % 256]) (by rw [List.length_append]; simp only [List.length_cons, List.length_nil]; omega) q3 q30 q31
      exact ⟨r, Ev.step (fun k => by rw [base, if_neg z0, if_neg z1, if_pos z2, hx, Option.bind_some, if_pos (by omega)]) hr, hz⟩
    obtain ⟨r, hr, hz⟩ := drawF_end hb hm (bytesOf s) (by omega) q2 q20 q21
    exact ⟨r, Ev.step (fun k => by rw [base, if_neg z0, if_neg z1, if_neg z2]) hr, hz⟩
  induction d with
  | zero => intro s n p hd hn hs h0 h1; exact stop s n p (by omega) (by omega) h0 h1
  | succ d ih =>
    intro s n p hd hn hs h0 h1
    by_cases h : n > 0
    · obtain ⟨a, t, q, hf, a0, t0, q0, q1⟩ := frameDraw_ok hb hm p h0 h1
      have hz := frameM_size a t
      obtain ⟨r, hr, hrz⟩ := ih (s ++ frameM a t) (n - 1) q (by omega) (by omega) (by rw [ByteArray.size_append]; omega) q0 q1
      refine ⟨r, Ev.step (f := fun k => (spec_l1Rd_frame.f k l p).bind fun x => (spec_WriteFrame.f k x.1 x.2.1).bind fun t => if s.size + t.size ≤ 9223372036854775807 then spec_DrawReadFrames.l0 k (s ++ t) (n - 1) l x.2.2 else none) (fun k => ?_) (Ev.bind hf (Ev.bind (spec_frame a t) ?_)), hrz⟩
      · simp only [spec_DrawReadFrames.l0]; rw [if_pos h, show wrap64 (n - 1) = n - 1 by unfold wrap64; omega]
      · simp only [if_pos (show s.size + (frameM a t).size ≤ 9223372036854775807 by omega)]; exact hr
    · exact stop s n p h (by omega) h0 h1
include hb hm in
theorem drawFrames_ok : ∃ r : ByteArray, Ev (fun k => spec_DrawReadFrames.f k l) r ∧ r.size ≤ 100000 := by
  unfold spec_DrawReadFrames.f spec_l1Open.f
  have hmn : ∀ n : Nat, n ≤ 140737488351232 → 1 ≤ mn 5 (wrap64 (1 + wrap64 ((n : Int) / 3))) ∧ mn 5 (wrap64 (1 + wrap64 ((n : Int) / 3))) ≤ 5 := by
    intro n hn
    have e1 : wrap64 ((n : Int) / 3) = (n : Int) / 3 := by unfold wrap64; omega
    have e2 : wrap64 (1 + (n : Int) / 3) = 1 + (n : Int) / 3 := by unfold wrap64; omega
    rw [e1, e2]
    clear e1 e2
    unfold mn; split <;> omega
  have hmn := hmn l.length hm
  generalize mn 5 (wrap64 (1 + wrap64 ((l.length : Int) / 3))) = W at hmn ⊢
  obtain ⟨m0, m1⟩ := hmn
  obtain ⟨c, q, hc, c0, c1, q0, q1⟩ := below_ok hb hm 0 W (by omega) (by omega) m0 (by omega)
  obtain ⟨r, hr, hz⟩ := drawF_loop hb hm c.toNat ⟨#[]⟩ c q (Nat.le_refl _) (by omega) (by rw [show (⟨#[]⟩ : ByteArray).size = 0 from rfl]; omega) q0 q1
  refine ⟨r, ?_, hz⟩
  exact Ev.bind (Ev.now (l, (0 : Int))) (Ev.bind (Ev.is hc) hr)
end
theorem rdF (l : List FR) (i : Nat) (h : i < l.length) : rd_T31 l (i : Int) = l[i] := getD_at l i _ h
theorem same_refl (a b : List FR) (h : a = b) (hl : a.length ≤ 2097152) : Ev (fun k => laws_sameFrames.f k a b) true := by
  subst h
  unfold laws_sameFrames.f
  simp only [if_true]
  refine on_loop (n := a.length) (F := fun k i => laws_sameFrames.l0 k a a i) (fun i hi k => ?_) (Ev.step (f := fun _ => some true) (fun k => ?_) (Ev.now _))
  · simp only [laws_sameFrames.l0]; rw [if_pos (by omega), if_pos (by omega), if_pos (by omega), if_neg (by simp), wrap_nat i (by omega)]
  · simp only [laws_sameFrames.l0]; rw [if_neg (by omega)]
theorem wframe (x : Int × ByteArray) : Ev (fun k => impl_WriteFrame.f k x.1 x.2) (frameM x.1 x.2) := by
  unfold impl_WriteFrame.f; exact Ev.bind (impl_frame x.1 x.2) (Ev.now _)
/-- The frames are written back; then the law looks at a beginning of the bytes. -/
theorem write_loop (code : List Int) (s : ByteArray) (n : Int) (fs : List (Int × ByteArray)) (hf : fs.length ≤ 2000) (d : Nat) (r : Bool) :
    ∀ (i : Nat) (acc : ByteArray), i + d = fs.length → (acc ++ joinF (fs.drop i)).size ≤ 140737488351232 →
      Ev (fun k => laws_FnFramed.l0 k code s (fs.map mkF) n (acc ++ joinF (fs.drop i)) (fs.length : Int)) r → Ev (fun k => laws_FnFramed.l0 k code s (fs.map mkF) n acc (i : Int)) r := by
  induction d with
  | zero =>
    intro i acc hi hs hr
    rw [List.drop_eq_nil_of_le (by omega), joinF, show acc ++ (⟨#[]⟩ : ByteArray) = acc by apply bytesOf_inj; rw [bytesOf_append]; simp [bytesOf]] at hr
    rw [show i = fs.length by omega]; exact hr
  | succ d ih =>
    intro i acc hi hs hr
    have hlt : i < fs.length := by omega
    have hd : fs.drop i = fs[i] :: fs.drop (i + 1) := List.drop_eq_getElem_cons hlt
    rw [hd, joinF, ← ByteArray.append_assoc] at hr hs
    have hz : acc.size + (frameM fs[i].1 fs[i].2).size ≤ 9223372036854775807 := by
      rw [ByteArray.size_append, ByteArray.size_append] at hs; omega
    have := ih (i + 1) (acc ++ frameM fs[i].1 fs[i].2) (by omega) hs hr
    refine Ev.step (f := fun k => (impl_WriteFrame.f k fs[i].1 fs[i].2).bind fun t => if acc.size + t.size ≤ 9223372036854775807 then laws_FnFramed.l0 k code s (fs.map mkF) n (acc ++ t) ((i + 1 : Nat) : Int) else none) (fun k => ?_) (Ev.bind (wframe fs[i]) ?_)
    · simp only [laws_FnFramed.l0]
      rw [if_pos (by rw [List.length_map]; omega), if_pos (by omega), rdF _ i (by rw [List.length_map]; omega), List.getElem_map, wrap_nat i (by omega)]
      rfl
    · simp only [if_pos hz]; exact this
end FramedOf
open FramedOf

theorem FnFramed : laws_FnFramed.Pure := by
  intro l hm hs hb
  refine Ev.rounds (g := fun k => laws_FnFramed.f k l) ?_
  obtain ⟨s, hd, hz⟩ := drawFrames_ok hb (by omega)
  unfold laws_FnFramed.f laws_big.f
  simp only [Option.bind_some]
  by_cases h0 : decide ((l.length : Int) > 1048576) = true
  · simp only [if_pos h0]; exact Ev.now _
  simp only [if_neg h0]
  obtain ⟨hl, m, hm1, _, hm2⟩ := readM_in s (s.size + 1) [] 0 (by omega) (by simp)
  obtain ⟨gs, m', g1, g2, g3, g4, g5⟩ := readM_back s (s.size + 1) [] 0 (by omega)
  have hmm : m' = m := by omega
  subst hmm
  rw [List.nil_append] at g1
  have hq1 := readM_prefix s
  refine Ev.bind hd (Ev.bind (spec_ReadFrames_eq s (by omega)) (Ev.bind (impl_ReadFrames_eq s (by omega)) ?_))
  have hpre := fun (j : Nat) (hj : j ≤ s.size) => readM_prefix s j hj ((s.extract 0 j).size + 1) (s.size + 1) [] 0 (by omega) (by omega)
  clear hq1
  generalize readM s (s.size + 1) [] 0 = R0 at *
  obtain ⟨R1, R2, R3⟩ := R0
  subst g1
  subst g2
  dsimp only at hl hpre g5
  clear hm1
  simp only [mkR, if_true]
  refine Ev.bind (same_refl _ _ rfl (by rw [List.length_map]; omega)) ?_
  simp only [if_true]
  by_cases h1 : (s.size : Int) > 2000
  · refine Ev.step (f := fun _ => some true) (fun k => ?_) (Ev.now _)
    simp only [laws_FnFramed.j0, h1, decide_true, if_true]; simp
  refine Ev.step (f := fun k => laws_FnFramed.l0 k l s (R1.map mkF) (m' : Int) ⟨#[]⟩ ((0 : Nat) : Int)) (fun k => ?_) ?_
  · simp only [laws_FnFramed.j0, h1, decide_false, Bool.false_eq_true, if_false]; rfl
  refine write_loop l s m' R1 hl R1.length true 0 ⟨#[]⟩ (by omega) ?_ ?_
  · rw [List.drop_zero, ByteArray.size_append, g5, extract_size _ _ _ (by omega) g4]; show 0 + _ ≤ _; omega
  rw [List.drop_zero, show (⟨#[]⟩ : ByteArray) ++ joinF R1 = joinF R1 by apply bytesOf_inj; rw [bytesOf_append]; simp [bytesOf], g5]
  have hq : wrap64 ((s.size : Int) + 1) = ((s.size + 1 : Nat) : Int) := by unfold wrap64; omega
  have hk : (l.length : Int) % ((s.size + 1 : Nat) : Int) = ((l.length % (s.size + 1) : Nat) : Int) := rfl
  have hj := Nat.mod_lt l.length (show s.size + 1 > 0 by omega)
  generalize l.length % (s.size + 1) = j at hk hj
  have hjz : (s.extract 0 j).size = j := by rw [extract_size _ _ _ (by omega) (by omega)]; omega
  obtain ⟨hl2, m2, hm21, _, hm22⟩ := readM_in (s.extract 0 j) ((s.extract 0 j).size + 1) [] 0 (by omega) (by simp)
  obtain ⟨ps, p1, p2⟩ := hpre j (by omega)
  rw [hm21] at p2
  have hrd := impl_ReadFrames_eq (s.extract 0 j) (by omega)
  generalize readM (s.extract 0 j) ((s.extract 0 j).size + 1) [] 0 = R at *
  refine Ev.step (f := fun k => (impl_ReadFrames.f k (s.extract 0 j)).bind fun x => (if (x.1.length : Int) ≤ ((R1.map mkF).length : Int) then (if 0 ≤ (x.1.length : Int) then ((laws_sameFrames.f k x.1 ((R1.map mkF).take ((x.1.length : Int) : Int).toNat)).bind fun t285 => (if t285 = true then (if x.2.1 ≤ (j : Int) then (some (decide (x.2.1 ≤ (m' : Int)))) else (some false)) else (some false))) else (none)) else (some false))) (fun k => ?_) (Ev.bind hrd ?_)
  · simp only [laws_FnFramed.l0]
    rw [if_neg (by rw [List.length_map]; omega), if_pos (by omega), if_pos (by omega), Int.toNat_natCast, if_pos rfl, hq, if_neg (by omega), hk, if_pos (by omega), if_pos (by omega), Int.toNat_natCast]
  · simp only [mkR]
    have hle : (R.1.map mkF).length ≤ (R1.map mkF).length := by rw [p1]; simp
    have hle1 : ((R.1.map mkF).length : Int) ≤ ((R1.map mkF).length : Int) := by omega
    have hle2 : (0 : Int) ≤ ((R.1.map mkF).length : Int) := by omega
    refine Ev.congr (f := fun k => (laws_sameFrames.f k (R.1.map mkF) ((R1.map mkF).take (R.1.map mkF).length)).bind fun t => if t = true then (if R.2.1 ≤ (j : Int) then some (decide (R.2.1 ≤ (m' : Int))) else some false) else some false) (fun k => by refine (if_pos hle1).trans ((if_pos hle2).trans ?_); rw [Int.toNat_natCast]; rfl) ?_
    refine Ev.bind (same_refl (R.1.map mkF) ((R1.map mkF).take (R.1.map mkF).length) (by rw [p1, List.map_append, List.take_left]) (by rw [List.length_map]; omega)) ?_
    simp only [if_true, hm21]
    rw [if_pos (by omega), decide_eq_true (show (m2 : Int) ≤ (m' : Int) by omega)]
    exact Ev.now _

end Go.Proofs.Ythjpfkphfenbeaa.Pure
