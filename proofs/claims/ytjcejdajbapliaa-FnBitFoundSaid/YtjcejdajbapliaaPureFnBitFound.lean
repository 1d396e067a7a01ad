/- For every code: the drawn frame is read from its bytes, and with one bit turned over, but in its length, it is not read as a frame. No condition but the size that the model lets a code have. -/
import Derived.Test.YtjcejdajbapliaaQFnBitFoundx
import Derived.Test.YtjcejdajbapliaaCrcInjFnBitFound
namespace Go.Proofs.Ytjcejdajbapliaa.Pure
open Go.RowKit Go.Proofs.Ytjcejdajbapliaa.QFnBitFound Go.Proofs.YtjcejdajbapliaaW.PrintWords Go.Proofs.YtjcejdajbapliaaW.PrintLast Go.Proofs.YtjcejdajbapliaaW.PrintMore Go.Proofs.Ytjcejdajbapliaa.Bits Go.Proofs.Ytjcejdajbapliaa.Num Go.Proofs.Ytjcejdajbapliaa.Crc Go.Proofs.Ytjcejdajbapliaa.Frame Go.Proofs.Ytjcejdajbapliaa.FrameRead Go.Proofs.Ytjcejdajbapliaa.CrcInj Go.Proofs.Ytjcejdajbapliaa.Loops
set_option linter.unusedSimpArgs false
set_option linter.unusedVariables false
namespace BitFoundOf
theorem spec_crc_in (s : ByteArray) (i : Nat) (r : Int) (hi : i < s.size) (hs : s.size ≤ 140737488351232) (d : Nat) : ∀ (j : Nat) (x : Int), j + d = 8 →
    Ev (fun k => spec_Crc.l0 k s (crcBits d x) ((i + 1 : Nat) : Int)) r → Ev (fun k => spec_Crc.l1 k s x (i : Int) (j : Int)) r := by
  induction d with
  | zero =>
    intro j x hj hr
    refine Ev.step (fun k => ?_) hr
    simp only [spec_Crc.l1]; rw [if_neg (by omega), wrap_succ i _ hi hs]; rfl
  | succ d ih =>
    intro j x hj hr
    refine Ev.step (f := fun k => spec_Crc.l1 k s (crcBit x) (i : Int) ((j + 1 : Nat) : Int)) (fun k => ?_) (ih (j + 1) (crcBit x) (by omega) hr)
    simp only [spec_Crc.l1, crcBit]; rw [if_pos (by omega), wrap_lit j (by omega)]
    by_cases h : Go.bits .and .u32 x 1 = 1
    · rw [if_pos h, if_pos h]
    · rw [if_neg h, if_neg h]
theorem spec_crc_out (s : ByteArray) (hs : s.size ≤ 140737488351232) (d : Nat) : ∀ (i : Nat) (x : Int), i + d = s.size → Ev (fun k => spec_Crc.l0 k s x (i : Int)) (Go.bits .xor .u32 4294967295 (crcL x ((bytesOf s).drop i))) := by
  induction d with
  | zero =>
    intro i x hi
    rw [List.drop_eq_nil_of_le (by rw [bytesOf_length]; omega)]
    refine Ev.step (f := fun _ => some (Go.bits .xor .u32 4294967295 x)) (fun k => ?_) (Ev.now _)
    simp only [spec_Crc.l0]; rw [if_neg (by omega)]
  | succ d ih =>
    intro i x hi
    have hlt : i < s.size := by omega
    rw [drop_bytes s i hlt]
    refine Ev.step (f := fun k => spec_Crc.l1 k s (Go.bits .xor .u32 x (bt s i)) (i : Int) ((0 : Nat) : Int)) (fun k => ?_) (spec_crc_in s i _ hlt hs 8 0 _ rfl (ih (i + 1) _ (by omega)))
    simp only [spec_Crc.l0]; rw [if_pos (by omega), if_pos (by omega), bt_mod]; rfl
theorem spec_crc (s : ByteArray) (hs : s.size ≤ 140737488351232) : Ev (fun k => spec_Crc.f k s) (crcM s) := by
  unfold spec_Crc.f
  exact spec_crc_out s hs s.size 0 4294967295 (by omega)
theorem impl_crc_in (s : ByteArray) (i : Nat) (r : Int) (hi : i < s.size) (hs : s.size ≤ 140737488351232) (d : Nat) : ∀ (j : Nat) (x : Int), j + d = 8 →
    Ev (fun k => impl_crc.l0 k s (crcBits d x) (s.size : Int) ((i + 1 : Nat) : Int)) r → Ev (fun k => impl_crc.l1 k s x (s.size : Int) (i : Int) (j : Int)) r := by
  induction d with
  | zero =>
    intro j x hj hr
    refine Ev.step (fun k => ?_) hr
    simp only [impl_crc.l1]; rw [if_neg (by omega), wrap_succ i _ hi hs]; rfl
  | succ d ih =>
    intro j x hj hr
    refine Ev.step (f := fun k => impl_crc.l1 k s (crcBit x) (s.size : Int) (i : Int) ((j + 1 : Nat) : Int)) (fun k => ?_) (ih (j + 1) (crcBit x) (by omega) hr)
    simp only [impl_crc.l1, crcBit]; rw [if_pos (by omega), wrap_lit j (by omega)]
    by_cases h : Go.bits .and .u32 x 1 = 1
    · rw [if_pos h, if_pos h]
    · rw [if_neg h, if_neg h]
theorem impl_crc_out (s : ByteArray) (hs : s.size ≤ 140737488351232) (d : Nat) : ∀ (i : Nat) (x : Int), i + d = s.size → Ev (fun k => impl_crc.l0 k s x (s.size : Int) (i : Int)) (Go.bits .xor .u32 4294967295 (crcL x ((bytesOf s).drop i))) := by
  induction d with
  | zero =>
    intro i x hi
    rw [List.drop_eq_nil_of_le (by rw [bytesOf_length]; omega)]
    refine Ev.step (f := fun _ => some (Go.bits .xor .u32 4294967295 x)) (fun k => ?_) (Ev.now _)
    simp only [impl_crc.l0]; rw [if_neg (by omega)]
  | succ d ih =>
    intro i x hi
    have hlt : i < s.size := by omega
    rw [drop_bytes s i hlt]
    refine Ev.step (f := fun k => impl_crc.l1 k s (Go.bits .xor .u32 x (bt s i)) (s.size : Int) (i : Int) ((0 : Nat) : Int)) (fun k => ?_) (impl_crc_in s i _ hlt hs 8 0 _ rfl (ih (i + 1) _ (by omega)))
    simp only [impl_crc.l0]; rw [if_pos (by omega), if_pos (by omega), if_pos (by omega), bt_mod]; rfl
theorem impl_crc_eq (s : ByteArray) (hs : s.size ≤ 140737488351232) : Ev (fun k => impl_crc.f k s) (crcM s) := by
  unfold impl_crc.f
  exact impl_crc_out s hs s.size 0 4294967295 (by omega)
theorem l1In_eq (a b c : Int) : spec_l1In.f a b c = some (decide (b ≤ a ∧ a ≤ c)) := by
  unfold spec_l1In.f
  by_cases h : a ≥ b
  · rw [if_pos h]; simp [h]
  · rw [if_neg h]; simp [h]
theorem spec_frame (kind : Int) (s : ByteArray) : Ev (fun k => spec_WriteFrame.f k kind s) (frameM kind s) := by
  have bad : Ev (fun k => spec_WriteFrame.j0 k true kind s) (⟨#[]⟩ : ByteArray) := Ev.step (f := fun _ => some ⟨#[]⟩) (fun k => by simp only [spec_WriteFrame.j0, if_true]) (Ev.now _)
  unfold spec_WriteFrame.f frameM
  simp only [l1In_eq, Option.bind_some]
  by_cases h1 : 1 ≤ kind ∧ kind ≤ 100
  · simp only [h1, and_self, decide_true, if_true, true_and]
    by_cases h2 : (s.size : Int) > 20000
    · simp only [h2, decide_true, if_neg (show ¬ (s.size : Int) ≤ 20000 by omega)]; exact bad
    · simp only [h2, decide_false, if_pos (show (s.size : Int) ≤ 20000 by omega)]
      have hz := frameHead_size kind s
      refine Ev.step (f := fun k => (spec_Crc.f k (frameHead kind s)).bind fun t => some (frameHead kind s ++ strOfNums (four t))) (fun k => ?_) (Ev.bind (spec_crc _ (by omega)) (Ev.now _))
      simp only [spec_WriteFrame.j0, Bool.false_eq_true, if_false, Option.bind_some, spec_l2Four.f]
      have e1 : (strOfNums [kind % 256]).size = 1 := by rw [size_strOfNums]; rfl
      have e2 : ∀ n : Int, (strOfNums [n % 256, n / 256 % 256, n / 65536 % 256, n / 16777216 % 256]).size = 4 := fun n => by rw [size_strOfNums]; rfl
      simp only [e1, e2, show 1 + 4 ≤ 9223372036854775807 by omega, show 1 + 4 + s.size ≤ 9223372036854775807 by omega, show 1 + 4 + s.size + 4 ≤ 9223372036854775807 by omega, if_true]
      rfl
  · simp only [h1, decide_false, Bool.false_eq_true, if_false, false_and]; exact bad
theorem in_eq (a b c : Int) : impl_in.f a b c = some (decide (b ≤ a ∧ a ≤ c)) := by
  unfold impl_in.f
  by_cases h : a ≥ b
  · rw [if_pos h]; simp [h]
  · rw [if_neg h]; simp [h]
theorem app32 (l : List Int) (n : Int) (h : l.length < 1000000) : binary_littleEndian_AppendUint32.f l n = some (l ++ four n) := by
  unfold binary_littleEndian_AppendUint32.f
  simp only [Option.bind_some]; rw [if_pos (by simp only [List.length_cons, List.length_nil]; omega)]; rfl
theorem impl_frame (kind : Int) (s : ByteArray) : Ev (fun k => impl_writeFrame.f k kind s) (frameM kind s) := by
  have bad : Ev (fun k => impl_writeFrame.j0 k true kind s) (⟨#[]⟩ : ByteArray) := Ev.step (f := fun _ => some ⟨#[]⟩) (fun k => by simp only [impl_writeFrame.j0, if_true]) (Ev.now _)
  unfold impl_writeFrame.f frameM
  simp only [in_eq, Option.bind_some]
  by_cases h1 : 1 ≤ kind ∧ kind ≤ 100
  · simp only [h1, and_self, decide_true, if_true, true_and]
    by_cases h2 : (s.size : Int) > 20000
    · simp only [h2, decide_true, if_neg (show ¬ (s.size : Int) ≤ 20000 by omega)]; exact bad
    · simp only [h2, decide_false, if_pos (show (s.size : Int) ≤ 20000 by omega)]
      have hz := frameHead_size kind s
      refine Ev.step (f := fun k => (impl_crc.f k (frameHead kind s)).bind fun t => some (frameHead kind s ++ strOfNums (four t))) (fun k => ?_) (Ev.bind (impl_crc_eq _ (by omega)) (Ev.now _))
      simp only [impl_writeFrame.j0, Bool.false_eq_true, if_false]
      rw [app32 _ _ (by simp)]
      have e1 : ([kind % 256] ++ four ((s.size : Int) % 4294967296)).length = 5 := rfl
      have e2 : ([kind % 256] ++ four ((s.size : Int) % 4294967296) ++ bytesOf s).length < 1000000 := by rw [List.length_append, e1, bytesOf_length]; omega
      simp only [Option.bind_some, e1, show 5 + s.size < 140737488355328 by omega, if_true, frameHead_list, app32 _ _ e2, strOfNums_append _ (four _)]
  · simp only [h1, decide_false, Bool.false_eq_true, if_false, false_and]; exact bad
abbrev FR := S31
def mkF (x : Int × ByteArray) : FR := ⟨x.1, x.2⟩
def mkR (x : List (Int × ByteArray) × Int × Int) : List FR × Int × Int := (x.1.map mkF, x.2.1, x.2.2)
theorem impl_word (t : ByteArray) (i : Nat) (h : i + 4 ≤ t.size) : binary_littleEndian_Uint32.f ((bytesOf t).drop i) = some (wordAt t i) := by
  unfold binary_littleEndian_Uint32.f wordAt wordOf
  have hz : ((bytesOf t).drop i).length = t.size - i := by rw [List.length_drop, bytesOf_length]
  have b0 := rd_drop t i 0
  have b1 := rd_drop t i 1
  have b2 := rd_drop t i 2
  have b3 := rd_drop t i 3
  rw [hz, if_pos (by omega), if_pos (by omega), if_pos (by omega), if_pos (by omega)]
  rw [show (0 : Int) = ((0 : Nat) : Int) from rfl, show (1 : Int) = ((1 : Nat) : Int) from rfl, show (2 : Int) = ((2 : Nat) : Int) from rfl, show (3 : Int) = ((3 : Nat) : Int) from rfl, b0, b1, b2, b3, Nat.add_zero]
theorem impl_read (s : ByteArray) (hs : s.size ≤ 140737488351232) (d : Nat) : ∀ (acc : List (Int × ByteArray)) (p : Nat), p ≤ s.size → s.size - p < d → acc.length ≤ 2000 →
    Ev (fun k => impl_readFrames.l0 k s (acc.map mkF) (p : Int)) (mkR (readM s d acc p)) := by
  induction d with
  | zero => intro acc p hp hd; omega
  | succ d ih =>
    intro acc p hp hd ha
    have hz : (s.extract p s.size).size = s.size - p := extract_size s p s.size hp (Nat.le_refl _)
    have hl : (bytesOf (s.extract p s.size)).length = s.size - p := by rw [bytesOf_length, hz]
    simp only [readM]
    by_cases h1 : p < s.size
    · rw [if_pos h1]
      by_cases h2 : acc.length = 2000
      · rw [if_pos h2]
        refine Ev.step (f := fun _ => some (acc.map mkF, (p : Int), 5)) (fun k => ?_) (Ev.now _)
        simp only [impl_readFrames.l0]
        rw [if_pos (by omega), if_pos (by omega), Int.toNat_natCast, if_pos (by omega), Option.bind_some, if_neg (by omega), if_pos (by rw [List.length_map]; omega)]
      rw [if_neg h2]
      have hup : Ev (fun k => impl_readFrames.j1 k s (acc.map mkF) (p : Int) (bytesOf (s.extract p s.size)) (decide (¬ (1 ≤ bt (s.extract p s.size) 0 ∧ bt (s.extract p s.size) 0 ≤ 100))))
          (mkR (if (frameOf (s.extract p s.size)).2.2.2 = 0 then readM s d (acc ++ [((frameOf (s.extract p s.size)).1, (frameOf (s.extract p s.size)).2.1)]) (p + (frameOf (s.extract p s.size)).2.2.1.toNat) else (acc, (p : Int), (frameOf (s.extract p s.size)).2.2.2))) := by
        generalize s.extract p s.size = t at hz hl
        obtain ⟨r0, r1⟩ := bt_range t 0
        obtain ⟨w0, w1⟩ := wordAt_range t 1
        have stop : ∀ c : Int, c ≠ 0 → frameOf t = (0, ⟨#[]⟩, 0, c) → mkR (if (frameOf t).2.2.2 = 0 then readM s d (acc ++ [((frameOf t).1, (frameOf t).2.1)]) (p + (frameOf t).2.2.1.toNat) else (acc, (p : Int), (frameOf t).2.2.2)) = (acc.map mkF, (p : Int), c) := fun c hc hf => by
          rw [hf]; simp only [if_neg hc]; rfl
        by_cases c1 : 1 ≤ bt t 0 ∧ bt t 0 ≤ 100
        · by_cases c2 : (t.size : Int) < 5
          · rw [stop 1 (by decide) (by unfold frameOf; rw [if_neg (not_not_intro c1), if_pos c2])]
            refine Ev.step (f := fun _ => some (acc.map mkF, (p : Int), 1)) (fun k => ?_) (Ev.now _)
            simp only [impl_readFrames.j1]; rw [if_neg (by simp [c1]), if_pos (by omega)]
          by_cases c3 : wordAt t 1 > 20000
          · rw [stop 3 (by decide) (by unfold frameOf; rw [if_neg (not_not_intro c1), if_neg c2, if_pos c3])]
            refine Ev.step (f := fun _ => some (acc.map mkF, (p : Int), 3)) (fun k => ?_) (Ev.now _)
            simp only [impl_readFrames.j1]; rw [if_neg (by simp [c1]), if_neg (by omega), if_pos (by omega), impl_word t 1 (by omega), Option.bind_some, if_pos c3]
          have E := Aside0.mk (w_cuts (wordAt t 1) w0 (by omega))
          by_cases c4 : (t.size : Int) < 9 + wordAt t 1
          · rw [stop 1 (by decide) (by unfold frameOf; rw [if_neg (not_not_intro c1), if_neg c2, if_neg c3, if_pos c4])]
            refine Ev.step (f := fun _ => some (acc.map mkF, (p : Int), 1)) (fun k => ?_) (Ev.now _)
            have g1 : ((bytesOf t).length : Int) < 9 + wordAt t 1 := by
              rw [hl, ← hz]; exact c4
            simp only [impl_readFrames.j1]; rw [if_neg (by simp [c1]), if_neg (by omega), if_pos (by omega), impl_word t 1 (by omega), Option.bind_some, if_neg c3, E.out.1, E.out.2.1, E.out.2.2, if_pos g1]
          obtain ⟨n, hn⟩ : ∃ n : Nat, wordAt t 1 = n := ⟨(wordAt t 1).toNat, by omega⟩
          have e3 : (5 + wordAt t 1).toNat = 5 + n := by omega
          have hcut : (t.extract 0 (5 + n)).size = 5 + n := by rw [extract_size _ _ _ (by omega) (by omega)]; omega
          have body : (t.extract 0 (5 + n)).extract 5 (5 + n) = t.extract 5 (5 + n) := by rw [ByteArray.extract_extract]; congr 1; omega
          have g1 : ¬ ((bytesOf t).length : Int) < 9 + wordAt t 1 := by
            rw [hl, ← hz]; exact c4
          have g2 : 0 ≤ 5 + wordAt t 1 := by omega
          have g3 : 5 + wordAt t 1 ≤ ((bytesOf t).length : Int) := by
            rw [hl, ← hz]; omega
          have step : ∀ k, impl_readFrames.j1 (k + 1) s (acc.map mkF) (p : Int) (bytesOf t) (decide (¬ (1 ≤ bt t 0 ∧ bt t 0 ≤ 100))) =
              (impl_crc.f k (t.extract 0 (5 + n))).bind fun c => if wordAt t (5 + n) = c then impl_readFrames.l0 k s (acc.map mkF ++ [⟨bt t 0, t.extract 5 (5 + n)⟩]) ((p + (9 + n) : Nat) : Int) else some (acc.map mkF, (p : Int), 4) := fun k => by
            simp only [impl_readFrames.j1]
            rw [if_neg (by simp [c1]), if_neg (by omega), if_pos (by omega), impl_word t 1 (by omega), Option.bind_some, if_neg c3, E.out.1, E.out.2.1, E.out.2.2, if_neg g1, if_pos g2, if_pos g3, e3]
            simp only [Option.bind_some, strOfNums_take, impl_word t (5 + n) (by omega), hcut, body, rd_bytesOf]
            rw [if_pos (show (0 : Int) < ((bytesOf t).length : Int) by omega), if_pos (show (5 : Int) ≤ ((5 + n : Nat) : Int) by omega), if_pos (show (acc.map mkF).length < 5864062014805 by rw [List.length_map]; omega), wrap_bt t 0, p_cuts p n _ hn (by omega) (by omega)]
          refine Ev.step step (Ev.bind (impl_crc_eq _ (by omega)) ?_)
          by_cases c5 : wordAt t (5 + n) = crcM (t.extract 0 (5 + n))
          · rw [frameOf_is t n (by omega) hn (by omega) c1 c5]
            simp only [if_pos c5, if_true, Int.toNat_natCast]
            have := ih (acc ++ [(bt t 0, t.extract 5 (5 + n))]) (p + (9 + n)) (by omega) (by omega) (by rw [List.length_append]; simp only [List.length_cons, List.length_nil]; omega)
            rw [List.map_append] at this; exact this
          · rw [stop 4 (by decide) (by unfold frameOf; rw [if_neg (not_not_intro c1), if_neg c2, if_neg c3, if_neg c4, show (wordAt t 1).toNat = n by omega, if_neg c5])]
            simp only [if_neg c5]; exact Ev.now _
        · rw [stop 2 (by decide) (by unfold frameOf; rw [if_pos c1])]
          refine Ev.step (f := fun _ => some (acc.map mkF, (p : Int), 2)) (fun k => ?_) (Ev.now _)
          simp only [impl_readFrames.j1]; rw [if_pos (by simp [c1])]
      refine Ev.step (fun k => ?_) hup
      simp only [impl_readFrames.l0]
      rw [if_pos (by omega), if_pos (by omega), Int.toNat_natCast, if_pos (by omega), Option.bind_some, if_neg (by omega), if_neg (by rw [List.length_map]; omega), if_pos (by omega), rd_bytesOf]
      by_cases h4 : bt (s.extract p s.size) 0 < 1
      · rw [if_pos h4]; congr 1; simp; omega
      · rw [if_neg h4]; congr 1; simp; omega
    · rw [if_neg h1]
      refine Ev.step (f := fun _ => some (acc.map mkF, (p : Int), 0)) (fun k => ?_) (Ev.now _)
      simp only [impl_readFrames.l0]
      rw [if_pos (by omega), if_pos (by omega), Int.toNat_natCast, if_pos (by omega), Option.bind_some, if_pos (by omega)]
theorem impl_ReadFrames_eq (s : ByteArray) (hs : s.size ≤ 140737488351232) : Ev (fun k => impl_ReadFrames.f k s) (mkR (readM s (s.size + 1) [] 0)) := by
  unfold impl_ReadFrames.f impl_readFrames.f
  exact Ev.bind (impl_read s hs (s.size + 1) [] 0 (by omega) (by omega) (by simp)) (Ev.now _)
section
variable {l : List Int} (hb : ∀ x ∈ l, (Lit.int .u8 x).wf = true) (hm : l.length ≤ 140737488351232)
include hb in
theorem rd_u8 (i : Int) : 0 ≤ rd l i ∧ rd l i ≤ 255 := by
  unfold rd
  rw [List.getD_eq_getElem?_getD]
  by_cases h : i.toNat < l.length
  · rw [List.getElem?_eq_getElem h]; exact wf_u8 (hb _ (List.getElem_mem h))
  · rw [List.getElem?_eq_none (by omega)]; simp
include hb hm in
theorem next_ok (p : Int) (h0 : 0 ≤ p) (h1 : p ≤ l.length) : ∃ c q, spec_l1Rd_next.f l p = some (c, q) ∧ 0 ≤ c ∧ c ≤ 255 ∧ 0 ≤ q ∧ q ≤ l.length := by
  unfold spec_l1Rd_next.f
  by_cases h : p ≥ (l.length : Int)
  · exact ⟨0, p, by rw [if_pos h], by omega, by omega, h0, h1⟩
  · have e1 : wrap64 (p + 1) = p + 1 := by unfold wrap64; omega
    have e2 : wrap64 (p + 1 - 1) = p := by unfold wrap64; omega
    obtain ⟨r0, r1⟩ := rd_u8 hb p
    have e3 : wrap64 (rd l p) = rd l p := by unfold wrap64; omega
    exact ⟨rd l p, p + 1, by rw [if_neg h, e1, e2, if_pos h0, if_pos (by omega), e3], r0, r1, by omega, by omega⟩
include hb hm in
theorem below_ok (p n : Int) (h0 : 0 ≤ p) (h1 : p ≤ l.length) (n0 : 1 ≤ n) (n1 : n ≤ 1000000) : ∃ c q, spec_l1Rd_below.f l p n = some (c, q) ∧ 0 ≤ c ∧ c < n ∧ 0 ≤ q ∧ q ≤ l.length := by
  unfold spec_l1Rd_below.f
  by_cases h : n ≤ 1
  · exact ⟨0, p, by rw [if_pos h], by omega, by omega, h0, h1⟩
  · rw [if_neg h]
    obtain ⟨c, q, hc, c0, c1, q0, q1⟩ := next_ok hb hm p h0 h1
    by_cases h2 : n ≤ 256
    · refine ⟨c % n, q, ?_, Int.emod_nonneg _ (by omega), Int.emod_lt_of_pos _ (by omega), q0, q1⟩
      rw [if_pos h2, hc]; simp only [Option.bind_some]; rw [if_neg (by omega), Int.tmod_eq_emod_of_nonneg c0]
    · obtain ⟨d, q', hd, d0, d1, q0', q1'⟩ := next_ok hb hm q q0 q1
      have e : wrap64 (wrap64 (c * 256) + d) = c * 256 + d := by unfold wrap64; omega
      refine ⟨(c * 256 + d) % n, q', ?_, Int.emod_nonneg _ (by omega), Int.emod_lt_of_pos _ (by omega), q0', q1'⟩
      rw [if_neg h2, hc]; simp only [Option.bind_some]; rw [hd]; simp only [Option.bind_some]; rw [if_neg (by omega), e, Int.tmod_eq_emod_of_nonneg (by omega)]
include hb hm in
theorem once_ok (p n : Int) (h0 : 0 ≤ p) (h1 : p ≤ l.length) (n0 : 1 ≤ n) (n1 : n ≤ 1000000) : ∃ b q, spec_l1Rd_once.f l p n = some (b, q) ∧ 0 ≤ q ∧ q ≤ l.length := by
  unfold spec_l1Rd_once.f
  obtain ⟨c, q, hc, c0, c1, q0, q1⟩ := below_ok hb hm p n h0 h1 n0 n1
  exact ⟨_, q, by rw [hc]; rfl, q0, q1⟩
theorem or_u64_range (x y : Int) : 0 ≤ Go.bits .or .u64 x y ∧ Go.bits .or .u64 x y ≤ 18446744073709551615 := by
  simp only [Go.bits, IntKind.wrap_u64]; omega
include hb hm in
theorem word_loop (d : Nat) : ∀ (x j p : Int), j + d = 8 → 0 ≤ j → 0 ≤ x → x ≤ 18446744073709551615 → 0 ≤ p → p ≤ l.length → ∃ r q, Ev (fun k => spec_l1Rd_word.l0 k x j l p) (r, q) ∧ 0 ≤ r ∧ r ≤ 18446744073709551615 ∧ 0 ≤ q ∧ q ≤ l.length := by
  induction d with
  | zero =>
    intro x j p hj hj0 x0 x1 h0 h1
    refine ⟨x, p, Ev.step (f := fun _ => some (x, p)) (fun k => ?_) (Ev.now _), x0, x1, h0, h1⟩
    simp only [spec_l1Rd_word.l0]; rw [if_neg (by omega)]
  | succ d ih =>
    intro x j p hj hj0 x0 x1 h0 h1
    obtain ⟨c, q, hc, c0, c1, q0, q1⟩ := next_ok hb hm p h0 h1
    obtain ⟨r0, r1⟩ := or_u64_range (IntKind.u64.wrap (x * 256)) (IntKind.u64.wrap c)
    obtain ⟨r, q', hr, h⟩ := ih _ (j + 1) q (by omega) (by omega) r0 r1 q0 q1
    refine ⟨r, q', Ev.step (f := fun k => spec_l1Rd_word.l0 k (Go.bits .or .u64 (IntKind.u64.wrap (x * 256)) (IntKind.u64.wrap c)) (j + 1) l q) (fun k => ?_) hr, h⟩
    simp only [spec_l1Rd_word.l0]; rw [if_pos (by omega), hc]; simp only [Option.bind_some]
    rw [show wrap64 (j + 1) = j + 1 by unfold wrap64; omega]
include hb hm in
theorem word_ok (p : Int) (h0 : 0 ≤ p) (h1 : p ≤ l.length) : ∃ r q, Ev (fun k => spec_l1Rd_word.f k l p) (r, q) ∧ 0 ≤ r ∧ r ≤ 18446744073709551615 ∧ 0 ≤ q ∧ q ≤ l.length := by
  unfold spec_l1Rd_word.f
  exact word_loop hb hm 8 0 0 p (by omega) (by omega) (by omega) (by omega) h0 h1
include hb hm in
theorem near_ok (p lo hi : Int) (h0 : 0 ≤ p) (h1 : p ≤ l.length) (b0 : -4611686018427387904 ≤ lo) (b1 : lo ≤ hi) (b2 : hi ≤ 4611686018427387903) :
    ∃ r q, Ev (fun k => spec_l1Rd_near.f k l p lo hi) (r, q) ∧ lo ≤ r ∧ r ≤ hi ∧ 0 ≤ q ∧ q ≤ l.length := by
  unfold spec_l1Rd_near.f
  obtain ⟨c, q, hc, c0, c1, q0, q1⟩ := below_ok hb hm p 8 h0 h1 (by omega) (by omega)
  simp only [hc, Option.bind_some]
  by_cases z0 : c = 0
  · exact ⟨lo, q, by simp only [if_pos z0]; exact Ev.now _, by omega, by omega, q0, q1⟩
  by_cases z1 : c = 1
  · exact ⟨hi, q, by simp only [if_neg z0, if_pos z1]; exact Ev.now _, by omega, by omega, q0, q1⟩
  obtain ⟨r, q', hr, r0, r1, q0', q1'⟩ := word_ok hb hm q q0 q1
  have e1 : IntKind.u64.wrap (wrap64 (wrap64 (hi - lo) + 1)) = hi - lo + 1 := by rw [IntKind.wrap_u64]; unfold wrap64; omega
  have m0 : 0 ≤ (r / 2) % (hi - lo + 1) := Int.emod_nonneg _ (by omega)
  have m1 : (r / 2) % (hi - lo + 1) < hi - lo + 1 := Int.emod_lt_of_pos _ (by omega)
  have e2 : wrap64 (lo + wrap64 (Int.tmod (r / 2) (hi - lo + 1))) = lo + (r / 2) % (hi - lo + 1) := by
    rw [Int.tmod_eq_emod_of_nonneg (by omega)]; unfold wrap64; omega
  refine ⟨lo + (r / 2) % (hi - lo + 1), q', ?_, by omega, by omega, q0', q1'⟩
  simp only [if_neg z0, if_neg z1, if_neg (show ¬ hi < lo by omega), e1, if_neg (show ¬ hi - lo + 1 = 0 by omega)]
  refine Ev.bind hr ?_
  simp only [e2]; exact Ev.now _
include hb hm in
theorem off_ok (p lo hi : Int) (h0 : 0 ≤ p) (h1 : p ≤ l.length) (b0 : -4611686018427387904 ≤ lo) (b1 : lo ≤ hi) (b2 : hi ≤ 4611686018427387903) :
    ∃ r q, Ev (fun k => spec_l1Rd_off.f k l p lo hi) (r, q) ∧ -9223372036854775808 ≤ r ∧ r ≤ 9223372036854775807 ∧ 0 ≤ q ∧ q ≤ l.length := by
  unfold spec_l1Rd_off.f
  obtain ⟨b, q, hc, q0, q1⟩ := once_ok hb hm p 24 h0 h1 (by omega) (by omega)
  simp only [hc, Option.bind_some]
  cases b with
  | true =>
    obtain ⟨c, q', hd, c0, c1, q0', q1'⟩ := below_ok hb hm q 4 q0 q1 (by omega) (by omega)
    simp only [hd, Option.bind_some, if_true]
    rw [if_pos c0, if_pos (by simp; omega)]
    refine ⟨_, q', Ev.now _, ?_, ?_, q0', q1'⟩
    all_goals
      have : c = 0 ∨ c = 1 ∨ c = 2 ∨ c = 3 := by omega
      rcases this with rfl | rfl | rfl | rfl <;> simp [rd] <;> unfold wrap64 <;> omega
  | false =>
    obtain ⟨r, q', hr, r0, r1, q0', q1'⟩ := near_ok hb hm q lo hi q0 q1 b0 b1 b2
    refine ⟨r, q', ?_, by omega, by omega, q0', q1'⟩
    simp only [Bool.false_eq_true, if_false]
    exact Ev.bind hr (Ev.now _)
include hb hm in
theorem data_ok (p : Int) (h0 : 0 ≤ p) (h1 : p ≤ l.length) : ∃ (s : ByteArray) (q : Int), spec_l1Rd_data.f l p = some (s, q) ∧ s.size ≤ 6 ∧ 0 ≤ q ∧ q ≤ l.length := by
  unfold spec_l1Rd_data.f
  obtain ⟨c, q, hc, c0, c1, q0, q1⟩ := below_ok hb hm p 8 h0 h1 (by omega) (by omega)
  simp only [Option.bind_some, hc]
  rw [if_pos c0, if_pos (by simp only [List.length_cons, List.length_nil]; omega)]
  refine ⟨_, q, rfl, ?_, q0, q1⟩
  have : c = 0 ∨ c = 1 ∨ c = 2 ∨ c = 3 ∨ c = 4 ∨ c = 5 ∨ c = 6 ∨ c = 7 := by omega
  rcases this with rfl | rfl | rfl | rfl | rfl | rfl | rfl | rfl <;> decide
include hb hm in
theorem frameDraw_ok (p : Int) (h0 : 0 ≤ p) (h1 : p ≤ l.length) : ∃ (a : Int) (s : ByteArray) (q : Int), Ev (fun k => spec_l1Rd_frame.f k l p) (a, s, q) ∧ (1 ≤ a ∧ a ≤ 100) ∧ s.size ≤ 6 ∧ 0 ≤ q ∧ q ≤ l.length := by
  unfold spec_l1Rd_frame.f
  obtain ⟨a, q, ha, a0, a1, q0, q1⟩ := near_ok hb hm p 1 100 h0 h1 (by omega) (by omega) (by omega)
  obtain ⟨s, q', hs, s0, q0', q1'⟩ := data_ok hb hm q q0 q1
  refine ⟨a, s, q', Ev.bind ha ?_, ⟨a0, a1⟩, s0, q0', q1'⟩
  simp only [hs, Option.bind_some]; exact Ev.now _
include hb hm in
theorem drawWrite_ok : ∃ (a : Int) (s : ByteArray), Ev (fun k => spec_DrawWriteFrame.f k l) (a, s) ∧ s.size ≤ 100000 := by
  unfold spec_DrawWriteFrame.f spec_l1Open.f
  obtain ⟨a, s, q, hf, a0, s0, q0, q1⟩ := frameDraw_ok hb hm 0 (by omega) (by omega)
  obtain ⟨c, q2, hc, c0, c1, q20, q21⟩ := below_ok hb hm q 12 q0 q1 (by omega) (by omega)
  by_cases z0 : c = 0
  · obtain ⟨b, q3, hd, _⟩ := off_ok hb hm q2 1 100 q20 q21 (by omega) (by omega) (by omega)
    refine ⟨b, s, Ev.bind (Ev.now (l, (0 : Int))) (Ev.bind hf (Ev.bind (Ev.is hc) ?_)), by omega⟩
    exact Ev.congr (f := fun k => (spec_l1Rd_off.f k l q2 1 100).bind fun x => some (x.1, s)) (fun k => if_pos z0) (Ev.bind hd (Ev.now _))
  by_cases z1 : c = 1
  · obtain ⟨x, q3, hx, x0, x1, _⟩ := below_ok hb hm q2 2 q20 q21 (by omega) (by omega)
    refine ⟨a, strOfNums (List.replicate (20000 + x).toNat 0), Ev.bind (Ev.now (l, (0 : Int))) (Ev.bind hf (Ev.bind (Ev.is hc) ?_)), by rw [size_strOfNums, List.length_replicate]; omega⟩
    refine Ev.congr (f := fun k => (spec_l1Rd_below.f l q2 2).bind fun x => (if 0 ≤ (wrap64 (20000 + x.1)) then (if (wrap64 (20000 + x.1) : Int).toNat ≤ 281474976710656 then (some (a, strOfNums (List.replicate (wrap64 (20000 + x.1) : Int).toNat 0))) else (none)) else (none))) (fun k => (if_neg z0).trans (if_pos z1)) ?_
    refine Ev.bind (Ev.is hx) (Ev.is ?_)
    have e : wrap64 (20000 + x) = 20000 + x := by unfold wrap64; omega
    simp only [e]
    clear e
    rw [if_pos (by omega), if_pos (by omega)]
  refine ⟨a, s, Ev.bind (Ev.now (l, (0 : Int))) (Ev.bind hf (Ev.bind (Ev.is hc) ?_)), by omega⟩
  exact Ev.congr (f := fun k => some (a, s)) (fun k => (if_neg z0).trans (if_neg z1)) (Ev.now _)
end
theorem wframe (a : Int) (s : ByteArray) : Ev (fun k => impl_WriteFrame.f k a s) (frameM a s) := by
  unfold impl_WriteFrame.f; exact Ev.bind (impl_frame a s) (Ev.now _)
theorem nil_of (s : ByteArray) (h : s.toList = []) : s = ⟨#[]⟩ := by
  apply ByteArray.ext; apply Array.ext'
  rw [ByteArray.toList_eq] at h; exact h
/-- One whole frame is read. -/
theorem read_one (t : ByteArray) (n : Nat) (a : Int) (s : ByteArray) (h0 : 9 ≤ n) (hn : n = t.size) (hf : frameOf t = (a, s, (n : Int), 0)) : readM t (t.size + 1) [] 0 = ([(a, s)], (t.size : Int), 0) := by
  rw [show t.size + 1 = (t.size - 1 + 1) + 1 by omega, readM_succ, if_pos (by omega), if_neg (by simp), extract_all, hf]
  simp only [if_true, List.nil_append, Nat.zero_add, Int.toNat_natCast]
  rw [readM_succ, if_neg (by omega), hn]
/-- No frame is read. -/
theorem read_none (t : ByteArray) (h0 : 0 < t.size) (hf : (frameOf t).2.2.2 ≠ 0) : readM t (t.size + 1) [] 0 = ([], 0, (frameOf t).2.2.2) := by
  rw [readM_succ, if_pos h0, if_neg (by simp), extract_all, if_neg hf]; rfl
end BitFoundOf
open BitFoundOf

theorem FnBitFound : laws_FnBitFound.Pure := by
  intro l hm hs hb
  refine Ev.rounds (g := fun k => laws_FnBitFound.f k l) ?_
  unfold laws_FnBitFound.f laws_big.f
  refine Ev.bind (Ev.now _) ?_
  by_cases h0 : decide ((l.length : Int) > 1048576) = true
  · simp only [if_pos h0]; exact Ev.now _
  simp only [if_neg h0]
  obtain ⟨a, s, hd, hsz⟩ := drawWrite_ok hb (by omega)
  refine Ev.bind hd (Ev.bind (wframe a s) (Ev.bind (spec_frame a s) ?_))
  simp only [if_true]
  by_cases he : (frameM a s).toList = []
  · simp only [if_pos he]; exact Ev.now _
  simp only [if_neg he]
  have hk : (1 ≤ a ∧ a ≤ 100) ∧ (s.size : Int) ≤ 20000 := by
    by_cases h : (1 ≤ a ∧ a ≤ 100) ∧ (s.size : Int) ≤ 20000
    · exact h
    · exact absurd (by unfold frameM; rw [if_neg h]; exact nilL) he
  obtain ⟨hz, _, hok⟩ := frame_read a s hk.1 hk.2
  have hflip := flip_read a s hk.1 hk.2
  have hl := bytesOf_length (frameM a s)
  generalize frameM a s = t at *
  have hone := impl_ReadFrames_eq t (by omega)
  rw [read_one t (9 + s.size) a s (by omega) (by omega) hok] at hone
  simp only [if_pos (show (t.size : Int) ≤ 140737488351232 by omega)]
  refine Ev.bind (Ev.now (bytesOf t)) ?_
  simp only [if_neg (show ¬ ((bytesOf t).length : Int) = 0 by omega)]
  -- the law from the place on
  have main : ∀ i : Nat, i < t.size → (i = 0 ∨ 5 ≤ i) → Ev (fun k => laws_FnBitFound.j1 k l t (bytesOf t) (i : Int) a s) true := by
    intro i hi hi5
    have hm8 := Nat.mod_lt l.length (show 8 > 0 by decide)
    have hbr := bt_range t (i : Int)
    obtain ⟨f1, f2, f3⟩ := byte_flip (bt t i) (l.length % 8) hbr.1 (by omega) hm8
    have hf := hflip i (Go.bits .xor .u8 (bt t i) ((2 ^ (l.length % 8)) % 256)) hi hi5 ⟨f2, f3⟩ f1
    have hbz : (strOfNums ((bytesOf t).set i (Go.bits .xor .u8 (bt t i) ((2 ^ (l.length % 8)) % 256)))).size = t.size := by rw [size_strOfNums, List.length_set, hl]
    have hrd := impl_ReadFrames_eq (strOfNums ((bytesOf t).set i (Go.bits .xor .u8 (bt t i) ((2 ^ (l.length % 8)) % 256)))) (by omega)
    rw [read_none _ (by omega) hf] at hrd
    have hcast : ((l.length : Int) % 8).toNat = l.length % 8 := by omega
    refine Ev.step (f := fun k => (impl_ReadFrames.f k (strOfNums ((bytesOf t).set i (Go.bits .xor .u8 (bt t i) ((2 ^ (l.length % 8)) % 256))))).bind fun bt239 => ((impl_ReadFrames.f k t).bind fun bt244 => (if (bt239.1.length : Int) = 0 then (if bt239.2.2 = 0 then (some false) else (if (bt244.1.length : Int) = 1 then (if 0 < (bt244.1.length : Int) then (if (((rd_T31 bt244.1 0).f0) == a && ((((rd_T31 bt244.1 0).f1).toList) == s.toList)) = true then (if bt244.2.1 = (t.size : Int) then (some (bt244.2.2 == 0)) else (some false)) else (some false)) else (none)) else (some false))) else (some false)))) (fun k => ?_) (Ev.bind hrd (Ev.bind hone ?_))
    · simp only [laws_FnBitFound.j1]; rw [if_pos (by omega), if_pos (by omega), Int.toNat_natCast, rd_bytesOf, hcast]
    · simp only [mkR, List.map_nil, List.map_cons, List.length_nil, List.length_cons]
      refine Ev.is ?_
      rw [if_pos (show ((0 : Nat) : Int) = 0 from rfl), if_neg hf, if_pos (show ((0 + 1 : Nat) : Int) = 1 from rfl), if_pos (show (0 : Int) < ((0 + 1 : Nat) : Int) by decide)]
      have e : rd_T31 [mkF (a, s)] 0 = mkF (a, s) := rfl
      rw [e]
      simp [mkF]
  have hcast : (l.length : Int) % ((bytesOf t).length : Int) = ((l.length % t.size : Nat) : Int) := by rw [hl]; rfl
  have hlt := Nat.mod_lt l.length (show t.size > 0 by omega)
  simp only [hcast]
  generalize l.length % t.size = i at hlt
  have j0 : ∀ b : Bool, (b = false → i = 0 ∨ 5 ≤ i) → Ev (fun k => laws_FnBitFound.j0 k l t (bytesOf t) (i : Int) b a s) true := by
    intro b hbi
    cases b with
    | true => exact Ev.step (f := fun k => laws_FnBitFound.j1 k l t (bytesOf t) ((0 : Nat) : Int) a s) (fun k => by simp only [laws_FnBitFound.j0, if_true]; rfl) (main 0 (by omega) (.inl rfl))
    | false => exact Ev.step (f := fun k => laws_FnBitFound.j1 k l t (bytesOf t) (i : Int) a s) (fun k => by simp only [laws_FnBitFound.j0, Bool.false_eq_true, if_false]) (main i hlt (hbi rfl))
  by_cases h1 : (i : Int) ≥ 1
  · simp only [if_pos h1]
    exact j0 _ (fun h => by have := of_decide_eq_false h; omega)
  · simp only [if_neg h1]
    exact j0 _ (fun _ => by omega)

end Go.Proofs.Ytjcejdajbapliaa.Pure
