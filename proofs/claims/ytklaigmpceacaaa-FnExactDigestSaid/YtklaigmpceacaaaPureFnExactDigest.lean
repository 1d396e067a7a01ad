/- For every text of at most 2^20 bytes the program's Digest answers as the reference's Digest. No condition but the size that the model lets a text have. -/
import Derived.Test.YtklaigmpceacaaaQFnExactDigestx
import Derived.Test.YtklaigmpceacaaaDigestFnExactDigest
namespace Go.Proofs.Ytklaigmpceacaaa.Pure
open Go.RowKit Go.Proofs.Ytklaigmpceacaaa.QFnExactDigest Go.Proofs.YtklaigmpceacaaaW.PrintWords Go.Proofs.YtklaigmpceacaaaW.PrintLast Go.Proofs.YtklaigmpceacaaaW.PrintMore Go.Proofs.Ytklaigmpceacaaa.Bits Go.Proofs.Ytklaigmpceacaaa.Num Go.Proofs.Ytklaigmpceacaaa.Loops Go.Proofs.Ytklaigmpceacaaa.Sha Go.Proofs.Ytklaigmpceacaaa.Dig Go.Proofs.Ytklaigmpceacaaa.FrameRead Go.Proofs.Ytklaigmpceacaaa.Digest Go.Proofs.Ytklaigmpceacaaa.Frame
set_option linter.unusedSimpArgs false
set_option linter.unusedVariables false
namespace DigestOf
theorem spec_rot (x n : Int) (h0 : 0 ≤ x) (h1 : x < 4294967296) : spec_Rotate.f x n = some (rotr x (n % 32).toNat) := by
  have ht := Int.tmod_lt_of_pos n (show (0 : Int) < 32 by decide)
  have ht2 : -32 < Int.tmod n 32 := by have := Int.lt_tmod_of_pos n (show (0 : Int) < 32 by decide); omega
  have hm : (Int.tmod n 32) % 32 = n % 32 := by have := Int.tmod_add_mul_tdiv n 32; omega
  have hk : IntKind.u64.wrap (Int.tmod (wrap64 ((Int.tmod n 32) + 32)) 32) = n % 32 := by
    have e1 : wrap64 ((Int.tmod n 32) + 32) = (Int.tmod n 32) + 32 := by unfold wrap64; omega
    rw [e1, Int.tmod_eq_emod_of_nonneg (by omega), IntKind.wrap_u64]; omega
  have hk2 : IntKind.u64.wrap (32 - n % 32) = 32 - n % 32 := by rw [IntKind.wrap_u64]; omega
  unfold spec_Rotate.f
  rw [hk, if_pos (by omega), hk2, if_pos (by omega)]
  have e2 : (32 - n % 32).toNat = 32 - (n % 32).toNat := by omega
  unfold shr shl
  rw [show min (n % 32).toNat IntKind.u32.bits = (n % 32).toNat by simp [IntKind.bits]; omega, show min (32 - n % 32).toNat IntKind.u32.bits = (32 - n % 32).toNat by simp [IntKind.bits]; omega, e2, bits_or_comm, or_rotr x _ h0 h1 (by omega)]
theorem spec_rot1 (x : Int) (hx : 0 ≤ x ∧ x < 4294967296) (n : Int) (m : Nat) (hm : (n % 32).toNat = m) : spec_Rotate.f x n = some (rotr x m) := by rw [spec_rot x n hx.1 hx.2, hm]
theorem spec_words (h K b : List Int) (hb : b.length = 64) {r : List Int} (hend : Ev (fun k => spec_l1Block.l0 k h K b (wordsM b 64) 64) r) : Ev (fun k => spec_l1Block.l0 k h K b (List.replicate 64 0) 0) r := by
  refine fold_loop (n := 64) (F := fun k w i => spec_l1Block.l0 k h K b w i) (st := fun i => wordsM b i) (fun t ht hr => ?_) hend
  obtain ⟨hl, hR⟩ := wordsM_ok b t
  rw [wordsM_succ] at hr
  refine Ev.step (fun k => ?_) hr
  simp only [spec_l1Block.l0]
  rw [if_pos (by omega), wrap_nat t (by omega)]
  unfold stepW
  generalize wordsM b t = w at hl hR
  by_cases h16 : t < 16
  · have e0 : wrap64 (4 * (t : Int)) = ((4 * t : Nat) : Int) := by unfold wrap64; omega
    have e1 : wrap64 (((4 * t : Nat) : Int) + 1) = ((4 * t + 1 : Nat) : Int) := by unfold wrap64; omega
    have e2 : wrap64 (((4 * t : Nat) : Int) + 2) = ((4 * t + 2 : Nat) : Int) := by unfold wrap64; omega
    have e3 : wrap64 (((4 * t : Nat) : Int) + 3) = ((4 * t + 3 : Nat) : Int) := by unfold wrap64; omega
    rw [if_pos (by omega), e0, e1, e2, e3]
    repeat rw [if_pos (by omega)]
    rw [Int.toNat_natCast]; rfl
  · have e15 : wrap64 ((t : Int) - 15) = ((t - 15 : Nat) : Int) := by unfold wrap64; omega
    have e2 : wrap64 ((t : Int) - 2) = ((t - 2 : Nat) : Int) := by unfold wrap64; omega
    have e7 : wrap64 ((t : Int) - 7) = ((t - 7 : Nat) : Int) := by unfold wrap64; omega
    have e16 : wrap64 ((t : Int) - 16) = ((t - 16 : Nat) : Int) := by unfold wrap64; omega
    rw [if_neg (by omega), e15, e2, e7, e16]
    rw [if_pos (by omega), if_pos (by omega), if_pos (by omega), if_pos (by omega), spec_rot1 _ (hR.at _) 7 7 rfl, bindS, spec_rot1 _ (hR.at _) 18 18 rfl, bindS, spec_rot1 _ (hR.at _) 17 17 rfl, bindS, spec_rot1 _ (hR.at _) 19 19 rfl, bindS]
    rw [if_pos (by omega), if_pos (by omega), if_pos (by omega), if_pos (by omega), if_pos (by omega), if_pos (by omega), Int.toNat_natCast, if_neg h16]
    congr 2
    simp only [nextW, sml0, sml1]
    omega
theorem spec_rounds (h K b W : List Int) (hK : K.length = 64) (hW : W.length = 64) (hl : h.length = 8) (hr : R32 h) {r : List Int} (hend : Ev (fun k => spec_l1Block.l1 k h K W (roundsM K W h 64) 64) r) : Ev (fun k => spec_l1Block.l1 k h K W h 0) r := by
  refine fold_loop (n := 64) (F := fun k v i => spec_l1Block.l1 k h K W v i) (st := fun i => roundsM K W h i) (fun t ht hr' => ?_) hend
  obtain ⟨hvl, hR⟩ := roundsM_ok K W h hl hr t
  rw [roundsM_succ] at hr'
  refine Ev.step (fun k => ?_) hr'
  simp only [spec_l1Block.l1]
  generalize roundsM K W h t = v at hvl hR
  rw [if_pos (by omega), if_pos (by omega), if_pos (by omega), if_pos (by omega), spec_rot1 _ (hR.at _) 6 6 rfl, bindS, spec_rot1 _ (hR.at _) 11 11 rfl, bindS, spec_rot1 _ (hR.at _) 25 25 rfl, bindS]
  rw [if_pos (by omega), if_pos (by omega), if_pos (by omega), if_pos (by omega), if_pos (by omega), spec_rot1 _ (hR.at _) 2 2 rfl, bindS, spec_rot1 _ (hR.at _) 13 13 rfl, bindS, spec_rot1 _ (hR.at _) 22 22 rfl, bindS]
  rw [if_pos (by omega), if_pos (by omega), if_pos (by omega), wrap_nat t (by omega)]
  congr 1
  simp only [roundM, oneM, twoM, big0, big1, ch, maj]
  congr 1
  · omega
  · congr 4
    omega
theorem spec_add (h v : List Int) (hl : h.length = 8) (hvl : v.length = 8) : Ev (fun k => spec_l1Block.l2 k h v [] 0) (addM h v 8) := by
  refine fold_loop (n := 8) (F := fun k a i => spec_l1Block.l2 k h v a i) (st := fun i => addM h v i) (fun i hi hr => ?_) (Ev.step (f := fun _ => some (addM h v 8)) (fun k => ?_) (Ev.now _))
  · rw [addM_succ] at hr
    refine Ev.step (fun k => ?_) hr
    have := addM_len h v i
    simp only [spec_l1Block.l2]
    rw [if_pos (by omega), if_pos (by omega), if_pos (by omega), if_pos (by omega), if_pos (by omega), wrap_nat i (by omega)]
  · simp only [spec_l1Block.l2]; rw [if_neg (by omega)]
theorem spec_block (h K b : List Int) (hK : K.length = 64) (hb : b.length = 64) (hl : h.length = 8) (hr : R32 h) : Ev (fun k => spec_l1Block.f k h K b) (blockM h K b) := by
  unfold spec_l1Block.f blockM
  simp only [show (64 : Nat) ≤ 70368744177664 by omega, if_true]
  obtain ⟨hwl, _⟩ := wordsM_ok b 64
  refine spec_words h K b hb ?_
  generalize wordsM b 64 = W at hwl
  refine Ev.step (f := fun k => spec_l1Block.l1 k h K W h 0) (fun k => ?_) ?_
  · simp only [spec_l1Block.l0]
    rw [if_neg (by omega), bindS, if_pos (by simp; omega), List.nil_append]
  · refine spec_rounds h K b W hK hwl hl hr ?_
    obtain ⟨hvl, _⟩ := roundsM_ok K W h hl hr 64
    refine Ev.step (f := fun k => spec_l1Block.l2 k h (roundsM K W h 64) [] 0) (fun k => ?_) (spec_add h _ hl hvl)
    simp only [spec_l1Block.l1]
    rw [if_neg (by omega)]
theorem spec_runs (s : ByteArray) (p : List Int) (n : Nat) (hp : p.length = 64 * n) (hn : n ≤ 4611686018427387904 / 64) : Ev (fun k => spec_Sum.l2 k p kM hM 0) (runM p n) := by
  have key : ∀ d i : Nat, i + d = n → Ev (fun k => spec_Sum.l2 k p kM (runM p i) ((64 * i : Nat) : Int)) (runM p n) := by
    intro d
    induction d with
    | zero =>
      intro i hi
      obtain rfl : i = n := by omega
      refine Ev.step (f := fun _ => some (runM p i)) (fun k => ?_) (Ev.now _)
      simp only [spec_Sum.l2]; rw [if_neg (by omega)]
    | succ d ih =>
      intro i hi
      obtain ⟨hl, hr⟩ := runM_ok p i
      have hw : wrap64 (((64 * i : Nat) : Int) + 64) = ((64 * (i + 1) : Nat) : Int) := by unfold wrap64; omega
      have hbl : ((p.drop (64 * i)).take 64).length = 64 := by rw [List.length_take, List.length_drop]; omega
      have hcut : (p.take (64 * (i + 1))).drop (64 * i) = (p.drop (64 * i)).take 64 := by
        rw [List.drop_take]; congr 1; omega
      refine Ev.step (f := fun k => (spec_l1Block.f k (runM p i) kM ((p.drop (64 * i)).take 64)).bind fun t => spec_Sum.l2 k p kM t ((64 * (i + 1) : Nat) : Int)) (fun k => ?_) (Ev.bind (spec_block _ kM _ rfl hbl hl hr) ?_)
      · simp only [spec_Sum.l2]
        rw [if_pos (by omega), if_pos (by omega), hw, if_pos (by omega), if_pos (by omega), Int.toNat_natCast, Int.toNat_natCast, hcut]
      · rw [← runM_succ]; exact ih (i + 1) (by omega)
  exact key n 0 (by omega)
theorem spec_lens (s : ByteArray) (p0 : List Int) (n : Int) (hp : p0.length ≤ 4611686018427387904 / 64) {r : List Int} (hl : p0.length < 140737488355320) (hend : Ev (fun k => spec_Sum.l2 k (p0 ++ lenM n 8) kM hM 0) r) : Ev (fun k => spec_Sum.l1 k p0 n 7) r := by
  have key : ∀ d i : Nat, i + d = 8 → Ev (fun k => spec_Sum.l1 k (p0 ++ lenM n i) n (7 - (i : Int))) r := by
    intro d
    induction d with
    | zero =>
      intro i hi
      obtain rfl : i = 8 := by omega
      refine Ev.step (f := fun k => spec_Sum.l2 k (p0 ++ lenM n 8) kM hM 0) (fun k => ?_) hend
      simp only [spec_Sum.l1]
      rw [if_neg (by omega)]
      unfold spec_l1K.f
      rw [bindS]; rfl
    | succ d ih =>
      intro i hi
      have hi8 : i ≤ 7 := by omega
      have e7 : (7 - (i : Int)) = ((7 - i : Nat) : Int) := by omega
      have hw : wrap64 ((7 - (i : Int)) - 1) = 7 - ((i + 1 : Nat) : Int) := by unfold wrap64; omega
      have hnn : (0 : Int) ≤ IntKind.u64.wrap (wrap64 (8 * (7 - (i : Int)))) := by rw [IntKind.wrap_u64]; omega
      refine Ev.step (fun k => ?_) (ih (i + 1) (by omega))
      simp only [spec_Sum.l1]
      rw [if_pos (by omega), if_pos hnn, if_pos (by rw [List.length_append, lenM_len]; omega), hw, List.append_assoc]
      rw [lenM, ← e7]
  have := key 8 0 (by omega)
  simpa [lenM] using this
theorem spec_sum (s : ByteArray) (hs : s.size ≤ 70368744177664) : Ev (fun k => spec_Sum.f k s) (sumM s) := by
  unfold spec_Sum.f
  have hbl := bytesOf_length s
  simp only [if_pos (show (s.size : Int) ≤ 140737488351232 by omega)]
  refine Ev.bind (Ev.now _) ?_
  simp only [if_pos (show (bytesOf s).length < 140737488355328 by omega)]
  have key : ∀ d i : Nat, i + d = zerosM s.size → Ev (fun k => spec_Sum.l0 k s (bytesOf s ++ [128] ++ List.replicate i 0)) (sumM s) := by
    intro d
    induction d with
    | zero =>
      intro i hi
      obtain rfl : i = zerosM s.size := by omega
      have hz : zerosM s.size < 64 := by unfold zerosM; omega
      have h56 : ((bytesOf s ++ [128] ++ List.replicate (zerosM s.size) (0 : Int)).length : Int) % 64 = 56 := by
        simp only [List.length_append, List.length_replicate, List.length_singleton, hbl, zerosM]; omega
      have hlen : (bytesOf s ++ [128] ++ List.replicate (zerosM s.size) (0 : Int)).length = s.size + 1 + zerosM s.size := by simp [hbl]; omega
      refine Ev.step (f := fun k => spec_Sum.l1 k (bytesOf s ++ [128] ++ List.replicate (zerosM s.size) 0) (IntKind.u64.wrap ((IntKind.u64.wrap ((s.size : Int))) * 8)) 7) (fun k => ?_) ?_
      · simp only [spec_Sum.l0]; rw [if_pos h56]
      · refine spec_lens s _ _ (by omega) (by omega) ?_
        have hp := padM_len s
        unfold sumM
        exact spec_runs s (padM s) _ hp (by omega)
    | succ d ih =>
      intro i hi
      have hz : zerosM s.size < 64 := by unfold zerosM; omega
      have h56 : ¬ ((bytesOf s ++ [128] ++ List.replicate i (0 : Int)).length : Int) % 64 = 56 := by
        simp only [List.length_append, List.length_replicate, List.length_singleton, hbl]
        unfold zerosM at hi hz
        omega
      refine Ev.step (fun k => ?_) (ih (i + 1) (by omega))
      simp only [spec_Sum.l0]
      rw [if_neg h56, if_pos (by simp [hbl]; omega), List.append_assoc _ (List.replicate i 0), ← List.replicate_succ']
  have := key (zerosM s.size) 0 (by omega)
  simpa using this
theorem spec_hex (n : Int) (hn : 0 ≤ n ∧ n < 4294967296) : Ev (fun k => spec_l1Hex.f k n) (hexM n) := by
  unfold spec_l1Hex.f
  have key : ∀ d i : Nat, i + d = 8 → Ev (fun k => spec_l1Hex.l0 k n (hexL n i) (7 - (i : Int))) (hexM n) := by
    intro d
    induction d with
    | zero =>
      intro i hi
      obtain rfl : i = 8 := by omega
      exact Ev.step (f := fun _ => some (hexM n)) (fun k => by simp only [spec_l1Hex.l0]; rw [if_neg (by omega)]; rfl) (Ev.now _)
    | succ d ih =>
      intro i hi
      have e7 : (7 - (i : Int)) = ((7 - i : Nat) : Int) := by omega
      have hw : wrap64 ((7 - (i : Int)) - 1) = 7 - ((i + 1 : Nat) : Int) := by unfold wrap64; omega
      have hnn : (0 : Int) ≤ IntKind.u64.wrap (wrap64 (4 * (7 - (i : Int)))) := by rw [IntKind.wrap_u64]; omega
      have hr := nib_range n i hn
      have hnib : Go.bits .and .u32 (shr .u32 n (IntKind.u64.wrap (wrap64 (4 * (7 - (i : Int)))))) 15 = nibM n i := by rw [nibM, e7]
      refine Ev.step (fun k => ?_) (ih (i + 1) (by omega))
      simp only [spec_l1Hex.l0]
      rw [if_pos (by omega), if_pos hnn, hnib, if_pos hr.1, if_pos hr.2, if_pos (by rw [hexL_len]; omega), hw, hexL_succ]
      rfl
  exact key 8 0 (by omega)
theorem spec_digest (s : ByteArray) (hs : s.size ≤ 70368744177664) : Ev (fun k => spec_Digest.f k s) (digestM s) := by
  unfold spec_Digest.f
  refine Ev.bind (spec_sum s hs) ?_
  obtain ⟨hl, hr⟩ := sumM_ok s
  unfold digestM
  generalize sumM s = h at hl hr
  refine fold_loop (n := 8) (F := fun k t i => spec_Digest.l0 k h t i) (st := fun i => digL h i) (fun i hi hh => ?_) (Ev.step (f := fun _ => some (digL h 8)) (fun k => ?_) (Ev.now _))
  · refine Ev.step (f := fun k => (spec_l1Hex.f k (rd h (i : Int))).bind fun t => if (digL h i).size + t.size ≤ 9223372036854775807 then spec_Digest.l0 k h (digL h i ++ t) ((i + 1 : Nat) : Int) else none) (fun k => ?_) (Ev.bind (spec_hex _ (hr.at _)) ?_)
    · simp only [spec_Digest.l0]
      rw [if_pos (by omega), if_pos (by omega), if_pos (by omega), wrap_nat i (by omega)]
    · simp only [if_pos (show (digL h i).size + (hexM (rd h (i : Int))).size ≤ 9223372036854775807 by rw [digL_size, hexM_size]; omega)]
      exact hh
  · simp only [spec_Digest.l0]; rw [if_neg (by omega)]
theorem digL_next (h : List Int) (hr : R32 h) (i : Nat) : bytesOf (digL h (i + 1)) = bytesOf (digL h i) ++ hexL (rd h (i : Int)) 8 := by
  rw [digL, bytesOf_append, hexM, bytesOf_strOfNums _ (fun x hx => (hexL_hex _ (hr.at _) 8 x hx).2)]
theorem impl_nib (n : Int) (j : Nat) (hj : j < 8) : Go.bits .and .u32 (shr .u32 n (28 - 4 * (j : Int))) 15 = nibM n j := by
  unfold nibM
  rw [show IntKind.u64.wrap (wrap64 (4 * ((7 - j : Nat) : Int))) = 28 - 4 * (j : Int) by rw [IntKind.wrap_u64]; unfold wrap64; omega]
theorem impl_word (h : List Int) (hr : R32 h) (i : Nat) (hi : i < 8) (l : Int) {r : ByteArray} (hend : Ev (fun k => impl_digest.l0 k (bytesOf (digL h (i + 1))) h l ((i + 1 : Nat) : Int)) r) : Ev (fun k => impl_digest.l1 k (bytesOf (digL h i)) (rd h (i : Int)) 28 h l (i : Int)) r := by
  have hlen : (bytesOf (digL h i)).length = 7 + 8 * i := by rw [bytesOf_length, digL_size]
  have key : ∀ d j : Nat, j + d = 8 → Ev (fun k => impl_digest.l1 k (bytesOf (digL h i) ++ hexL (rd h (i : Int)) j) (rd h (i : Int)) (28 - 4 * (j : Int)) h l (i : Int)) r := by
    intro d
    induction d with
    | zero =>
      intro j hj
      obtain rfl : j = 8 := by omega
      refine Ev.step (fun k => ?_) hend
      simp only [impl_digest.l1]
      rw [if_neg (by omega), wrap_nat i (by omega), digL_next h hr i]
    | succ d ih =>
      intro j hj
      have hn := nib_range (rd h (i : Int)) j (hr.at _)
      refine Ev.step (fun k => ?_) (ih (j + 1) (by omega))
      simp only [impl_digest.l1]
      rw [if_pos (by omega), if_pos (by omega), impl_nib _ j (by omega), if_pos hn.1, if_pos hn.2, if_pos (by rw [List.length_append, hlen, hexL_len]; omega), hexL_succ, ← List.append_assoc]
      rw [show wrap64 (28 - 4 * (j : Int) - 4) = 28 - 4 * ((j + 1 : Nat) : Int) by unfold wrap64; omega]
      rfl
  have := key 8 0 (by omega)
  simpa [hexL] using this
theorem impl_digest_ok (s : ByteArray) (hs : s.size ≤ 70368744177664) : Ev (fun k => impl_digest.f k s) (digestM s) := by
  unfold impl_digest.f
  refine Ev.bind (Ev.is (show impl_sum.f s = some (sumM s) by unfold impl_sum.f; rw [if_pos hs])) ?_
  obtain ⟨hl, hr⟩ := sumM_ok s
  unfold digestM
  generalize sumM s = h at hl hr
  have key : ∀ d i : Nat, i + d = 8 → Ev (fun k => impl_digest.l0 k (bytesOf (digL h i)) h (h.length : Int) (i : Int)) (digL h 8) := by
    intro d
    induction d with
    | zero =>
      intro i hi
      obtain rfl : i = 8 := by omega
      refine Ev.step (f := fun _ => some (digL h 8)) (fun k => ?_) (Ev.now _)
      simp only [impl_digest.l0]; rw [if_neg (by omega), strOfNums_bytesOf]
    | succ d ih =>
      intro i hi
      refine Ev.step (f := fun k => impl_digest.l1 k (bytesOf (digL h i)) (rd h (i : Int)) 28 h (h.length : Int) (i : Int)) (fun k => ?_) (impl_word h hr i (by omega) _ (ih (i + 1) (by omega)))
      simp only [impl_digest.l0]; rw [if_pos (by omega), if_pos (by omega), if_pos (by omega)]
  exact key 8 0 (by omega)
end DigestOf
open DigestOf
theorem FnExactDigest : laws_FnExactDigest.Pure := by
  intro s _
  refine Ev.rounds (g := fun k => laws_FnExactDigest.f k s) ?_
  unfold laws_FnExactDigest.f
  by_cases h0 : (s.size : Int) > 1048576
  · simp only [if_pos h0]; exact Ev.now _
  simp only [if_neg h0]
  have himpl : Ev (fun k => impl_Digest.f k s) (digestM s) := by
    unfold impl_Digest.f
    exact Ev.bind (impl_digest_ok s (by omega)) (Ev.now _)
  refine Ev.bind (spec_digest s (by omega)) (Ev.bind himpl ?_)
  simp only [if_true]
  exact Ev.now _

end Go.Proofs.Ytklaigmpceacaaa.Pure
