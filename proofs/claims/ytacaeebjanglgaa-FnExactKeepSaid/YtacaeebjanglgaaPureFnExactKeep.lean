/- For every store and data of at most 2^20 elements and bytes the program's Keep answers as the reference's Keep, and its answer owns its memory, behind a writing over of the argument and another call too, and writes nothing into its argument. No condition but the sizes that the model lets an argument have. -/
import Derived.Test.YtacaeebjanglgaaQFnExactKeepx
import Derived.Test.YtacaeebjanglgaaDigestFnExactKeep
import Derived.Test.YtacaeebjanglgaaOrderFnExactKeep
namespace Go.Proofs.Ytacaeebjanglgaa.Pure
open Go.RowKit Go.Proofs.Ytacaeebjanglgaa.QFnExactKeep Go.Proofs.YtacaeebjanglgaaW.PrintWords Go.Proofs.YtacaeebjanglgaaW.PrintLast Go.Proofs.YtacaeebjanglgaaW.PrintMore Go.Proofs.Ytacaeebjanglgaa.Bits Go.Proofs.Ytacaeebjanglgaa.Num Go.Proofs.Ytacaeebjanglgaa.Loops Go.Proofs.Ytacaeebjanglgaa.Sha Go.Proofs.Ytacaeebjanglgaa.Dig Go.Proofs.Ytacaeebjanglgaa.FrameRead Go.Proofs.Ytacaeebjanglgaa.Digest Go.Proofs.Ytacaeebjanglgaa.Frame Go.Proofs.Ytacaeebjanglgaa.SetOf Go.Proofs.Ytacaeebjanglgaa.Order
set_option linter.unusedSimpArgs false
set_option linter.unusedVariables false
namespace StoreOf
theorem spec_rot (x n : Int) (h0 : 0 ≤ x) (h1 : x < 4294967296) : spec_Rotate.f x n = some (rotr x (n % 32).toNat) := by
  have ht := Int.tmod_lt_of_pos n (show (0 : Int) < 32 by decide)
  have ht2 : -32 < Int.tmod n 32 := by have := Int.lt_tmod_of_pos n (show (0 : Int) < 32 by decide); omega
  have hm : (Int.tmod n 32) % 32 = n % 32 := by have := Int.tmod_add_mul_tdiv n 32; omega
  have hk : IntKind.u64.wrap (Int.tmod (wrap64 ((Int.tmod n 32) + 32)) 32) = n % 32 := by
    have e1 : wrap64 ((Int.tmod n 32) + 32) = (Int.tmod n 32) + 32 := by unfold wrap64; omega
    rw [e1, Int.tmod_eq_emod_of_nonneg (by omega), IntKind.wrap_u64]; omega
  have hk2 : IntKind.u64.wrap (32 - n % 32) = 32 - n % 32 := by rw [IntKind.wrap_u64]; omega
  unfold spec_Rotate.f
  rw [hk, if_pos (by omega), hk2, if_pos (by omega)]
  have e2 : (32 - n % 32).toNat = 32 - (n % 32).toNat := by omega
  unfold shr shl
  rw [show min (n % 32).toNat IntKind.u32.bits = (n % 32).toNat by simp [IntKind.bits]; omega, show min (32 - n % 32).toNat IntKind.u32.bits = (32 - n % 32).toNat by simp [IntKind.bits]; omega, e2, bits_or_comm, or_rotr x _ h0 h1 (by omega)]
theorem spec_rot1 (x : Int) (hx : 0 ≤ x ∧ x < 4294967296) (n : Int) (m : Nat) (hm : (n % 32).toNat = m) : spec_Rotate.f x n = some (rotr x m) := by rw [spec_rot x n hx.1 hx.2, hm]
theorem spec_words (h K b : List Int) (hb : b.length = 64) {r : List Int} (hend : Ev (fun k => spec_l1Block.l0 k h K b (wordsM b 64) 64) r) : Ev (fun k => spec_l1Block.l0 k h K b (List.replicate 64 0) 0) r := by
  refine fold_loop (n := 64) (F := fun k w i => spec_l1Block.l0 k h K b w i) (st := fun i => wordsM b i) (fun t ht hr => ?_) hend
  obtain ⟨hl, hR⟩ := wordsM_ok b t
  rw [wordsM_succ] at hr
  refine Ev.step (fun k => ?_) hr
  simp only [spec_l1Block.l0]
  rw [if_pos (by omega), wrap_nat t (by omega)]
  unfold stepW
  generalize wordsM b t = w at hl hR
  by_cases h16 : t < 16
  · have e0 : wrap64 (4 * (t : Int)) = ((4 * t : Nat) : Int) := by unfold wrap64; omega
    have e1 : wrap64 (((4 * t : Nat) : Int) + 1) = ((4 * t + 1 : Nat) : Int) := by unfold wrap64; omega
    have e2 : wrap64 (((4 * t : Nat) : Int) + 2) = ((4 * t + 2 : Nat) : Int) := by unfold wrap64; omega
    have e3 : wrap64 (((4 * t : Nat) : Int) + 3) = ((4 * t + 3 : Nat) : Int) := by unfold wrap64; omega
    rw [if_pos (by omega), e0, e1, e2, e3]
    repeat rw [if_pos (by omega)]
    rw [Int.toNat_natCast]; rfl
  · have e15 : wrap64 ((t : Int) - 15) = ((t - 15 : Nat) : Int) := by unfold wrap64; omega
    have e2 : wrap64 ((t : Int) - 2) = ((t - 2 : Nat) : Int) := by unfold wrap64; omega
    have e7 : wrap64 ((t : Int) - 7) = ((t - 7 : Nat) : Int) := by unfold wrap64; omega
    have e16 : wrap64 ((t : Int) - 16) = ((t - 16 : Nat) : Int) := by unfold wrap64; omega
    rw [if_neg (by omega), e15, e2, e7, e16]
    rw [if_pos (by omega), if_pos (by omega), if_pos (by omega), if_pos (by omega), spec_rot1 _ (hR.at _) 7 7 rfl, bindS, spec_rot1 _ (hR.at _) 18 18 rfl, bindS, spec_rot1 _ (hR.at _) 17 17 rfl, bindS, spec_rot1 _ (hR.at _) 19 19 rfl, bindS]
    rw [if_pos (by omega), if_pos (by omega), if_pos (by omega), if_pos (by omega), if_pos (by omega), if_pos (by omega), Int.toNat_natCast, if_neg h16]
    congr 2
    simp only [nextW, sml0, sml1]
    omega
theorem spec_rounds (h K b W : List Int) (hK : K.length = 64) (hW : W.length = 64) (hl : h.length = 8) (hr : R32 h) {r : List Int} (hend : Ev (fun k => spec_l1Block.l1 k h K W (roundsM K W h 64) 64) r) : Ev (fun k => spec_l1Block.l1 k h K W h 0) r := by
  refine fold_loop (n := 64) (F := fun k v i => spec_l1Block.l1 k h K W v i) (st := fun i => roundsM K W h i) (fun t ht hr' => ?_) hend
  obtain ⟨hvl, hR⟩ := roundsM_ok K W h hl hr t
  rw [roundsM_succ] at hr'
  refine Ev.step (fun k => ?_) hr'
  simp only [spec_l1Block.l1]
  generalize roundsM K W h t = v at hvl hR
  rw [if_pos (by omega), if_pos (by omega), if_pos (by omega), if_pos (by omega), spec_rot1 _ (hR.at _) 6 6 rfl, bindS, spec_rot1 _ (hR.at _) 11 11 rfl, bindS, spec_rot1 _ (hR.at _) 25 25 rfl, bindS]
  rw [if_pos (by omega), if_pos (by omega), if_pos (by omega), if_pos (by omega), if_pos (by omega), spec_rot1 _ (hR.at _) 2 2 rfl, bindS, spec_rot1 _ (hR.at _) 13 13 rfl, bindS, spec_rot1 _ (hR.at _) 22 22 rfl, bindS]
  rw [if_pos (by omega), if_pos (by omega), if_pos (by omega), wrap_nat t (by omega)]
  congr 1
  simp only [roundM, oneM, twoM, big0, big1, ch, maj]
  congr 1
  · omega
  · congr 4
    omega
theorem spec_add (h v : List Int) (hl : h.length = 8) (hvl : v.length = 8) : Ev (fun k => spec_l1Block.l2 k h v [] 0) (addM h v 8) := by
  refine fold_loop (n := 8) (F := fun k a i => spec_l1Block.l2 k h v a i) (st := fun i => addM h v i) (fun i hi hr => ?_) (Ev.step (f := fun _ => some (addM h v 8)) (fun k => ?_) (Ev.now _))
  · rw [addM_succ] at hr
    refine Ev.step (fun k => ?_) hr
    have := addM_len h v i
    simp only [spec_l1Block.l2]
    rw [if_pos (by omega), if_pos (by omega), if_pos (by omega), if_pos (by omega), if_pos (by omega), wrap_nat i (by omega)]
  · simp only [spec_l1Block.l2]; rw [if_neg (by omega)]
theorem spec_block (h K b : List Int) (hK : K.length = 64) (hb : b.length = 64) (hl : h.length = 8) (hr : R32 h) : Ev (fun k => spec_l1Block.f k h K b) (blockM h K b) := by
  unfold spec_l1Block.f blockM
  simp only [show (64 : Nat) ≤ 70368744177664 by omega, if_true]
  obtain ⟨hwl, _⟩ := wordsM_ok b 64
  refine spec_words h K b hb ?_
  generalize wordsM b 64 = W at hwl
  refine Ev.step (f := fun k => spec_l1Block.l1 k h K W h 0) (fun k => ?_) ?_
  · simp only [spec_l1Block.l0]
    rw [if_neg (by omega), bindS, if_pos (by simp; omega), List.nil_append]
  · refine spec_rounds h K b W hK hwl hl hr ?_
    obtain ⟨hvl, _⟩ := roundsM_ok K W h hl hr 64
    refine Ev.step (f := fun k => spec_l1Block.l2 k h (roundsM K W h 64) [] 0) (fun k => ?_) (spec_add h _ hl hvl)
    simp only [spec_l1Block.l1]
    rw [if_neg (by omega)]
theorem spec_runs (s : ByteArray) (p : List Int) (n : Nat) (hp : p.length = 64 * n) (hn : n ≤ 4611686018427387904 / 64) : Ev (fun k => spec_Sum.l2 k p kM hM 0) (runM p n) := by
  have key : ∀ d i : Nat, i + d = n → Ev (fun k => spec_Sum.l2 k p kM (runM p i) ((64 * i : Nat) : Int)) (runM p n) := by
    intro d
    induction d with
    | zero =>
      intro i hi
      obtain rfl : i = n := by omega
      refine Ev.step (f := fun _ => some (runM p i)) (fun k => ?_) (Ev.now _)
      simp only [spec_Sum.l2]; rw [if_neg (by omega)]
    | succ d ih =>
      intro i hi
      obtain ⟨hl, hr⟩ := runM_ok p i
      have hw : wrap64 (((64 * i : Nat) : Int) + 64) = ((64 * (i + 1) : Nat) : Int) := by unfold wrap64; omega
      have hbl : ((p.drop (64 * i)).take 64).length = 64 := by rw [List.length_take, List.length_drop]; omega
      have hcut : (p.take (64 * (i + 1))).drop (64 * i) = (p.drop (64 * i)).take 64 := by
        rw [List.drop_take]; congr 1; omega
      refine Ev.step (f := fun k => (spec_l1Block.f k (runM p i) kM ((p.drop (64 * i)).take 64)).bind fun t => spec_Sum.l2 k p kM t ((64 * (i + 1) : Nat) : Int)) (fun k => ?_) (Ev.bind (spec_block _ kM _ rfl hbl hl hr) ?_)
      · simp only [spec_Sum.l2]
        rw [if_pos (by omega), if_pos (by omega), hw, if_pos (by omega), if_pos (by omega), Int.toNat_natCast, Int.toNat_natCast, hcut]
      · rw [← runM_succ]; exact ih (i + 1) (by omega)
  exact key n 0 (by omega)
theorem spec_lens (s : ByteArray) (p0 : List Int) (n : Int) (hp : p0.length ≤ 4611686018427387904 / 64) {r : List Int} (hl : p0.length < 140737488355320) (hend : Ev (fun k => spec_Sum.l2 k (p0 ++ lenM n 8) kM hM 0) r) : Ev (fun k => spec_Sum.l1 k p0 n 7) r := by
  have key : ∀ d i : Nat, i + d = 8 → Ev (fun k => spec_Sum.l1 k (p0 ++ lenM n i) n (7 - (i : Int))) r := by
    intro d
    induction d with
    | zero =>
      intro i hi
      obtain rfl : i = 8 := by omega
      refine Ev.step (f := fun k => spec_Sum.l2 k (p0 ++ lenM n 8) kM hM 0) (fun k => ?_) hend
      simp only [spec_Sum.l1]
      rw [if_neg (by omega)]
      unfold spec_l1K.f
      rw [bindS]; rfl
    | succ d ih =>
      intro i hi
      have hi8 : i ≤ 7 := by omega
      have e7 : (7 - (i : Int)) = ((7 - i : Nat) : Int) := by omega
      have hw : wrap64 ((7 - (i : Int)) - 1) = 7 - ((i + 1 : Nat) : Int) := by unfold wrap64; omega
      have hnn : (0 : Int) ≤ IntKind.u64.wrap (wrap64 (8 * (7 - (i : Int)))) := by rw [IntKind.wrap_u64]; omega
      refine Ev.step (fun k => ?_) (ih (i + 1) (by omega))
      simp only [spec_Sum.l1]
      rw [if_pos (by omega), if_pos hnn, if_pos (by rw [List.length_append, lenM_len]; omega), hw, List.append_assoc]
      rw [lenM, ← e7]
  have := key 8 0 (by omega)
  simpa [lenM] using this
theorem spec_sum (s : ByteArray) (hs : s.size ≤ 70368744177664) : Ev (fun k => spec_Sum.f k s) (sumM s) := by
  unfold spec_Sum.f
  have hbl := bytesOf_length s
  simp only [if_pos (show (s.size : Int) ≤ 140737488351232 by omega)]
  refine Ev.bind (Ev.now _) ?_
  simp only [if_pos (show (bytesOf s).length < 140737488355328 by omega)]
  have key : ∀ d i : Nat, i + d = zerosM s.size → Ev (fun k => spec_Sum.l0 k s (bytesOf s ++ [128] ++ List.replicate i 0)) (sumM s) := by
    intro d
    induction d with
    | zero =>
      intro i hi
      obtain rfl : i = zerosM s.size := by omega
      have hz : zerosM s.size < 64 := by unfold zerosM; omega
      have h56 : ((bytesOf s ++ [128] ++ List.replicate (zerosM s.size) (0 : Int)).length : Int) % 64 = 56 := by
        simp only [List.length_append, List.length_replicate, List.length_singleton, hbl, zerosM]; omega
      have hlen : (bytesOf s ++ [128] ++ List.replicate (zerosM s.size) (0 : Int)).length = s.size + 1 + zerosM s.size := by simp [hbl]; omega
      refine Ev.step (f := fun k => spec_Sum.l1 k (bytesOf s ++ [128] ++ List.replicate (zerosM s.size) 0) (IntKind.u64.wrap ((IntKind.u64.wrap ((s.size : Int))) * 8)) 7) (fun k => ?_) ?_
      · simp only [spec_Sum.l0]; rw [if_pos h56]
      · refine spec_lens s _ _ (by omega) (by omega) ?_
        have hp := padM_len s
        unfold sumM
        exact spec_runs s (padM s) _ hp (by omega)
    | succ d ih =>
      intro i hi
      have hz : zerosM s.size < 64 := by unfold zerosM; omega
      have h56 : ¬ ((bytesOf s ++ [128] ++ List.replicate i (0 : Int)).length : Int) % 64 = 56 := by
        simp only [List.length_append, List.length_replicate, List.length_singleton, hbl]
        unfold zerosM at hi hz
        omega
      refine Ev.step (fun k => ?_) (ih (i + 1) (by omega))
      simp only [spec_Sum.l0]
      rw [if_neg h56, if_pos (by simp [hbl]; omega), List.append_assoc _ (List.replicate i 0), ← List.replicate_succ']
  have := key (zerosM s.size) 0 (by omega)
  simpa using this
theorem spec_hex (n : Int) (hn : 0 ≤ n ∧ n < 4294967296) : Ev (fun k => spec_l1Hex.f k n) (hexM n) := by
  unfold spec_l1Hex.f
  have key : ∀ d i : Nat, i + d = 8 → Ev (fun k => spec_l1Hex.l0 k n (hexL n i) (7 - (i : Int))) (hexM n) := by
    intro d
    induction d with
    | zero =>
      intro i hi
      obtain rfl : i = 8 := by omega
      exact Ev.step (f := fun _ => some (hexM n)) (fun k => by simp only [spec_l1Hex.l0]; rw [if_neg (by omega)]; rfl) (Ev.now _)
    | succ d ih =>
      intro i hi
      have e7 : (7 - (i : Int)) = ((7 - i : Nat) : Int) := by omega
      have hw : wrap64 ((7 - (i : Int)) - 1) = 7 - ((i + 1 : Nat) : Int) := by unfold wrap64; omega
      have hnn : (0 : Int) ≤ IntKind.u64.wrap (wrap64 (4 * (7 - (i : Int)))) := by rw [IntKind.wrap_u64]; omega
      have hr := nib_range n i hn
      have hnib : Go.bits .and .u32 (shr .u32 n (IntKind.u64.wrap (wrap64 (4 * (7 - (i : Int)))))) 15 = nibM n i := by rw [nibM, e7]
      refine Ev.step (fun k => ?_) (ih (i + 1) (by omega))
      simp only [spec_l1Hex.l0]
      rw [if_pos (by omega), if_pos hnn, hnib, if_pos hr.1, if_pos hr.2, if_pos (by rw [hexL_len]; omega), hw, hexL_succ]
      rfl
  exact key 8 0 (by omega)
theorem spec_digest (s : ByteArray) (hs : s.size ≤ 70368744177664) : Ev (fun k => spec_Digest.f k s) (digestM s) := by
  unfold spec_Digest.f
  refine Ev.bind (spec_sum s hs) ?_
  obtain ⟨hl, hr⟩ := sumM_ok s
  unfold digestM
  generalize sumM s = h at hl hr
  refine fold_loop (n := 8) (F := fun k t i => spec_Digest.l0 k h t i) (st := fun i => digL h i) (fun i hi hh => ?_) (Ev.step (f := fun _ => some (digL h 8)) (fun k => ?_) (Ev.now _))
  · refine Ev.step (f := fun k => (spec_l1Hex.f k (rd h (i : Int))).bind fun t => if (digL h i).size + t.size ≤ 9223372036854775807 then spec_Digest.l0 k h (digL h i ++ t) ((i + 1 : Nat) : Int) else none) (fun k => ?_) (Ev.bind (spec_hex _ (hr.at _)) ?_)
    · simp only [spec_Digest.l0]
      rw [if_pos (by omega), if_pos (by omega), if_pos (by omega), wrap_nat i (by omega)]
    · simp only [if_pos (show (digL h i).size + (hexM (rd h (i : Int))).size ≤ 9223372036854775807 by rw [digL_size, hexM_size]; omega)]
      exact hh
  · simp only [spec_Digest.l0]; rw [if_neg (by omega)]
theorem digL_next (h : List Int) (hr : R32 h) (i : Nat) : bytesOf (digL h (i + 1)) = bytesOf (digL h i) ++ hexL (rd h (i : Int)) 8 := by
  rw [digL, bytesOf_append, hexM, bytesOf_strOfNums _ (fun x hx => (hexL_hex _ (hr.at _) 8 x hx).2)]
theorem impl_nib (n : Int) (j : Nat) (hj : j < 8) : Go.bits .and .u32 (shr .u32 n (28 - 4 * (j : Int))) 15 = nibM n j := by
  unfold nibM
  rw [show IntKind.u64.wrap (wrap64 (4 * ((7 - j : Nat) : Int))) = 28 - 4 * (j : Int) by rw [IntKind.wrap_u64]; unfold wrap64; omega]
theorem impl_word (h : List Int) (hr : R32 h) (i : Nat) (hi : i < 8) (l : Int) {r : ByteArray} (hend : Ev (fun k => impl_digest.l0 k (bytesOf (digL h (i + 1))) h l ((i + 1 : Nat) : Int)) r) : Ev (fun k => impl_digest.l1 k (bytesOf (digL h i)) (rd h (i : Int)) 28 h l (i : Int)) r := by
  have hlen : (bytesOf (digL h i)).length = 7 + 8 * i := by rw [bytesOf_length, digL_size]
  have key : ∀ d j : Nat, j + d = 8 → Ev (fun k => impl_digest.l1 k (bytesOf (digL h i) ++ hexL (rd h (i : Int)) j) (rd h (i : Int)) (28 - 4 * (j : Int)) h l (i : Int)) r := by
    intro d
    induction d with
    | zero =>
      intro j hj
      obtain rfl : j = 8 := by omega
      refine Ev.step (fun k => ?_) hend
      simp only [impl_digest.l1]
      rw [if_neg (by omega), wrap_nat i (by omega), digL_next h hr i]
    | succ d ih =>
      intro j hj
      have hn := nib_range (rd h (i : Int)) j (hr.at _)
      refine Ev.step (fun k => ?_) (ih (j + 1) (by omega))
      simp only [impl_digest.l1]
      rw [if_pos (by omega), if_pos (by omega), impl_nib _ j (by omega), if_pos hn.1, if_pos hn.2, if_pos (by rw [List.length_append, hlen, hexL_len]; omega), hexL_succ, ← List.append_assoc]
      rw [show wrap64 (28 - 4 * (j : Int) - 4) = 28 - 4 * ((j + 1 : Nat) : Int) by unfold wrap64; omega]
      rfl
  have := key 8 0 (by omega)
  simpa [hexL] using this
theorem impl_digest_ok (s : ByteArray) (hs : s.size ≤ 70368744177664) : Ev (fun k => impl_digest.f k s) (digestM s) := by
  unfold impl_digest.f
  refine Ev.bind (Ev.is (show impl_sum.f s = some (sumM s) by unfold impl_sum.f; rw [if_pos hs])) ?_
  obtain ⟨hl, hr⟩ := sumM_ok s
  unfold digestM
  generalize sumM s = h at hl hr
  have key : ∀ d i : Nat, i + d = 8 → Ev (fun k => impl_digest.l0 k (bytesOf (digL h i)) h (h.length : Int) (i : Int)) (digL h 8) := by
    intro d
    induction d with
    | zero =>
      intro i hi
      obtain rfl : i = 8 := by omega
      refine Ev.step (f := fun _ => some (digL h 8)) (fun k => ?_) (Ev.now _)
      simp only [impl_digest.l0]; rw [if_neg (by omega), strOfNums_bytesOf]
    | succ d ih =>
      intro i hi
      refine Ev.step (f := fun k => impl_digest.l1 k (bytesOf (digL h i)) (rd h (i : Int)) 28 h (h.length : Int) (i : Int)) (fun k => ?_) (impl_word h hr i (by omega) _ (ih (i + 1) (by omega)))
      simp only [impl_digest.l0]; rw [if_pos (by omega), if_pos (by omega), if_pos (by omega)]
  exact key 8 0 (by omega)
abbrev LB := S95
abbrev LU := S97
abbrev IB := S66
abbrev IU := S68
def toB (x : LB) : IB := ⟨x.f0, x.f1⟩
def toU (x : LU) : IU := ⟨x.f0, x.f1⟩
theorem rdLB (xs : List LB) (i : Nat) (h : i < xs.length) : rd_T95 xs (i : Int) = xs[i] := getD_at xs i _ h
theorem rdLU (xs : List LU) (i : Nat) (h : i < xs.length) : rd_T97 xs (i : Int) = xs[i] := getD_at xs i _ h
theorem rdIB (xs : List IB) (i : Nat) (h : i < xs.length) : rd_T66 xs (i : Int) = xs[i] := getD_at xs i _ h
theorem rdIU (xs : List IU) (i : Nat) (h : i < xs.length) : rd_T68 xs (i : Int) = xs[i] := getD_at xs i _ h
theorem szB_loop (xs : List LB) (hx : ∀ x ∈ xs, x.f0.size ≤ maxLen ∧ x.f1.size ≤ maxLen) (hl : xs.length ≤ 1048576) (d : Nat) : ∀ (i : Nat) (left : Int), i + d = xs.length → 0 ≤ left → left ≤ 1048576 →
    ∃ r, Ev (fun k => laws_szBlobS.l0 k xs left (i : Int)) r ∧ r ≤ left ∧ (0 ≤ r → ∀ j, i ≤ j → (h : j < xs.length) → xs[j].f0.size ≤ 1048576 ∧ xs[j].f1.size ≤ 1048576) := by
  induction d with
  | zero =>
    intro i left hi h0 h1
    refine ⟨left, Ev.step (f := fun _ => some left) (fun k => ?_) (Ev.now _), by omega, fun _ j hj h => by omega⟩
    simp only [laws_szBlobS.l0]; rw [if_neg (by omega)]
  | succ d ih =>
    intro i left hi h0 h1
    have hlt : i < xs.length := by omega
    have hs := hx _ (List.getElem_mem hlt)
    unfold maxLen at hs
    have ew : wrap64 (left - (xs[i].f0.size : Int)) = left - xs[i].f0.size := by unfold wrap64; omega
    by_cases hn : left - (xs[i].f0.size : Int) < 0
    · refine ⟨-1, Ev.step (f := fun _ => some (-1)) (fun k => ?_) (Ev.now _), by omega, fun h => absurd h (by omega)⟩
      simp only [laws_szBlobS.l0]; rw [if_pos (by omega), if_pos (by omega)]
      unfold laws_szBlob.f; rw [rdLB xs i hlt, ew, if_pos hn]; simp
    · have ew2 : wrap64 (left - (xs[i].f0.size : Int) - (xs[i].f1.size : Int)) = left - xs[i].f0.size - xs[i].f1.size := by clear ew; unfold wrap64; omega
      by_cases hn2 : left - (xs[i].f0.size : Int) - (xs[i].f1.size : Int) < 0
      · refine ⟨-1, Ev.step (f := fun _ => some (-1)) (fun k => ?_) (Ev.now _), by omega, fun h => absurd h (by omega)⟩
        simp only [laws_szBlobS.l0]; rw [if_pos (by omega), if_pos (by omega)]
        unfold laws_szBlob.f; rw [rdLB xs i hlt, ew, if_neg hn, ew2, if_pos hn2]; simp
      · obtain ⟨r, hr, hr1, hr2⟩ := ih (i + 1) (left - xs[i].f0.size - xs[i].f1.size) (by omega) (by omega) (by omega)
        refine ⟨r, Ev.step (f := fun k => laws_szBlobS.l0 k xs (left - xs[i].f0.size - xs[i].f1.size) ((i + 1 : Nat) : Int)) (fun k => ?_) hr, by omega, fun h j hj hjl => ?_⟩
        · simp only [laws_szBlobS.l0]; rw [if_pos (by omega), if_pos (by omega)]
          unfold laws_szBlob.f; rw [rdLB xs i hlt, ew, if_neg hn, ew2, if_neg hn2, wrap_nat i (by omega)]; simp only [Option.bind_some]; rw [if_neg hn2]
        · by_cases e : i = j
          · subst e; omega
          · exact hr2 h j (by omega) hjl
theorem szU_loop (xs : List LU) (hx : ∀ x ∈ xs, x.f1.size ≤ maxLen) (hl : xs.length ≤ 1048576) (d : Nat) : ∀ (i : Nat) (left : Int), i + d = xs.length → 0 ≤ left → left ≤ 1048576 →
    ∃ r, Ev (fun k => laws_szUploadS.l0 k xs left (i : Int)) r ∧ r ≤ left ∧ (0 ≤ r → ∀ j, i ≤ j → (h : j < xs.length) → xs[j].f1.size ≤ 1048576) := by
  induction d with
  | zero =>
    intro i left hi h0 h1
    refine ⟨left, Ev.step (f := fun _ => some left) (fun k => ?_) (Ev.now _), by omega, fun _ j hj h => by omega⟩
    simp only [laws_szUploadS.l0]; rw [if_neg (by omega)]
  | succ d ih =>
    intro i left hi h0 h1
    have hlt : i < xs.length := by omega
    have hs := hx _ (List.getElem_mem hlt)
    unfold maxLen at hs
    have ew : wrap64 (left - (xs[i].f1.size : Int)) = left - xs[i].f1.size := by unfold wrap64; omega
    by_cases hn : left - (xs[i].f1.size : Int) < 0
    · refine ⟨-1, Ev.step (f := fun _ => some (-1)) (fun k => ?_) (Ev.now _), by omega, fun h => absurd h (by omega)⟩
      simp only [laws_szUploadS.l0]; rw [if_pos (by omega), if_pos (by omega)]
      unfold laws_szUpload.f; rw [rdLU xs i hlt, ew, if_pos hn]; simp
    · obtain ⟨r, hr, hr1, hr2⟩ := ih (i + 1) (left - xs[i].f1.size) (by omega) (by omega) (by omega)
      refine ⟨r, Ev.step (f := fun k => laws_szUploadS.l0 k xs (left - xs[i].f1.size) ((i + 1 : Nat) : Int)) (fun k => ?_) hr, by omega, fun h j hj hjl => ?_⟩
      · simp only [laws_szUploadS.l0]; rw [if_pos (by omega), if_pos (by omega)]
        unfold laws_szUpload.f; rw [rdLU xs i hlt, ew, if_neg hn, wrap_nat i (by omega)]; simp only [Option.bind_some]; rw [if_neg hn]
      · by_cases e : i = j
        · subst e; omega
        · exact hr2 h j (by omega) hjl
def Small (bs : List IB) (us : List IU) : Prop := bs.length ≤ 1048576 ∧ us.length ≤ 1048576 ∧ (∀ x ∈ bs, x.f0.size ≤ 1048576 ∧ x.f1.size ≤ 1048576) ∧ ∀ x ∈ us, x.f1.size ≤ 1048576
theorem sz_ok (q : Int) (bs : List LB) (us : List LU) (nx : Int) (hb : bs.length ≤ maxLen ∧ ∀ x ∈ bs, x.f0.size ≤ maxLen ∧ x.f1.size ≤ maxLen) (hu : us.length ≤ maxLen ∧ ∀ x ∈ us, x.f1.size ≤ maxLen) :
    ∃ r, Ev (fun k => laws_szStore.f k q bs us nx 1048576) r ∧ r ≤ 1048576 ∧ (0 ≤ r → Small (bs.map toB) (us.map toU)) := by
  obtain ⟨hbl, hbx⟩ := hb
  obtain ⟨hul, hux⟩ := hu
  unfold maxLen at hbl hul
  unfold laws_szStore.f laws_szBlobS.f laws_szUploadS.f
  have ew : wrap64 (1048576 - (bs.length : Int)) = 1048576 - bs.length := by unfold wrap64; omega
  by_cases hn : (1048576 - (bs.length : Int)) < 0
  · refine ⟨-1, ?_, by omega, fun h => absurd h (by omega)⟩
    simp only [ew, if_pos hn, Option.bind_some]; exact Ev.now _
  · obtain ⟨r1, hr1, hr1a, hr1b⟩ := szB_loop bs hbx (by omega) bs.length 0 (1048576 - bs.length) (by omega) (by omega) (by omega)
    simp only [ew, if_neg hn]
    by_cases h0 : r1 < 0
    · refine ⟨-1, Ev.bind hr1 ?_, by omega, fun h => absurd h (by omega)⟩
      simp only [if_pos h0]; exact Ev.now _
    · have ew2 : wrap64 (r1 - (us.length : Int)) = r1 - us.length := by unfold wrap64; omega
      by_cases hn2 : r1 - (us.length : Int) < 0
      · refine ⟨-1, Ev.bind hr1 ?_, by omega, fun h => absurd h (by omega)⟩
        simp only [if_neg h0, ew2, if_pos hn2, Option.bind_some]; exact Ev.now _
      · obtain ⟨r2, hr2, hr2a, hr2b⟩ := szU_loop us hux (by omega) us.length 0 (r1 - us.length) (by omega) (by omega) (by omega)
        by_cases h2 : r2 < 0
        · refine ⟨-1, Ev.bind hr1 ?_, by omega, fun h => absurd h (by omega)⟩
          simp only [if_neg h0, ew2, if_neg hn2]
          refine Ev.bind hr2 ?_
          simp only [if_pos h2]; exact Ev.now _
        · refine ⟨r2, Ev.bind hr1 ?_, by omega, fun _ => ⟨by rw [List.length_map]; omega, by rw [List.length_map]; omega, fun x hx => ?_, fun x hx => ?_⟩⟩
          · simp only [if_neg h0, ew2, if_neg hn2]
            refine Ev.bind hr2 ?_
            simp only [if_neg h2]; exact Ev.now _
          · obtain ⟨y, hy, rfl⟩ := List.mem_map.1 hx
            obtain ⟨j, hj, rfl⟩ := List.getElem_of_mem hy
            exact hr1b (by omega) j (by omega) hj
          · obtain ⟨y, hy, rfl⟩ := List.mem_map.1 hx
            obtain ⟨j, hj, rfl⟩ := List.getElem_of_mem hy
            exact hr2b (by omega) j (by omega) hj
theorem to_ok (q : Int) (bs : List LB) (us : List LU) (nx : Int) (hb : bs.length ≤ 1048576) (hu : us.length ≤ 1048576) : Ev (fun k => laws_toStore.f k q bs us nx) (q, bs.map toB, us.map toU, nx) := by
  unfold laws_toStore.f laws_toBlobS.f laws_toUploadS.f
  simp only [if_pos (show (0 : Int) ≤ (bs.length : Int) by omega), if_pos (show ((bs.length : Int)).toNat ≤ 8796093022208 by omega), if_pos (show (0 : Int) ≤ (us.length : Int) by omega), if_pos (show ((us.length : Int)).toNat ≤ 11728124029610 by omega)]
  refine Ev.bind (a := bs.map toB) ?_ (Ev.bind (a := us.map toU) ?_ (Ev.now _))
  · refine fill_loop bs toB (F := fun k acc i => laws_toBlobS.l0 k bs acc i) (fun i h acc ha k => ?_) (fun acc ha k => ?_) _ (by simp)
    · simp only [laws_toBlobS.l0]; rw [if_pos (by omega), if_pos (by omega)]
      unfold laws_toBlob.f; simp only [Option.bind_some]; rw [if_pos (by omega), rdLB bs i h, wrap_nat i (by omega), Int.toNat_natCast]; rfl
    · simp only [laws_toBlobS.l0]; rw [if_neg (by omega)]
  · refine fill_loop us toU (F := fun k acc i => laws_toUploadS.l0 k us acc i) (fun i h acc ha k => ?_) (fun acc ha k => ?_) _ (by simp)
    · simp only [laws_toUploadS.l0]; rw [if_pos (by omega), if_pos (by omega)]
      unfold laws_toUpload.f; simp only [Option.bind_some]; rw [if_pos (by omega), rdLU us i h, wrap_nat i (by omega), Int.toNat_natCast]; rfl
    · simp only [laws_toUploadS.l0]; rw [if_neg (by omega)]
theorem eqB_refl (x : IB) : laws_eqBlob.f x.f0 x.f1 x.f0 x.f1 = some true := by unfold laws_eqBlob.f; simp
theorem eqU_refl (x : IU) : laws_eqUpload.f x.f0 x.f1 x.f0 x.f1 = some true := by unfold laws_eqUpload.f; simp
theorem eq_refl (q : Int) (bs : List IB) (us : List IU) (nx : Int) (hb : bs.length ≤ 2097152) (hu : us.length ≤ 2097152) : Ev (fun k => laws_eqStore.f k q bs us nx q bs us nx) true := by
  unfold laws_eqStore.f laws_eqBlobS.f laws_eqUploadS.f
  simp only [if_true]
  refine Ev.bind (a := true) ?_ ?_
  · refine on_loop (n := bs.length) (F := fun k i => laws_eqBlobS.l0 k bs bs i) (fun i hi k => ?_) (Ev.step (f := fun _ => some true) (fun k => ?_) (Ev.now _))
    · simp only [laws_eqBlobS.l0]; rw [if_pos (by omega), if_pos (by omega), if_pos (by omega), rdIB bs i hi, eqB_refl, wrap_nat i (by omega)]; rfl
    · simp only [laws_eqBlobS.l0]; rw [if_neg (by omega)]
  · simp only [if_true]
    refine Ev.bind (a := true) ?_ (by simp only [if_true]; exact Ev.now _)
    refine on_loop (n := us.length) (F := fun k i => laws_eqUploadS.l0 k us us i) (fun i hi k => ?_) (Ev.step (f := fun _ => some true) (fun k => ?_) (Ev.now _))
    · simp only [laws_eqUploadS.l0]; rw [if_pos (by omega), if_pos (by omega), if_pos (by omega), rdIU us i hi, eqU_refl, wrap_nat i (by omega)]; rfl
    · simp only [laws_eqUploadS.l0]; rw [if_neg (by omega)]
theorem l1In_eq (a b c : Int) : spec_l1In.f a b c = some (decide (b ≤ a ∧ a ≤ c)) := by
  unfold spec_l1In.f
  by_cases h : a ≥ b
  · rw [if_pos h]; simp [h]
  · rw [if_neg h]; simp [h]
theorem in_eq (a b c : Int) : impl_in.f a b c = some (decide (b ≤ a ∧ a ≤ c)) := by
  unfold impl_in.f
  by_cases h : a ≥ b
  · rw [if_pos h]; simp [h]
  · rw [if_neg h]; simp [h]
theorem all_then {n : Nat} {F : Nat → Int → Option Bool} {p : Nat → Bool} {R : Bool} (hstep : ∀ i : Nat, i < n → ∀ r, Ev (fun k => F k ((i + 1 : Nat) : Int)) r → Ev (fun k => F k (i : Int)) (p i && r)) (hend : Ev (fun k => F k (n : Int)) R) :
    Ev (fun k => F k 0) ((List.range n).all p && R) := by
  have key : ∀ d i : Nat, i + d = n → Ev (fun k => F k (i : Int)) ((List.range' i d).all p && R) := by
    intro d
    induction d with
    | zero => intro i hi; obtain rfl : i = n := by omega
              simpa using hend
    | succ d ih =>
      intro i hi
      have := hstep i (by omega) _ (ih (i + 1) (by omega))
      rw [List.range'_succ, List.all_cons, Bool.and_assoc]
      exact this
  rw [List.range_eq_range']
  exact key n 0 (by omega)
def accB (bs : List IB) : Nat → Int
  | 0 => 0
  | i + 1 => accB bs i + ((rd_T66 bs (i : Int)).f1.size : Int)
def accU (us : List IU) : Nat → Int
  | 0 => 0
  | i + 1 => accU us i + ((rd_T68 us (i : Int)).f1.size : Int)
theorem accB_bd (bs : List IB) (h : ∀ x ∈ bs, x.f0.size ≤ 1048576 ∧ x.f1.size ≤ 1048576) (i : Nat) (hi : i ≤ bs.length) : 0 ≤ accB bs i ∧ accB bs i ≤ 1048576 * (i : Int) := by
  induction i with
  | zero => exact ⟨Int.le_refl _, by simp [accB]⟩
  | succ i ih =>
    have := ih (by omega)
    have hx := (h _ (List.getElem_mem (show i < bs.length by omega))).2
    rw [accB, rdIB bs i (by omega)]; omega
theorem accU_bd (us : List IU) (h : ∀ x ∈ us, x.f1.size ≤ 1048576) (i : Nat) (hi : i ≤ us.length) : 0 ≤ accU us i ∧ accU us i ≤ 1048576 * (i : Int) := by
  induction i with
  | zero => exact ⟨Int.le_refl _, by simp [accU]⟩
  | succ i ih =>
    have := ih (by omega)
    have hx := h _ (List.getElem_mem (show i < us.length by omega))
    rw [accU, rdIU us i (by omega)]; omega
def usedM (bs : List IB) (us : List IU) : Int := accB bs bs.length + accU us us.length
def blM (bs : List IB) (i : Nat) : Bool := decide ((rd_T66 bs (i : Int)).f0.toList = (digestM (rd_T66 bs (i : Int)).f1).toList) && (decide (i = 0) || Op.bytesLess ((rd_T66 bs ((i - 1 : Nat) : Int)).f0.toList) ((rd_T66 bs (i : Int)).f0.toList))
def upM (us : List IU) (nx : Int) (i : Nat) : Bool := decide (1 ≤ (rd_T68 us (i : Int)).f0 ∧ (rd_T68 us (i : Int)).f0 ≤ wrap64 (nx - 1)) && (decide (i = 0) || decide (¬ (rd_T68 us (i : Int)).f0 ≤ (rd_T68 us ((i - 1 : Nat) : Int)).f0))
def storeM (q : Int) (bs : List IB) (us : List IU) (nx : Int) : Bool :=
  decide (0 ≤ q ∧ q ≤ 200000) && (decide (¬ (bs.length : Int) > 60) && (decide (¬ (us.length : Int) > 10) && (decide (1 ≤ nx ∧ nx ≤ 1000000000000) && (decide (¬ usedM bs us > q) && ((List.range bs.length).all (blM bs) && (List.range us.length).all (upM us nx))))))
theorem spec_used (q : Int) (bs : List IB) (us : List IU) (nx : Int) (hs : Small bs us) : Ev (fun k => spec_l6Used.f k q bs us nx) (usedM bs us) := by
  unfold spec_l6Used.f
  obtain ⟨h1, h2, h3, h4⟩ := hs
  refine fold_loop (n := bs.length) (F := fun k v i => spec_l6Used.l0 k v i q bs us nx) (st := fun i => accB bs i) (fun i hi hr => ?_) ?_
  · refine Ev.step (fun k => ?_) hr
    have hb := accB_bd bs h3 i (by omega)
    have hb2 := accB_bd bs h3 (i + 1) (by omega)
    simp only [spec_l6Used.l0]
    rw [if_pos (by omega), if_pos (by omega), wrap_nat i (by omega), ← accB]
    rw [show wrap64 (accB bs (i + 1)) = accB bs (i + 1) by unfold wrap64; omega]
  · refine Ev.step (f := fun k => spec_l6Used.l1 k (accB bs bs.length) 0 q bs us nx) (fun k => by simp only [spec_l6Used.l0]; rw [if_neg (by omega)]) ?_
    have hb := accB_bd bs h3 bs.length (Nat.le_refl _)
    have : Ev (fun k => spec_l6Used.l1 k (accB bs bs.length + accU us 0) 0 q bs us nx) (usedM bs us) := by
      refine fold_loop (n := us.length) (F := fun k v i => spec_l6Used.l1 k v i q bs us nx) (st := fun i => accB bs bs.length + accU us i) (fun i hi hr => ?_) (Ev.step (f := fun _ => some (usedM bs us)) (fun k => ?_) (Ev.now _))
      · refine Ev.step (fun k => ?_) hr
        have hu := accU_bd us h4 (i + 1) (by omega)
        simp only [spec_l6Used.l1]
        rw [if_pos (by omega), if_pos (by omega), wrap_nat i (by omega), Int.add_assoc, ← accU]
        rw [show wrap64 (accB bs bs.length + accU us (i + 1)) = accB bs bs.length + accU us (i + 1) by unfold wrap64; omega]
      · simp only [spec_l6Used.l1]; rw [if_neg (by omega)]; rfl
    rwa [accU, Int.add_zero] at this
theorem impl_used_ok (q : Int) (bs : List IB) (us : List IU) (nx : Int) (hs : Small bs us) : Ev (fun k => impl_used.f k q bs us nx) (usedM bs us) := by
  unfold impl_used.f
  obtain ⟨h1, h2, h3, h4⟩ := hs
  refine fold_loop (n := bs.length) (F := fun k v i => impl_used.l0 k v bs (bs.length : Int) i q bs us nx) (st := fun i => accB bs i) (fun i hi hr => ?_) ?_
  · refine Ev.step (fun k => ?_) hr
    have hb := accB_bd bs h3 i (by omega)
    have hb2 := accB_bd bs h3 (i + 1) (by omega)
    simp only [impl_used.l0]
    rw [if_pos (by omega), if_pos (by omega), if_pos (by omega), wrap_nat i (by omega), ← accB]
    rw [show wrap64 (accB bs (i + 1)) = accB bs (i + 1) by unfold wrap64; omega]
  · refine Ev.step (f := fun k => impl_used.l1 k (accB bs bs.length) us (us.length : Int) 0) (fun k => by simp only [impl_used.l0]; rw [if_neg (by omega)]) ?_
    have hb := accB_bd bs h3 bs.length (Nat.le_refl _)
    have : Ev (fun k => impl_used.l1 k (accB bs bs.length + accU us 0) us (us.length : Int) 0) (usedM bs us) := by
      refine fold_loop (n := us.length) (F := fun k v i => impl_used.l1 k v us (us.length : Int) i) (st := fun i => accB bs bs.length + accU us i) (fun i hi hr => ?_) (Ev.step (f := fun _ => some (usedM bs us)) (fun k => ?_) (Ev.now _))
      · refine Ev.step (fun k => ?_) hr
        have hu := accU_bd us h4 (i + 1) (by omega)
        simp only [impl_used.l1]
        rw [if_pos (by omega), if_pos (by omega), if_pos (by omega), wrap_nat i (by omega), Int.add_assoc, ← accU]
        rw [show wrap64 (accB bs bs.length + accU us (i + 1)) = accB bs bs.length + accU us (i + 1) by unfold wrap64; omega]
      · simp only [impl_used.l1]; rw [if_neg (by omega)]; rfl
    rwa [accU, Int.add_zero] at this
theorem spec_storeOk (q : Int) (bs : List IB) (us : List IU) (nx : Int) (hs : Small bs us) : Ev (fun k => spec_StoreOk.f k q bs us nx) (storeM q bs us nx) := by
  have hs' := hs
  obtain ⟨h1, h2, h3, h4⟩ := hs
  have lu : Ev (fun k => spec_StoreOk.l1 k 0 q bs us nx) ((List.range us.length).all (upM us nx)) := by
    refine all_loop (F := fun k i => spec_StoreOk.l1 k i q bs us nx) (fun i hi r hr => ?_) (Ev.step (f := fun _ => some true) (fun k => ?_) (Ev.now _))
    · have hj : ∀ b : Bool, Ev (fun k => spec_StoreOk.j4 k (i : Int) b q bs us nx) (!b && r) := by
        intro b
        refine Ev.step (f := fun k => if b = true then some false else spec_StoreOk.l1 k ((i + 1 : Nat) : Int) q bs us nx) (fun k => by simp only [spec_StoreOk.j4]; rw [wrap_nat i (by omega)]) ?_
        cases b with
        | true => exact Ev.now _
        | false => exact hr
      have hjt := hj true
      have hjf := hj false
      simp only [Bool.not_true, Bool.not_false, Bool.false_and, Bool.true_and] at hjt hjf
      unfold upM
      by_cases g1 : 1 ≤ (rd_T68 us (i : Int)).f0 ∧ (rd_T68 us (i : Int)).f0 ≤ wrap64 (nx - 1)
      · rw [show decide (1 ≤ (rd_T68 us (i : Int)).f0 ∧ (rd_T68 us (i : Int)).f0 ≤ wrap64 (nx - 1)) = true from decide_eq_true g1, Bool.true_and]
        by_cases h0 : i = 0
        · rw [show decide (i = 0) = true from decide_eq_true h0, Bool.true_or, Bool.true_and]
          refine Ev.step (fun k => ?_) hjf
          simp only [spec_StoreOk.l1]
          rw [if_pos (by omega), if_pos (by omega), l1In_eq, bindS, if_pos (decide_eq_true g1), if_neg (by omega)]
        · rw [show decide (i = 0) = false from decide_eq_false h0, Bool.false_or, show decide (¬ (rd_T68 us (i : Int)).f0 ≤ (rd_T68 us ((i - 1 : Nat) : Int)).f0) = !decide ((rd_T68 us (i : Int)).f0 ≤ (rd_T68 us ((i - 1 : Nat) : Int)).f0) from by by_cases h : (rd_T68 us (i : Int)).f0 ≤ (rd_T68 us ((i - 1 : Nat) : Int)).f0 <;> simp [h]]
          refine Ev.step (fun k => ?_) (hj (decide ((rd_T68 us (i : Int)).f0 ≤ (rd_T68 us ((i - 1 : Nat) : Int)).f0)))
          simp only [spec_StoreOk.l1]
          rw [if_pos (by omega), if_pos (by omega), l1In_eq, bindS, if_pos (decide_eq_true g1), if_pos (by omega), wrap_pred i (by omega) (by omega), if_pos (by omega), if_pos (by omega)]
      · rw [show decide (1 ≤ (rd_T68 us (i : Int)).f0 ∧ (rd_T68 us (i : Int)).f0 ≤ wrap64 (nx - 1)) = false from decide_eq_false g1, Bool.false_and, Bool.false_and]
        refine Ev.step (fun k => ?_) hjt
        simp only [spec_StoreOk.l1]
        rw [if_pos (by omega), if_pos (by omega), l1In_eq, bindS, if_neg (by simp only [decide_eq_true_eq]; exact g1)]
    · simp only [spec_StoreOk.l1]; rw [if_neg (by omega)]
  have lb : Ev (fun k => spec_StoreOk.l0 k 0 q bs us nx) ((List.range bs.length).all (blM bs) && (List.range us.length).all (upM us nx)) := by
    refine all_then (F := fun k i => spec_StoreOk.l0 k i q bs us nx) (fun i hi r hr => ?_) (Ev.step (fun k => ?_) lu)
    · have hd := spec_digest (rd_T66 bs (i : Int)).f1 (by rw [rdIB bs i hi]; have := (h3 _ (List.getElem_mem hi)).2; omega)
      have hj : ∀ b : Bool, Ev (fun k => spec_StoreOk.j2 k (i : Int) b q bs us nx) (!b && r) := by
        intro b
        refine Ev.step (f := fun k => if b = true then some false else spec_StoreOk.l0 k ((i + 1 : Nat) : Int) q bs us nx) (fun k => by simp only [spec_StoreOk.j2]; rw [wrap_nat i (by omega)]) ?_
        cases b with
        | true => exact Ev.now _
        | false => exact hr
      have hjt := hj true
      have hjf := hj false
      simp only [Bool.not_true, Bool.not_false, Bool.false_and, Bool.true_and] at hjt hjf
      unfold blM
      generalize digestM (rd_T66 bs (i : Int)).f1 = D at hd
      refine Ev.step (f := fun k => (spec_Digest.f k (rd_T66 bs (i : Int)).f1).bind fun t => if (rd_T66 bs (i : Int)).f0.toList = t.toList then (if (i : Int) > 0 then (if 0 ≤ wrap64 ((i : Int) - 1) then (if wrap64 ((i : Int) - 1) < (bs.length : Int) then spec_StoreOk.j2 k (i : Int) (!(Op.bytesLess ((rd_T66 bs (wrap64 ((i : Int) - 1))).f0.toList) ((rd_T66 bs (i : Int)).f0.toList))) q bs us nx else none) else none) else spec_StoreOk.j2 k (i : Int) false q bs us nx) else spec_StoreOk.j2 k (i : Int) true q bs us nx) (fun k => ?_) (Ev.bind hd ?_)
      · simp only [spec_StoreOk.l0]; rw [if_pos (by omega), if_pos (by omega)]
      · by_cases g1 : (rd_T66 bs (i : Int)).f0.toList = D.toList
        · simp only [if_pos g1, decide_eq_true g1, Bool.true_and]
          by_cases h0 : i = 0
          · simp only [if_neg (show ¬ (i : Int) > 0 by omega), decide_eq_true h0, Bool.true_or, Bool.true_and]; exact hjf
          · simp only [if_pos (show (i : Int) > 0 by omega), wrap_pred i (by omega) (by omega), if_pos (show (0 : Int) ≤ ((i - 1 : Nat) : Int) by omega), if_pos (show ((i - 1 : Nat) : Int) < (bs.length : Int) by omega), decide_eq_false h0, Bool.false_or]
            cases Op.bytesLess ((rd_T66 bs ((i - 1 : Nat) : Int)).f0.toList) ((rd_T66 bs (i : Int)).f0.toList) with
            | true => simp only [Bool.not_true, Bool.true_and]; exact hjf
            | false => simp only [Bool.not_false, Bool.false_and]; exact hjt
        · simp only [if_neg g1, decide_eq_false g1, Bool.false_and]; exact hjt
    · simp only [spec_StoreOk.l0]; rw [if_neg (by omega)]
  have j0 : ∀ b : Bool, Ev (fun k => spec_StoreOk.j0 k b q bs us nx) (!b && ((List.range bs.length).all (blM bs) && (List.range us.length).all (upM us nx))) := by
    intro b
    refine Ev.step (f := fun k => if b = true then some false else spec_StoreOk.l0 k 0 q bs us nx) (fun k => by simp only [spec_StoreOk.j0]) ?_
    cases b with
    | true => exact Ev.now _
    | false => exact lb
  have jt := j0 true
  simp only [Bool.not_true, Bool.false_and] at jt
  unfold spec_StoreOk.f storeM
  simp only [l1In_eq, Option.bind_some]
  by_cases g1 : 0 ≤ q ∧ q ≤ 200000
  · simp only [decide_eq_true g1, if_true, Bool.true_and]
    by_cases g2 : (bs.length : Int) > 60
    · simp only [if_pos g2, decide_eq_false (show ¬ ¬ (bs.length : Int) > 60 from fun h => h g2), Bool.false_and]; exact jt
    simp only [if_neg g2, decide_eq_true g2, Bool.true_and]
    by_cases g3 : (us.length : Int) > 10
    · simp only [if_pos g3, decide_eq_false (show ¬ ¬ (us.length : Int) > 10 from fun h => h g3), Bool.false_and]; exact jt
    simp only [if_neg g3, decide_eq_true g3, Bool.true_and]
    by_cases g4 : 1 ≤ nx ∧ nx ≤ 1000000000000
    · simp only [decide_eq_true g4, if_true, Bool.true_and]
      refine Ev.bind (spec_used q bs us nx hs') ?_
      have := j0 (decide (usedM bs us > q))
      rwa [show (!decide (usedM bs us > q)) = decide (¬ usedM bs us > q) by by_cases h : usedM bs us > q <;> simp [h]] at this
    · simp only [decide_eq_false g4, Bool.false_eq_true, if_false, Bool.false_and]; exact jt
  · simp only [decide_eq_false g1, Bool.false_eq_true, if_false, Bool.false_and]; exact jt
theorem impl_storeOk (q : Int) (bs : List IB) (us : List IU) (nx : Int) (hs : Small bs us) : Ev (fun k => impl_isStore.f k q bs us nx) (storeM q bs us nx) := by
  have hs' := hs
  obtain ⟨h1, h2, h3, h4⟩ := hs
  have lb : Ev (fun k => impl_isStore.l1 k bs (bs.length : Int) 0 q bs us nx) ((List.range bs.length).all (blM bs)) := by
    refine all_loop (F := fun k i => impl_isStore.l1 k bs (bs.length : Int) i q bs us nx) (fun i hi r hr => ?_) (Ev.step (f := fun _ => some true) (fun k => ?_) (Ev.now _))
    · have hd : Ev (fun k => impl_digestOf.f k (rd_T66 bs (i : Int)).f1) (digestM (rd_T66 bs (i : Int)).f1) := by
        unfold impl_digestOf.f
        exact Ev.bind (impl_digest_ok _ (by rw [rdIB bs i hi]; have := (h3 _ (List.getElem_mem hi)).2; omega)) (Ev.now _)
      have hj : ∀ b : Bool, Ev (fun k => impl_isStore.j4 k bs (bs.length : Int) (i : Int) b q bs us nx) (!b && r) := by
        intro b
        refine Ev.step (f := fun k => if b = true then some false else impl_isStore.l1 k bs (bs.length : Int) ((i + 1 : Nat) : Int) q bs us nx) (fun k => by simp only [impl_isStore.j4]; rw [wrap_nat i (by omega)]) ?_
        cases b with
        | true => exact Ev.now _
        | false => exact hr
      have hjt := hj true
      simp only [Bool.not_true, Bool.false_and] at hjt
      unfold blM
      generalize digestM (rd_T66 bs (i : Int)).f1 = D at hd
      have tail : Ev (fun k => (impl_digestOf.f k (rd_T66 bs (i : Int)).f1).bind fun t => impl_isStore.j4 k bs (bs.length : Int) (i : Int) ((rd_T66 bs (i : Int)).f0.toList != t.toList) q bs us nx) (decide ((rd_T66 bs (i : Int)).f0.toList = D.toList) && r) := by
        refine Ev.bind hd ?_
        have h := hj ((rd_T66 bs (i : Int)).f0.toList != D.toList)
        rwa [show (!((rd_T66 bs (i : Int)).f0.toList != D.toList)) = decide ((rd_T66 bs (i : Int)).f0.toList = D.toList) from by by_cases h : (rd_T66 bs (i : Int)).f0.toList = D.toList <;> simp [h]] at h
      by_cases h0 : i = 0
      · rw [show decide (i = 0) = true from decide_eq_true h0, Bool.true_or, Bool.and_true]
        refine Ev.step (fun k => ?_) tail
        simp only [impl_isStore.l1]; rw [if_pos (by omega), if_pos (by omega), if_pos (by omega), if_neg (by omega)]
      · rw [show decide (i = 0) = false from decide_eq_false h0, Bool.false_or, Bool.and_comm (decide _) (Op.bytesLess _ _), Bool.and_assoc]
        cases hb : Op.bytesLess ((rd_T66 bs ((i - 1 : Nat) : Int)).f0.toList) ((rd_T66 bs (i : Int)).f0.toList) with
        | true =>
          rw [Bool.true_and]
          refine Ev.step (fun k => ?_) tail
          simp only [impl_isStore.l1]; rw [if_pos (by omega), if_pos (by omega), if_pos (by omega), if_pos (by omega), wrap_pred i (by omega) (by omega), if_pos (by omega), if_pos (by omega), hb, if_pos rfl]
        | false =>
          rw [Bool.false_and]
          refine Ev.step (fun k => ?_) hjt
          simp only [impl_isStore.l1]; rw [if_pos (by omega), if_pos (by omega), if_pos (by omega), if_pos (by omega), wrap_pred i (by omega) (by omega), if_pos (by omega), if_pos (by omega), hb, if_neg (by decide)]
    · simp only [impl_isStore.l1]; rw [if_neg (by omega)]
  have lu : Ev (fun k => impl_isStore.l0 k us (us.length : Int) 0 q bs us nx) ((List.range us.length).all (upM us nx) && (List.range bs.length).all (blM bs)) := by
    refine all_then (F := fun k i => impl_isStore.l0 k us (us.length : Int) i q bs us nx) (fun i hi r hr => ?_) (Ev.step (fun k => ?_) lb)
    · have hj : ∀ b : Bool, Ev (fun k => impl_isStore.j2 k us (us.length : Int) (i : Int) b q bs us nx) (!b && r) := by
        intro b
        refine Ev.step (f := fun k => if b = true then some false else impl_isStore.l0 k us (us.length : Int) ((i + 1 : Nat) : Int) q bs us nx) (fun k => by simp only [impl_isStore.j2]; rw [wrap_nat i (by omega)]) ?_
        cases b with
        | true => exact Ev.now _
        | false => exact hr
      have hjt := hj true
      have hjf := hj false
      simp only [Bool.not_true, Bool.not_false, Bool.false_and, Bool.true_and] at hjt hjf
      unfold upM
      by_cases g1 : 1 ≤ (rd_T68 us (i : Int)).f0 ∧ (rd_T68 us (i : Int)).f0 ≤ wrap64 (nx - 1)
      · rw [show decide (1 ≤ (rd_T68 us (i : Int)).f0 ∧ (rd_T68 us (i : Int)).f0 ≤ wrap64 (nx - 1)) = true from decide_eq_true g1, Bool.true_and]
        by_cases h0 : i = 0
        · rw [show decide (i = 0) = true from decide_eq_true h0, Bool.true_or, Bool.true_and]
          refine Ev.step (fun k => ?_) hjf
          simp only [impl_isStore.l0]
          rw [if_pos (by omega), if_pos (by omega), if_pos (by omega), in_eq, bindS, if_pos (decide_eq_true g1), if_neg (by omega)]
        · rw [show decide (i = 0) = false from decide_eq_false h0, Bool.false_or, show decide (¬ (rd_T68 us (i : Int)).f0 ≤ (rd_T68 us ((i - 1 : Nat) : Int)).f0) = !decide ((rd_T68 us (i : Int)).f0 ≤ (rd_T68 us ((i - 1 : Nat) : Int)).f0) from by by_cases h : (rd_T68 us (i : Int)).f0 ≤ (rd_T68 us ((i - 1 : Nat) : Int)).f0 <;> simp [h]]
          refine Ev.step (fun k => ?_) (hj (decide ((rd_T68 us (i : Int)).f0 ≤ (rd_T68 us ((i - 1 : Nat) : Int)).f0)))
          simp only [impl_isStore.l0]
          rw [if_pos (by omega), if_pos (by omega), if_pos (by omega), in_eq, bindS, if_pos (decide_eq_true g1), if_pos (by omega), wrap_pred i (by omega) (by omega), if_pos (by omega), if_pos (by omega)]
      · rw [show decide (1 ≤ (rd_T68 us (i : Int)).f0 ∧ (rd_T68 us (i : Int)).f0 ≤ wrap64 (nx - 1)) = false from decide_eq_false g1, Bool.false_and, Bool.false_and]
        refine Ev.step (fun k => ?_) hjt
        simp only [impl_isStore.l0]
        rw [if_pos (by omega), if_pos (by omega), if_pos (by omega), in_eq, bindS, if_neg (by simp only [decide_eq_true_eq]; exact g1)]
    · simp only [impl_isStore.l0]; rw [if_neg (by omega)]
  rw [Bool.and_comm] at lu
  have j0 : ∀ b : Bool, Ev (fun k => impl_isStore.j0 k b q bs us nx) (!b && ((List.range bs.length).all (blM bs) && (List.range us.length).all (upM us nx))) := by
    intro b
    refine Ev.step (f := fun k => if b = true then some false else impl_isStore.l0 k us (us.length : Int) 0 q bs us nx) (fun k => by simp only [impl_isStore.j0]) ?_
    cases b with
    | true => exact Ev.now _
    | false => exact lu
  have jt := j0 true
  simp only [Bool.not_true, Bool.false_and] at jt
  unfold impl_isStore.f storeM
  simp only [in_eq, Option.bind_some]
  by_cases g1 : 0 ≤ q ∧ q ≤ 200000
  · simp only [decide_eq_true g1, if_true, Bool.true_and]
    by_cases g2 : (bs.length : Int) > 60
    · simp only [if_pos g2, decide_eq_false (show ¬ ¬ (bs.length : Int) > 60 from fun h => h g2), Bool.false_and]; exact jt
    simp only [if_neg g2, decide_eq_true g2, Bool.true_and]
    by_cases g3 : (us.length : Int) > 10
    · simp only [if_pos g3, decide_eq_false (show ¬ ¬ (us.length : Int) > 10 from fun h => h g3), Bool.false_and]; exact jt
    simp only [if_neg g3, decide_eq_true g3, Bool.true_and]
    by_cases g4 : 1 ≤ nx ∧ nx ≤ 1000000000000
    · simp only [decide_eq_true g4, if_true, Bool.true_and]
      refine Ev.bind (impl_used_ok q bs us nx hs') ?_
      have := j0 (decide (usedM bs us > q))
      rwa [show (!decide (usedM bs us > q)) = decide (¬ usedM bs us > q) by by_cases h : usedM bs us > q <;> simp [h]] at this
    · simp only [decide_eq_false g4, Bool.false_eq_true, if_false, Bool.false_and]; exact jt
  · simp only [decide_eq_false g1, Bool.false_eq_true, if_false, Bool.false_and]; exact jt
theorem markText_loop (n : Nat) : ∀ (v : Int) (acc : ByteArray), v.toNat ≤ n → 0 ≤ v → v ≤ 4611686018427387904 → acc.size + v.toNat ≤ 4611686018427387905 → ∃ t, Ev (fun k => laws_markText.l0 k v acc) t := by
  induction n with
  | zero =>
    intro v acc hn h0 h1 hs
    refine ⟨(⟨#[109]⟩ : ByteArray) ++ acc, Ev.step (f := fun _ => some ((⟨#[109]⟩ : ByteArray) ++ acc)) (fun k => ?_) (Ev.now _)⟩
    simp only [laws_markText.l0]; rw [if_neg (by omega), if_pos (by omega)]
  | succ n ih =>
    intro v acc hn h0 h1 hs
    by_cases hv : v > 0
    · have e1 : wrap64 (Int.tdiv v 10) = v / 10 := by rw [Int.tdiv_eq_ediv_of_nonneg h0]; unfold wrap64; omega
      have sz : (strOfNums [wrap64 (48 + Int.tmod v 10) % 256]).size = 1 := by rw [size_strOfNums]; rfl
      have sz2 : (strOfNums [wrap64 (48 + Int.tmod v 10) % 256] ++ acc).size = 1 + acc.size := by rw [ByteArray.size_append, sz]
      obtain ⟨t, ht⟩ := ih (v / 10) (strOfNums [wrap64 (48 + Int.tmod v 10) % 256] ++ acc) (by omega) (by omega) (by omega) (by rw [sz2]; omega)
      refine ⟨t, Ev.step (f := fun k => laws_markText.l0 k (v / 10) (strOfNums [wrap64 (48 + Int.tmod v 10) % 256] ++ acc)) (fun k => ?_) ht⟩
      simp only [laws_markText.l0, Option.bind_some]; rw [if_pos hv, if_pos (by rw [sz]; omega), e1]
    · refine ⟨(⟨#[109]⟩ : ByteArray) ++ acc, Ev.step (f := fun _ => some ((⟨#[109]⟩ : ByteArray) ++ acc)) (fun k => ?_) (Ev.now _)⟩
      simp only [laws_markText.l0]; rw [if_neg hv, if_pos (by omega)]
noncomputable def markT (v : Int) : ByteArray := open Classical in if h : ∃ t, Ev (fun k => laws_markText.f k v) t then Classical.choose h else ⟨#[]⟩
theorem markT_ok (v : Int) (h0 : 0 < v) (h1 : v ≤ 4611686018427387904) : Ev (fun k => laws_markText.f k v) (markT v) := by
  have h : ∃ t, Ev (fun k => laws_markText.f k v) t := by
    obtain ⟨t, ht⟩ := markText_loop v.toNat v ⟨#[]⟩ (Nat.le_refl _) (by omega) h1 (by show 0 + v.toNat ≤ _; omega)
    refine ⟨t, ?_⟩
    unfold laws_markText.f
    simp only [if_neg (show ¬ v ≤ 0 by omega)]; exact ht
  unfold markT
  rw [dif_pos h]; exact Classical.choose_spec h
noncomputable def updB (v : Int) (x : IB) : IB := ⟨markT v, markT (v + 1)⟩
noncomputable def updU (v : Int) (x : IU) : IU := ⟨v, markT (v + 1)⟩
theorem markB_ok (xs : List IB) (hl : xs.length ≤ 2097152) (m : Int) (h0 : 1 ≤ m) (h1 : m ≤ 1000000000) : ∃ ys, Ev (fun k => laws_markBlobS.f k xs m) (m + 2 * (xs.length : Int), ys) ∧ ys.length = xs.length ∧ ∀ (i : Nat) (h : i < ys.length) (h' : i < xs.length), ys[i] = updB (m + 2 * i) xs[i] := by
  unfold laws_markBlobS.f
  exact mark_loop (c := 2) (upd := updB) (F := fun k acc v i => laws_markBlobS.l0 k acc v i) xs m
    (fun i acc h ha r hr => by
      have e1 : wrap64 (m + 2 * (i : Int) + 1) = m + 2 * (i : Int) + 1 := by unfold wrap64; omega
      have e2 : wrap64 (m + 2 * (i : Int) + 1 + 1) = m + 2 * ((i + 1 : Nat) : Int) := by unfold wrap64; omega
      have hi : (i : Int) < (acc.length : Int) := by omega
      have g : ∀ x : IB, rd_T66 (acc.set i x) (i : Int) = x := fun x => by
        rw [rdIB _ i (by rw [List.length_set]; exact h), List.getElem_set_self]
      refine Ev.step (f := fun k => (laws_markText.f k (m + 2 * (i : Int))).bind fun t => (laws_markText.f k (m + 2 * (i : Int) + 1)).bind fun u => laws_markBlobS.l0 k (acc.set i ⟨t, u⟩) (m + 2 * ((i + 1 : Nat) : Int)) ((i + 1 : Nat) : Int)) (fun k => ?_) (Ev.bind (markT_ok _ (by omega) (by omega)) (Ev.bind (markT_ok _ (by omega) (by omega)) hr))
      simp only [laws_markBlobS.l0]; rw [if_pos hi]
      congr 1
      funext t
      rw [if_pos (show (0 : Int) ≤ (i : Int) by omega), Option.bind_some, Int.toNat_natCast, e1, e2, wrap_nat i (by omega)]
      congr 1
      funext u
      rw [g, List.set_set])
    (fun acc ha => Ev.step (f := fun _ => some (m + 2 * (xs.length : Int), acc)) (fun k => by simp only [laws_markBlobS.l0]; rw [if_neg (by omega)]) (Ev.now _))
theorem markU_ok (xs : List IU) (hl : xs.length ≤ 2097152) (m : Int) (h0 : 1 ≤ m) (h1 : m ≤ 1000000000) : ∃ ys, Ev (fun k => laws_markUploadS.f k xs m) (m + 2 * (xs.length : Int), ys) ∧ ys.length = xs.length ∧ ∀ (i : Nat) (h : i < ys.length) (h' : i < xs.length), ys[i] = updU (m + 2 * i) xs[i] := by
  unfold laws_markUploadS.f
  exact mark_loop (c := 2) (upd := updU) (F := fun k acc v i => laws_markUploadS.l0 k acc v i) xs m
    (fun i acc h ha r hr => by
      have e1 : wrap64 (m + 2 * (i : Int) + 1) = m + 2 * (i : Int) + 1 := by unfold wrap64; omega
      have e2 : wrap64 (m + 2 * (i : Int) + 1 + 1) = m + 2 * ((i + 1 : Nat) : Int) := by unfold wrap64; omega
      have hi : (i : Int) < (acc.length : Int) := by omega
      have g : ∀ x : IU, rd_T68 (acc.set i x) (i : Int) = x := fun x => by
        rw [rdIU _ i (by rw [List.length_set]; exact h), List.getElem_set_self]
      refine Ev.step (f := fun k => (laws_markText.f k (m + 2 * (i : Int) + 1)).bind fun u => laws_markUploadS.l0 k (acc.set i ⟨m + 2 * (i : Int), u⟩) (m + 2 * ((i + 1 : Nat) : Int)) ((i + 1 : Nat) : Int)) (fun k => ?_) (Ev.bind (markT_ok _ (by omega) (by omega)) hr)
      simp only [laws_markUploadS.l0]; rw [if_pos hi, if_pos (show (0 : Int) ≤ (i : Int) by omega), Option.bind_some, Int.toNat_natCast, e1, e2, wrap_nat i (by omega)]
      congr 1
      funext u
      rw [g, List.set_set])
    (fun acc ha => Ev.step (f := fun _ => some (m + 2 * (xs.length : Int), acc)) (fun k => by simp only [laws_markUploadS.l0]; rw [if_neg (by omega)]) (Ev.now _))
theorem markStore_ok (q : Int) (bs : List IB) (us : List IU) (nx : Int) (hb : bs.length ≤ 2097152) (hu : us.length ≤ 2097152) :
    ∃ ys zs, Ev (fun k => laws_markStore.f k q bs us nx 1) (1 + 2 * (bs.length : Int) + 2 * (us.length : Int), ys, zs) ∧ ys.length = bs.length ∧ zs.length = us.length ∧ (∀ (i : Nat) (h : i < ys.length) (h' : i < bs.length), ys[i] = updB (1 + 2 * i) bs[i]) ∧ (∀ (i : Nat) (h : i < zs.length) (h' : i < us.length), zs[i] = updU (1 + 2 * (bs.length : Int) + 2 * i) us[i]) := by
  obtain ⟨ys, h1, h2, h3⟩ := markB_ok bs hb 1 (by omega) (by omega)
  obtain ⟨zs, g1, g2, g3⟩ := markU_ok us hu (1 + 2 * (bs.length : Int)) (by omega) (by omega)
  exact ⟨ys, zs, by unfold laws_markStore.f; exact Ev.bind h1 (Ev.bind g1 (Ev.now _)), h2, g2, h3, g3⟩
theorem heldB_ok (ys : List IB) (hl : ys.length ≤ 2097152) (m : Int) (h0 : 1 ≤ m) (h1 : m ≤ 1000000000) (xs : List IB) (hxl : ys.length = xs.length) (hy : ∀ (i : Nat) (h : i < ys.length) (h' : i < xs.length), ys[i] = updB (m + 2 * i) xs[i]) : Ev (fun k => laws_heldBlobS.f k ys m) (m + 2 * (ys.length : Int)) := by
  unfold laws_heldBlobS.f
  have := fold_loop (r := m + 2 * (ys.length : Int)) (n := ys.length) (F := fun k v i => laws_heldBlobS.l0 k ys v i) (st := fun i => m + 2 * (i : Int)) (fun i hi hr => ?_) (Ev.step (f := fun _ => some (m + 2 * (ys.length : Int))) (fun k => ?_) (Ev.now _))
  · rw [show m + 2 * ((0 : Nat) : Int) = m by omega] at this; exact this
  · have e1 : wrap64 (m + 2 * (i : Int) + 1) = m + 2 * (i : Int) + 1 := by unfold wrap64; omega
    have e2 : wrap64 (m + 2 * (i : Int) + 1 + 1) = m + 2 * ((i + 1 : Nat) : Int) := by unfold wrap64; omega
    refine Ev.step (f := fun k => (laws_markText.f k (m + 2 * (i : Int))).bind fun t => if (markT (m + 2 * (i : Int))).toList = t.toList then ((laws_markText.f k (m + 2 * (i : Int) + 1)).bind fun u => if (markT (m + 2 * (i : Int) + 1)).toList = u.toList then laws_heldBlobS.l0 k ys (m + 2 * ((i + 1 : Nat) : Int)) ((i + 1 : Nat) : Int) else some (-1)) else some (-1)) (fun k => ?_) (Ev.bind (markT_ok _ (by omega) (by omega)) ?_)
    · simp only [laws_heldBlobS.l0]; rw [if_pos (by omega), if_pos (by omega), rdIB ys i hi, hy i hi (by omega), e1, e2, wrap_nat i (by omega)]; rfl
    · simp only [if_true]
      refine Ev.bind (markT_ok _ (by omega) (by omega)) ?_
      simp only [if_true]; exact hr
  · simp only [laws_heldBlobS.l0]; rw [if_neg (by omega)]
theorem heldU_ok (ys : List IU) (hl : ys.length ≤ 2097152) (m : Int) (h0 : 1 ≤ m) (h1 : m ≤ 1000000000) (xs : List IU) (hxl : ys.length = xs.length) (hy : ∀ (i : Nat) (h : i < ys.length) (h' : i < xs.length), ys[i] = updU (m + 2 * i) xs[i]) : Ev (fun k => laws_heldUploadS.f k ys m) (m + 2 * (ys.length : Int)) := by
  unfold laws_heldUploadS.f
  have := fold_loop (r := m + 2 * (ys.length : Int)) (n := ys.length) (F := fun k v i => laws_heldUploadS.l0 k ys v i) (st := fun i => m + 2 * (i : Int)) (fun i hi hr => ?_) (Ev.step (f := fun _ => some (m + 2 * (ys.length : Int))) (fun k => ?_) (Ev.now _))
  · rw [show m + 2 * ((0 : Nat) : Int) = m by omega] at this; exact this
  · have e1 : wrap64 (m + 2 * (i : Int) + 1) = m + 2 * (i : Int) + 1 := by unfold wrap64; omega
    have e2 : wrap64 (m + 2 * (i : Int) + 1 + 1) = m + 2 * ((i + 1 : Nat) : Int) := by unfold wrap64; omega
    refine Ev.step (f := fun k => (laws_markText.f k (m + 2 * (i : Int) + 1)).bind fun u => if (markT (m + 2 * (i : Int) + 1)).toList = u.toList then laws_heldUploadS.l0 k ys (m + 2 * ((i + 1 : Nat) : Int)) ((i + 1 : Nat) : Int) else some (-1)) (fun k => ?_) (Ev.bind (markT_ok _ (by omega) (by omega)) ?_)
    · simp only [laws_heldUploadS.l0]; rw [if_pos (by omega), if_pos (by omega), rdIU ys i hi, hy i hi (by omega), e1, e2, wrap_nat i (by omega)]
      simp only [updU, if_true]
      rfl
    · simp only [if_true]; exact hr
  · simp only [laws_heldUploadS.l0]; rw [if_neg (by omega)]
theorem heldStore_ok (q : Int) (bs ys : List IB) (us zs : List IU) (nx : Int) (hb : bs.length ≤ 2097152) (hu : us.length ≤ 2097152) (h1 : ys.length = bs.length) (h2 : zs.length = us.length) (h3 : ∀ (i : Nat) (h : i < ys.length) (h' : i < bs.length), ys[i] = updB (1 + 2 * i) bs[i]) (h4 : ∀ (i : Nat) (h : i < zs.length) (h' : i < us.length), zs[i] = updU (1 + 2 * (bs.length : Int) + 2 * i) us[i]) :
    Ev (fun k => laws_heldStore.f k q ys zs nx 1) (1 + 2 * (bs.length : Int) + 2 * (us.length : Int)) := by
  unfold laws_heldStore.f
  have e1 := heldB_ok ys (by omega) 1 (by omega) (by omega) bs h1 h3
  have e2 := heldU_ok zs (by omega) (1 + 2 * (bs.length : Int)) (by omega) (by omega) us h2 h4
  rw [h1] at e1
  rw [h2] at e2
  refine Ev.bind e1 ?_
  simp only [if_neg (show ¬ 1 + 2 * (bs.length : Int) < 0 by omega)]
  refine Ev.bind e2 ?_
  simp only [if_neg (show ¬ 1 + 2 * (bs.length : Int) + 2 * (us.length : Int) < 0 by omega)]
  exact Ev.now _
theorem spec_copy (q : Int) (bs : List IB) (us : List IU) (nx : Int) (hb : bs.length ≤ 2097152) (hu : us.length ≤ 2097152) : spec_l6Copy.f q bs us nx = some (q, bs, us, nx) := by
  unfold spec_l6Copy.f
  simp only [Option.bind_some, List.length_nil, List.nil_append]
  rw [if_pos (by omega), if_pos (by omega)]
theorem impl_copy (q : Int) (bs : List IB) (us : List IU) (nx : Int) (hb : bs.length ≤ 2097152) (hu : us.length ≤ 2097152) : impl_copyStore.f q bs us nx = some (q, bs, us, nx) := by
  unfold impl_copyStore.f
  simp only [Option.bind_some, List.length_nil, List.nil_append]
  rw [if_pos (by omega), if_pos (by omega)]
def upFrom (l : List IU) (x : Int) : Nat → Nat → Int
  | 0, _ => -1
  | d + 1, i => if (rd_T68 l (i : Int)).f0 = x then (i : Int) else upFrom l x d (i + 1)
def upAt (us : List IU) (id : Int) : Int := upFrom us id us.length 0
theorem at_lt (us : List IU) (id : Int) : ∀ d i : Nat, i + d = us.length → upFrom us id d i = -1 ∨ (0 ≤ upFrom us id d i ∧ upFrom us id d i < (us.length : Int)) := by
  intro d
  induction d with
  | zero => intro i hi; exact .inl rfl
  | succ d ih =>
    intro i hi
    unfold upFrom
    split
    · exact .inr ⟨by omega, by omega⟩
    · exact ih (i + 1) (by omega)
theorem spec_at (q : Int) (bs : List IB) (us : List IU) (nx : Int) (id : Int) (hu : us.length ≤ 1048576) : Ev (fun k => spec_l6Upload.f k q bs us nx id) (upAt us id) := by
  unfold spec_l6Upload.f
  have key : ∀ d i : Nat, i + d = us.length → Ev (fun k => spec_l6Upload.l0 k id (i : Int) q bs us nx) (upFrom us id d i) := by
    intro d
    induction d with
    | zero =>
      intro i hi
      refine Ev.step (f := fun _ => some (-1)) (fun k => ?_) (Ev.now _)
      simp only [spec_l6Upload.l0]; rw [if_neg (by omega)]
    | succ d ih =>
      intro i hi
      unfold upFrom
      by_cases h : (rd_T68 us (i : Int)).f0 = id
      · rw [if_pos h]
        refine Ev.step (f := fun _ => some (i : Int)) (fun k => ?_) (Ev.now _)
        simp only [spec_l6Upload.l0]; rw [if_pos (by omega), if_pos (by omega), if_pos h]
      · rw [if_neg h]
        refine Ev.step (fun k => ?_) (ih (i + 1) (by omega))
        simp only [spec_l6Upload.l0]; rw [if_pos (by omega), if_pos (by omega), if_neg h, wrap_nat i (by omega)]
  exact key us.length 0 (by omega)
theorem upAt_lt (us : List IU) (id : Int) : upAt us id = -1 ∨ (0 ≤ upAt us id ∧ upAt us id < (us.length : Int)) := at_lt us id us.length 0 (by omega)
theorem rdU_small (us : List IU) (hs : ∀ x ∈ us, x.f1.size ≤ 1048576) (t : Int) (h0 : 0 ≤ t) (h1 : t < (us.length : Int)) : (rd_T68 us t).f1.size ≤ 1048576 := by
  obtain ⟨i, rfl⟩ := Int.eq_ofNat_of_zero_le h0
  rw [rdIU us i (by omega)]
  exact hs _ (List.getElem_mem _)
def begM (q : Int) (bs : List IB) (us : List IU) (nx : Int) : Int × List IB × List IU × Int × Int × Int :=
  if (us.length : Int) = 10 then (q, bs, us, nx, 0, 2) else if nx = 1000000000000 then (q, bs, us, nx, 0, 2) else (q, bs, us ++ [(⟨nx, (⟨#[]⟩ : ByteArray)⟩ : IU)], wrap64 (nx + 1), nx, 0)
theorem spec_begin6 (q : Int) (bs : List IB) (us : List IU) (nx : Int) (hb : bs.length ≤ 2097152) (hu : us.length ≤ 2097152) : spec_l6Begin.f q bs us nx = some (begM q bs us nx) := by
  unfold spec_l6Begin.f begM
  rw [spec_copy q bs us nx hb hu, Option.bind_some]
  split
  · rfl
  · split
    · rfl
    · rw [if_pos (show us.length < 5864062014805 by omega)]
def chkM (q : Int) (bs : List IB) (us : List IU) (nx id off : Int) (data : ByteArray) : Int × List IB × List IU × Int × Int :=
  if upAt us id < 0 then (q, bs, us, nx, 3)
  else if off = ((rd_T68 us (upAt us id)).f1.size : Int) then (if wrap64 (usedM bs us + (data.size : Int)) > q then (q, bs, us, nx, 5) else (q, bs, us.set (upAt us id).toNat ⟨(rd_T68 us (upAt us id)).f0, (rd_T68 us (upAt us id)).f1 ++ data⟩, nx, 0))
  else (q, bs, us, nx, 4)
theorem spec_chunk6 (q : Int) (bs : List IB) (us : List IU) (nx id off : Int) (data : ByteArray) (hs : Small bs us) (hd : data.size ≤ 1048576) : Ev (fun k => spec_l6Chunk.f k q bs us nx id off data) (chkM q bs us nx id off data) := by
  unfold spec_l6Chunk.f chkM
  have h1 := hs.1; have h2 := hs.2.1
  rw [spec_copy q bs us nx (by omega) (by omega)]
  simp only [Option.bind_some]
  refine Ev.bind (spec_at q bs us nx id h2) ?_
  have hlt := upAt_lt us id
  generalize upAt us id = t at hlt
  by_cases g : t < 0
  · simp only [if_pos g]; exact Ev.now _
  have h0 : 0 ≤ t := by omega
  have h3 : t < (us.length : Int) := by omega
  have h4 := rdU_small us hs.2.2.2 t h0 h3
  simp only [if_neg g, if_pos h0, if_pos h3]
  by_cases g2 : off = ((rd_T68 us t).f1.size : Int)
  · simp only [if_pos g2]
    refine Ev.bind (spec_used q bs us nx hs) ?_
    by_cases g3 : wrap64 (usedM bs us + (data.size : Int)) > q
    · simp only [if_pos g3]; exact Ev.now _
    · simp only [if_neg g3, if_pos (show (rd_T68 us t).f1.size + data.size ≤ 9223372036854775807 by omega)]; exact Ev.now _
  · simp only [if_neg g2]; exact Ev.now _
theorem cmp_lt : ∀ a b : List UInt8, Lib.compareBytes a b < 0 ↔ a < b
  | [], [] => by simp [Lib.compareBytes]
  | [], _ :: _ => by simp [Lib.compareBytes]
  | _ :: _, [] => by simp [Lib.compareBytes]
  | a :: as_, b :: bs => by
    unfold Lib.compareBytes
    rw [List.cons_lt_cons_iff]
    by_cases h : a < b
    · simp [h]
    · by_cases k : b < a
      · have : a ≠ b := fun e => by subst e; exact h k
        simp [h, k, this]
      · have : a = b := UInt8.le_antisymm (UInt8.not_lt.1 k) (UInt8.not_lt.1 h)
        simp [h, k, this, cmp_lt as_ bs]
theorem cmp_eq0 : ∀ a b : List UInt8, Lib.compareBytes a b = 0 ↔ a = b
  | [], [] => by simp [Lib.compareBytes]
  | [], _ :: _ => by simp [Lib.compareBytes]
  | _ :: _, [] => by simp [Lib.compareBytes]
  | a :: as_, b :: bs => by
    unfold Lib.compareBytes
    by_cases h : a < b
    · have : a ≠ b := fun e => by subst e; exact absurd h (UInt8.lt_irrefl a)
      simp [h, this]
    · by_cases k : b < a
      · have : a ≠ b := fun e => by subst e; exact h k
        simp [h, k, this]
      · have : a = b := UInt8.le_antisymm (UInt8.not_lt.1 k) (UInt8.not_lt.1 h)
        simp [h, k, this, cmp_eq0 as_ bs]
theorem cmp_less (a b : ByteArray) : Lib.compareBytes a.data.toList b.data.toList < 0 ↔ less a b = true := by rw [cmp_lt, less_iff]
theorem cmp_same (a b : ByteArray) : Lib.compareBytes a.data.toList b.data.toList = 0 ↔ a = b := by
  rw [cmp_eq0]; exact ⟨byte_ext, fun h => by rw [h]⟩
def digs (bs : List IB) : List ByteArray := bs.map fun x => x.f0
theorem digs_len (bs : List IB) : (digs bs).length = bs.length := by simp [digs]
theorem rd_digs (bs : List IB) (i : Nat) (h : i < bs.length) : (rd_T66 bs (i : Int)).f0 = (digs bs)[i]'(by rw [digs_len]; exact h) := by rw [rdIB bs i h]; simp [digs]
theorem storeM_rising {q : Int} {bs : List IB} {us : List IU} {nx : Int} (h : storeM q bs us nx = true) : Rising (digs bs) := by
  unfold storeM at h
  simp only [Bool.and_eq_true] at h
  have hb := h.2.2.2.2.2.1
  rw [List.all_eq_true] at hb
  refine rising_of _ fun i hi => ?_
  rw [digs_len] at hi
  have := hb (i + 1) (List.mem_range.2 hi)
  unfold blM at this
  simp only [Bool.and_eq_true, Bool.or_eq_true, decide_eq_true_eq] at this
  have h2 := this.2.resolve_left (by omega)
  rw [show i + 1 - 1 = i from rfl, rd_digs bs i (by omega), rd_digs bs (i + 1) hi] at h2
  exact h2
theorem bs_place {bs : List IB} {d : ByteArray} (hr : Rising (digs bs)) : ∀ k i j : Nat, i ≤ j → j ≤ bs.length → j - i ≤ k → (∀ (q : Nat) (h : q < (digs bs).length), q < i → less (digs bs)[q] d = true) → (∀ (q : Nat) (h : q < (digs bs).length), j ≤ q → ¬ less (digs bs)[q] d = true) → PlaceS (digs bs) d (impl_blobOf.bs bs d k i j) := by
  have hl := digs_len bs
  have done : ∀ i j : Nat, i ≤ j → j ≤ bs.length → ¬ i < j → (∀ (q : Nat) (h : q < (digs bs).length), q < i → less (digs bs)[q] d = true) → (∀ (q : Nat) (h : q < (digs bs).length), j ≤ q → ¬ less (digs bs)[q] d = true) → PlaceS (digs bs) d i := fun i j h1 h2 h3 ha hb => ⟨by omega, ha, fun q h hq => hb q h (by omega)⟩
  intro k
  induction k with
  | zero => intro i j h1 h2 h3 ha hb; exact done i j h1 h2 (by omega) ha hb
  | succ k ih =>
    intro i j h1 h2 h3 ha hb
    unfold impl_blobOf.bs
    by_cases g : i < j
    · rw [if_pos g]
      have hm : (i + j) / 2 < bs.length := by omega
      by_cases c : Lib.compareBytes (rd_T66 bs (((i + j) / 2 : Nat) : Int)).f0.data.toList d.data.toList < 0
      · rw [if_pos c]
        rw [cmp_less, rd_digs bs _ hm] at c
        refine ih _ _ (by omega) h2 (by omega) (fun q h hq => ?_) hb
        by_cases e : q = (i + j) / 2
        · subst e; exact c
        · exact less_trans (hr q _ h (by omega) (by omega)) c
      · rw [if_neg c]
        rw [cmp_less, rd_digs bs _ hm] at c
        refine ih _ _ (by omega) (by omega) (by omega) ha (fun q h hq => ?_)
        by_cases e : q = (i + j) / 2
        · subst e; exact c
        · exact fun hh => c (less_trans (hr _ q (by omega) h (by omega)) hh)
    · rw [if_neg g]; exact done i j h1 h2 g ha hb
def plB (bs : List IB) (d : ByteArray) : Nat := impl_blobOf.bs bs d bs.length 0 bs.length
theorem plB_is {bs : List IB} {d : ByteArray} (hr : Rising (digs bs)) : PlaceS (digs bs) d (plB bs d) :=
  bs_place hr bs.length 0 bs.length (by omega) (by omega) (by omega) (fun q h hq => absurd hq (by omega)) (fun q h hq => by rw [digs_len] at h; omega)
def thB (bs : List IB) (d : ByteArray) : Bool := at? (digs bs) d (plB bs d)
theorem impl_blob (q : Int) (bs : List IB) (us : List IU) (nx : Int) (d : ByteArray) (hb : bs.length ≤ 1048576) : impl_blobOf.f q bs us nx d = some ((plB bs d : Int), thB bs d) := by
  unfold impl_blobOf.f
  rw [if_pos (by omega)]
  show some ((plB bs d : Int), decide (plB bs d < bs.length) && decide (Lib.compareBytes (rd_T66 bs (plB bs d : Int)).f0.data.toList d.data.toList = 0)) = _
  have : (decide (plB bs d < bs.length) && decide (Lib.compareBytes (rd_T66 bs (plB bs d : Int)).f0.data.toList d.data.toList = 0)) = thB bs d := by
    unfold thB at?
    by_cases h : plB bs d < bs.length
    · rw [decide_eq_true h, Bool.true_and, rd_digs bs _ h, List.getElem?_eq_getElem (by rw [digs_len]; exact h)]
      simp only [cmp_same, Option.some.injEq]
    · rw [decide_eq_false h, Bool.false_and, List.getElem?_eq_none (by rw [digs_len]; omega)]; rfl
  rw [this]
def linB (bs : List IB) (d : ByteArray) : Nat → Nat → Int
  | 0, _ => -1
  | k + 1, i => if (rd_T66 bs (i : Int)).f0 = d then (i : Int) else linB bs d k (i + 1)
theorem linB_is (bs : List IB) (d : ByteArray) : ∀ k i : Nat, i + k = bs.length → (linB bs d k i = -1 ∧ ∀ (q : Nat) (h : q < (digs bs).length), i ≤ q → (digs bs)[q] ≠ d) ∨ ∃ (q : Nat) (h : q < (digs bs).length), linB bs d k i = (q : Int) ∧ (digs bs)[q] = d := by
  have hl := digs_len bs
  intro k
  induction k with
  | zero => intro i hi; exact .inl ⟨rfl, fun q h hq => by omega⟩
  | succ k ih =>
    intro i hi
    unfold linB
    by_cases g : (rd_T66 bs (i : Int)).f0 = d
    · rw [if_pos g]
      rw [rd_digs bs i (by omega)] at g
      exact .inr ⟨i, by omega, rfl, g⟩
    · rw [if_neg g]
      rw [rd_digs bs i (by omega)] at g
      rcases ih (i + 1) (by omega) with ⟨h1, h2⟩ | h
      · refine .inl ⟨h1, fun q h hq => ?_⟩
        by_cases e : q = i
        · subst e; exact g
        · exact h2 q h (by omega)
      · exact .inr h
theorem spec_lin (q : Int) (bs : List IB) (us : List IU) (nx : Int) (d : ByteArray) (hb : bs.length ≤ 1048576) : Ev (fun k => spec_l6Blob.f k q bs us nx d) (linB bs d bs.length 0) := by
  unfold spec_l6Blob.f
  have key : ∀ n i : Nat, i + n = bs.length → Ev (fun k => spec_l6Blob.l0 k d (i : Int) q bs us nx) (linB bs d n i) := by
    intro n
    induction n with
    | zero =>
      intro i hi
      refine Ev.step (f := fun _ => some (-1)) (fun k => ?_) (Ev.now _)
      simp only [spec_l6Blob.l0]; rw [if_neg (by omega)]
    | succ n ih =>
      intro i hi
      unfold linB
      by_cases h : (rd_T66 bs (i : Int)).f0 = d
      · rw [if_pos h]
        refine Ev.step (f := fun _ => some (i : Int)) (fun k => ?_) (Ev.now _)
        simp only [spec_l6Blob.l0]; rw [if_pos (by omega), if_pos (by omega), if_pos (by rw [h])]
      · rw [if_neg h]
        refine Ev.step (fun k => ?_) (ih (i + 1) (by omega))
        simp only [spec_l6Blob.l0]; rw [if_pos (by omega), if_pos (by omega), if_neg (fun e => h ((same_is _ _).1 e)), wrap_nat i (by omega)]
  exact key bs.length 0 (by omega)
theorem lin_pl {bs : List IB} {d : ByteArray} (hr : Rising (digs bs)) : linB bs d bs.length 0 = if thB bs d = true then (plB bs d : Int) else -1 := by
  have hp := plB_is (d := d) hr
  have hi : thB bs d = true ↔ d ∈ digs bs := at_iff hr hp
  rcases linB_is bs d bs.length 0 (by omega) with ⟨h1, h2⟩ | ⟨q, h, h1, h2⟩
  · rw [h1, if_neg]
    intro ht
    obtain ⟨q, h, e⟩ := List.getElem_of_mem (hi.1 ht)
    exact h2 q h (by omega) e
  · have hm : d ∈ digs bs := h2 ▸ List.getElem_mem h
    rw [h1, if_pos (hi.2 hm)]
    have := place_of_mem hr hp hm
    obtain ⟨hl, e⟩ := List.getElem?_eq_some_iff.1 this
    have hq : q = plB bs d := by
      rcases Nat.lt_trichotomy q (plB bs d) with c | c | c
      · exact absurd (hr q _ h hl c) (by rw [h2, e]; exact less_irrefl d)
      · exact c
      · exact absurd (hr _ q hl h c) (by rw [h2, e]; exact less_irrefl d)
    rw [hq]
def finM (q : Int) (bs : List IB) (us : List IU) (nx id : Int) (d : ByteArray) : Int × List IB × List IU × Int × Int :=
  if upAt us id < 0 then (q, bs, us, nx, 3) else
  if d = digestM (rd_T68 us (upAt us id)).f1 then
    (if thB bs d = true then (q, bs, us.eraseIdx (upAt us id).toNat, nx, 0) else
     if (bs.length : Int) = 60 then (q, bs, us, nx, 2) else
     (q, bs.take (plB bs d) ++ [⟨d, (rd_T68 us (upAt us id)).f1⟩] ++ bs.drop (plB bs d), us.eraseIdx (upAt us id).toNat, nx, 0))
  else (q, bs, us, nx, 6)
theorem fin_j2 (q : Int) (bs : List IB) (us : List IU) (nx t : Int) (hu : us.length ≤ 1048576) (h0 : 0 ≤ t) (h1 : t < (us.length : Int)) : Ev (fun k => spec_l6Finish.j2 k t q bs us nx) (q, bs, us.eraseIdx t.toNat, nx, 0) := by
  have ew : wrap64 (t + 1) = t + 1 := by unfold wrap64; omega
  refine Ev.step (f := fun _ => some (q, bs, us.eraseIdx t.toNat, nx, 0)) (fun k => ?_) (Ev.now _)
  simp only [spec_l6Finish.j2]
  rw [if_pos h0, if_pos (by omega), ew, if_pos (by omega), if_pos (by omega)]
theorem fin_j1 (q : Int) (bs : List IB) (us : List IU) (nx : Int) (d data : ByteArray) (t : Int) (hb : bs.length ≤ 1048576) (hu : us.length ≤ 1048576) (i : Nat) (hi : i ≤ bs.length) (h0 : 0 ≤ t) (h1 : t < (us.length : Int)) :
    Ev (fun k => spec_l6Finish.j1 k d t data q bs us nx q (bs.take i) us nx) (q, bs.take i ++ [⟨d, data⟩] ++ bs.drop i, us.eraseIdx t.toNat, nx, 0) := by
  have htl : (bs.take i).length = i := by rw [List.length_take]; omega
  have c1 : i < 4398046511104 := by omega
  have c2 : (0 : Int) ≤ (i : Int) := by omega
  have c3 : (i : Int) ≤ (bs.length : Int) := by omega
  have c4 : (bs.take i ++ [(⟨d, data⟩ : IB)]).length + (bs.drop i).length < 4398046511104 := by rw [List.length_append, htl, List.length_drop]; simp only [List.length_singleton]; omega
  refine Ev.step (fun k => ?_) (fin_j2 q (bs.take i ++ [⟨d, data⟩] ++ bs.drop i) us nx t hu h0 h1)
  simp only [spec_l6Finish.j1]
  simp only [htl, if_pos c1, Option.bind_some, if_pos c2, if_pos c3, Int.toNat_natCast, if_pos c4]
theorem fin_loop (q : Int) (bs : List IB) (us : List IU) (nx : Int) (d data : ByteArray) (t : Int) (hb : bs.length ≤ 1048576) (hu : us.length ≤ 1048576) (p : Nat) (hp : PlaceS (digs bs) d p) (h0 : 0 ≤ t) (h1 : t < (us.length : Int)) :
    ∀ n i : Nat, i + n = p → Ev (fun k => spec_l6Finish.l0 k d t data (i : Int) q bs us nx q (bs.take i) us nx) (q, bs.take p ++ [⟨d, data⟩] ++ bs.drop p, us.eraseIdx t.toNat, nx, 0) := by
  have hl := digs_len bs
  have hpl : p ≤ bs.length := by have := hp.1; omega
  intro n
  induction n with
  | zero =>
    intro i hi
    obtain rfl : i = p := by omega
    refine Ev.step (fun k => ?_) (fin_j1 q bs us nx d data t hb hu i hpl h0 h1)
    simp only [spec_l6Finish.l0]
    by_cases g : (i : Int) < (bs.length : Int)
    · rw [if_pos g, if_pos (by omega), if_neg (show ¬ Op.bytesLess ((rd_T66 bs (i : Int)).f0.toList) d.toList = true by
        rw [rd_digs bs i (by omega)]; exact hp.2.2 i (by omega) (Nat.le_refl _))]
    · rw [if_neg g]
  | succ n ih =>
    intro i hi
    have htl : (bs.take i).length = i := by rw [List.length_take]; omega
    have hil : i < bs.length := by omega
    refine Ev.step (fun k => ?_) (ih (i + 1) (by omega))
    simp only [spec_l6Finish.l0]
    rw [if_pos (show (i : Int) < (bs.length : Int) by omega), if_pos (show (0 : Int) ≤ (i : Int) by omega), if_pos (show Op.bytesLess ((rd_T66 bs (i : Int)).f0.toList) d.toList = true by
      rw [rd_digs bs i hil]; exact hp.2.1 i (by omega) (by omega)), if_pos (by rw [htl]; omega), wrap_nat i (by omega)]
    have e : bs.take i ++ [(⟨(rd_T66 bs (i : Int)).f0, (rd_T66 bs (i : Int)).f1⟩ : IB)] = bs.take (i + 1) := by
      rw [rdIB bs i hil, List.take_add_one, List.getElem?_eq_getElem hil]; rfl
    rw [e]
theorem spec_fin6 (q : Int) (bs : List IB) (us : List IU) (nx id : Int) (d : ByteArray) (hs : Small bs us) (hr : Rising (digs bs)) : Ev (fun k => spec_l6Finish.f k q bs us nx id d) (finM q bs us nx id d) := by
  unfold spec_l6Finish.f finM
  have h1 := hs.1; have h2 := hs.2.1
  rw [spec_copy q bs us nx (by omega) (by omega)]
  simp only [Option.bind_some]
  refine Ev.bind (spec_at q bs us nx id h2) ?_
  have hlt := upAt_lt us id
  generalize upAt us id = t at hlt
  by_cases g : t < 0
  · simp only [if_pos g]; exact Ev.now _
  have ew : wrap64 (t + 1) = t + 1 := by unfold wrap64; omega
  simp only [if_neg g, if_pos (show 0 ≤ t by omega), if_pos (show t < (us.length : Int) by omega)]
  refine Ev.bind (spec_digest _ (by have := rdU_small us (fun x hx => hs.2.2.2 x hx) t (by omega) (by omega); omega)) ?_
  by_cases hd : d = digestM (rd_T68 us t).f1
  · rw [if_pos hd]
    have e1 : d.toList = (digestM (rd_T68 us t).f1).toList := by rw [← hd]
    simp only [if_pos e1]
    refine Ev.bind (spec_lin q bs us nx d h1) ?_
    rw [lin_pl (d := d) hr]
    by_cases ht : thB bs d = true
    · simp only [if_pos ht, if_neg (show ¬ ((plB bs d : Nat) : Int) < 0 by omega)]
      exact fin_j2 q bs us nx t h2 (by omega) (by omega)
    · simp only [if_neg ht, if_pos (show (-1 : Int) < 0 by omega)]
      by_cases h60 : (bs.length : Int) = 60
      · simp only [if_pos h60]; exact Ev.now _
      simp only [if_neg h60]
      exact fin_loop q bs us nx d _ t h1 h2 (plB bs d) (plB_is hr) (by omega) (by omega) (plB bs d) 0 (by omega)
  · rw [if_neg hd]
    simp only [if_neg (show ¬ d.toList = (digestM (rd_T68 us t).f1).toList from fun e => hd ((same_is _ _).1 e))]
    exact Ev.now _
theorem empty_app (data : ByteArray) : (⟨#[]⟩ : ByteArray) ++ data = data := ByteArray.ext (by rw [ByteArray.data_append]; simp)
theorem rd_snoc (us : List IU) (z : IU) : rd_T68 (us ++ [z]) (us.length : Int) = z := by
  rw [rdIU _ _ (by rw [List.length_append, List.length_singleton]; omega), List.getElem_append_right (Nat.le_refl _)]; simp
theorem at_snoc (us : List IU) (z : IU) (id : Int) (hu : ∀ x ∈ us, x.f0 ≠ id) (hz : z.f0 = id) : ∀ d i : Nat, i + d = us.length → upFrom (us ++ [z]) id (d + 1) i = (us.length : Int) := by
  intro d
  induction d with
  | zero =>
    intro i hi
    obtain rfl : i = us.length := by omega
    unfold upFrom
    rw [rd_snoc, if_pos hz]
  | succ d ih =>
    intro i hi
    have h1 : i < us.length := by omega
    unfold upFrom
    rw [rdIU _ i (by rw [List.length_append]; omega), List.getElem_append_left h1, if_neg (hu _ (List.getElem_mem h1))]
    exact ih (i + 1) (by omega)
theorem upAt_snoc (us : List IU) (z : IU) (id : Int) (hu : ∀ x ∈ us, x.f0 ≠ id) (hz : z.f0 = id) : upAt (us ++ [z]) id = (us.length : Int) := by
  unfold upAt
  rw [List.length_append, List.length_singleton]
  exact at_snoc us z id hu hz us.length 0 (by omega)
theorem accU_snoc (us : List IU) (z : IU) : ∀ i : Nat, i ≤ us.length → accU (us ++ [z]) i = accU us i := by
  intro i
  induction i with
  | zero => intro _; rfl
  | succ i ih =>
    intro hi
    rw [accU, accU, ih (by omega), rdIU _ i (by rw [List.length_append]; omega), rdIU us i (by omega), List.getElem_append_left (by omega)]
theorem used_snoc (bs : List IB) (us : List IU) (z : IU) (hz : z.f1.size = 0) : usedM bs (us ++ [z]) = usedM bs us := by
  unfold usedM
  rw [List.length_append, List.length_singleton, accU, accU_snoc us z _ (Nat.le_refl _), rd_snoc, hz]; omega
theorem storeM_ids {q : Int} {bs : List IB} {us : List IU} {nx : Int} (h : storeM q bs us nx = true) : (1 ≤ nx ∧ nx ≤ 1000000000000) ∧ us.length ≤ 10 ∧ ∀ x ∈ us, x.f0 ≠ nx := by
  unfold storeM at h
  simp only [Bool.and_eq_true, decide_eq_true_eq] at h
  obtain ⟨_, _, h10, hnx, _, _, hall⟩ := h
  refine ⟨hnx, by omega, fun x hx e => ?_⟩
  obtain ⟨i, hi, rfl⟩ := List.getElem_of_mem hx
  rw [List.all_eq_true] at hall
  have := hall i (List.mem_range.2 hi)
  unfold upM at this
  simp only [Bool.and_eq_true, decide_eq_true_eq] at this
  have h2 := this.1.2
  rw [rdIU us i hi] at h2
  have ew : wrap64 (nx - 1) = nx - 1 := by unfold wrap64; omega
  rw [ew, e] at h2
  omega
def kepM (q : Int) (bs : List IB) (us : List IU) (nx : Int) (data : ByteArray) : Int × List IB × List IU × Int × Int :=
  if (us.length : Int) = 10 then (q, bs, us, nx, 2) else if nx = 1000000000000 then (q, bs, us, nx, 2) else
  if wrap64 (usedM bs us + (data.size : Int)) > q then (q, bs, us, nx, 5) else
  if thB bs (digestM data) = true then (q, bs, us, wrap64 (nx + 1), 0) else
  if (bs.length : Int) = 60 then (q, bs, us, nx, 2) else
  (q, bs.take (plB bs (digestM data)) ++ [⟨digestM data, data⟩] ++ bs.drop (plB bs (digestM data)), us, wrap64 (nx + 1), 0)
theorem chk_new (q : Int) (bs : List IB) (us : List IU) (nx nx' : Int) (data : ByteArray) (hu : ∀ x ∈ us, x.f0 ≠ nx) :
    chkM q bs (us ++ [(⟨nx, (⟨#[]⟩ : ByteArray)⟩ : IU)]) nx' nx 0 data = if wrap64 (usedM bs us + (data.size : Int)) > q then (q, bs, us ++ [(⟨nx, (⟨#[]⟩ : ByteArray)⟩ : IU)], nx', 5) else (q, bs, us ++ [(⟨nx, data⟩ : IU)], nx', 0) := by
  unfold chkM
  rw [upAt_snoc us _ nx hu rfl, if_neg (by omega), rd_snoc, used_snoc bs us _ rfl, if_pos (show (0 : Int) = (((⟨#[]⟩ : ByteArray).size : Nat) : Int) from rfl), Int.toNat_natCast, List.set_append_right _ _ (Nat.le_refl _), Nat.sub_self, empty_app]
  rfl
theorem fin_new (q : Int) (bs : List IB) (us : List IU) (nx nx' : Int) (data : ByteArray) (hu : ∀ x ∈ us, x.f0 ≠ nx) :
    finM q bs (us ++ [(⟨nx, data⟩ : IU)]) nx' nx (digestM data) = if thB bs (digestM data) = true then (q, bs, us, nx', 0) else if (bs.length : Int) = 60 then (q, bs, us ++ [(⟨nx, data⟩ : IU)], nx', 2) else (q, bs.take (plB bs (digestM data)) ++ [⟨digestM data, data⟩] ++ bs.drop (plB bs (digestM data)), us, nx', 0) := by
  unfold finM
  have e : (us ++ [(⟨nx, data⟩ : IU)]).eraseIdx us.length = us := by rw [List.eraseIdx_append_of_length_le (Nat.le_refl _), Nat.sub_self]; simp
  rw [upAt_snoc us _ nx hu rfl, if_neg (by omega), rd_snoc, if_pos rfl, Int.toNat_natCast, e]
theorem keep_bad (q : Int) (bs : List IB) (us : List IU) (nx : Int) (data : ByteArray) (id code : Int) (hc : ¬ code = 0) (q' : Int) (bs' : List IB) (us' : List IU) (nx' : Int) (hb : bs.length ≤ 2097152) (hu : us.length ≤ 2097152) :
    Ev (fun k => spec_l6Keep.j1 k code q bs us nx q' bs' us' nx') (q, bs, us, nx, code) := by
  refine Ev.step (f := fun _ => some (q, bs, us, nx, code)) (fun k => ?_) (Ev.now _)
  simp only [spec_l6Keep.j1]
  rw [if_neg hc, spec_copy q bs us nx hb hu]; rfl
theorem keep_bad0 (q : Int) (bs : List IB) (us : List IU) (nx : Int) (data : ByteArray) (id code : Int) (hc : ¬ code = 0) (q' : Int) (bs' : List IB) (us' : List IU) (nx' : Int) (hb : bs.length ≤ 2097152) (hu : us.length ≤ 2097152) :
    Ev (fun k => spec_l6Keep.j0 k data id code q bs us nx q' bs' us' nx') (q, bs, us, nx, code) := by
  refine Ev.step (fun k => ?_) (keep_bad q bs us nx data id code hc q' bs' us' nx' hb hu)
  simp only [spec_l6Keep.j0]
  rw [if_neg hc]
theorem small_snoc {bs : List IB} {us : List IU} (hs : Small bs us) (h10 : us.length ≤ 10) (z : IU) (hz : z.f1.size ≤ 1048576) : Small bs (us ++ [z]) := by
  refine ⟨hs.1, by rw [List.length_append, List.length_singleton]; omega, hs.2.2.1, fun x hx => ?_⟩
  rcases List.mem_append.1 hx with h | h
  · exact hs.2.2.2 x h
  · rw [List.mem_singleton.1 h]; exact hz
theorem spec_kep6 (q : Int) (bs : List IB) (us : List IU) (nx : Int) (data : ByteArray) (hs : Small bs us) (hd : data.size ≤ 1048576) (hS : storeM q bs us nx = true) : Ev (fun k => spec_l6Keep.f k q bs us nx data) (kepM q bs us nx data) := by
  have hr := storeM_rising hS
  obtain ⟨hnx, h10, hid⟩ := storeM_ids hS
  have h1 := hs.1; have h2 := hs.2.1
  unfold spec_l6Keep.f kepM
  rw [spec_begin6 q bs us nx (by omega) (by omega)]
  simp only [Option.bind_some]
  unfold begM
  by_cases g1 : (us.length : Int) = 10
  · simp only [if_pos g1, if_neg (show ¬ (2 : Int) = 0 by omega)]
    exact keep_bad0 q bs us nx data _ 2 (by omega) _ _ _ _ (by omega) (by omega)
  simp only [if_neg g1]
  by_cases g2 : nx = 1000000000000
  · simp only [if_pos g2, if_neg (show ¬ (2 : Int) = 0 by omega)]
    exact keep_bad0 q bs us nx data _ 2 (by omega) _ _ _ _ (by omega) (by omega)
  simp only [if_neg g2, if_true]
  refine Ev.bind (spec_chunk6 q bs _ (wrap64 (nx + 1)) nx 0 data (small_snoc hs h10 _ (by show (0 : Nat) ≤ _; omega)) hd) ?_
  rw [chk_new q bs us nx (wrap64 (nx + 1)) data hid]
  by_cases g3 : wrap64 (usedM bs us + (data.size : Int)) > q
  · simp only [if_pos g3]
    exact keep_bad0 q bs us nx data _ 5 (by omega) _ _ _ _ (by omega) (by omega)
  simp only [if_neg g3]
  refine Ev.step (fun k => by simp only [spec_l6Keep.j0, if_true]; rfl) ?_
  refine Ev.bind (spec_digest data (by omega)) ?_
  refine Ev.bind (spec_fin6 q bs _ (wrap64 (nx + 1)) nx (digestM data) (small_snoc hs h10 _ hd) hr) ?_
  rw [fin_new q bs us nx (wrap64 (nx + 1)) data hid]
  by_cases g4 : thB bs (digestM data) = true
  · simp only [if_pos g4]
    exact Ev.step (f := fun _ => some (q, bs, us, wrap64 (nx + 1), 0)) (fun k => by simp only [spec_l6Keep.j1, if_true]) (Ev.now _)
  simp only [if_neg g4]
  by_cases g5 : (bs.length : Int) = 60
  · simp only [if_pos g5]
    exact keep_bad q bs us nx data 0 2 (by omega) _ _ _ _ (by omega) (by omega)
  simp only [if_neg g5]
  exact Ev.step (f := fun _ => some (q, bs.take (plB bs (digestM data)) ++ [⟨digestM data, data⟩] ++ bs.drop (plB bs (digestM data)), us, wrap64 (nx + 1), 0)) (fun k => by simp only [spec_l6Keep.j1, if_true]) (Ev.now _)
theorem impl_kep (q : Int) (bs : List IB) (us : List IU) (nx : Int) (data : ByteArray) (hs : Small bs us) (hd : data.size ≤ 1048576) (hS : storeM q bs us nx = true) : Ev (fun k => impl_keep.f k q bs us nx data) (kepM q bs us nx data) := by
  have hr := storeM_rising hS
  have h1 := hs.1; have h2 := hs.2.1
  unfold impl_keep.f kepM
  rw [impl_copy q bs us nx (by omega) (by omega)]
  simp only [Option.bind_some]
  have j1 : ∀ (q : Int) (bs : List IB) (us : List IU) (nx : Int), Ev (fun k => impl_keep.j1 k q bs us nx) (q, bs, us, wrap64 (nx + 1), 0) := fun q bs us nx => Ev.step (f := fun _ => some (q, bs, us, wrap64 (nx + 1), 0)) (fun k => by simp only [impl_keep.j1]) (Ev.now _)
  by_cases g1 : (us.length : Int) = 10
  · simp only [if_pos g1]
    exact Ev.step (f := fun _ => some (q, bs, us, nx, 2)) (fun k => by simp only [impl_keep.j0, if_true]) (Ev.now _)
  simp only [if_neg g1]
  by_cases g2 : nx = 1000000000000
  · simp only [if_pos g2]
    exact Ev.step (f := fun _ => some (q, bs, us, nx, 2)) (fun k => by simp only [impl_keep.j0]; rw [if_pos (by simp [g2])]) (Ev.now _)
  simp only [if_neg g2]
  refine Ev.step (fun k => by simp only [impl_keep.j0]; rw [if_neg (by simp [g2])]) ?_
  refine Ev.bind (impl_used_ok q bs us nx hs) ?_
  by_cases g3 : wrap64 (usedM bs us + (data.size : Int)) > q
  · simp only [if_pos g3]; exact Ev.now _
  simp only [if_neg g3]
  have hdig : Ev (fun k => impl_digestOf.f k data) (digestM data) := by
    unfold impl_digestOf.f
    exact Ev.bind (impl_digest_ok _ (by omega)) (Ev.now _)
  refine Ev.bind hdig ?_
  rw [impl_blob q bs us nx (digestM data) h1]
  simp only [Option.bind_some]
  by_cases g4 : thB bs (digestM data) = true
  · simp only [if_pos g4]; exact j1 q bs us nx
  simp only [if_neg g4]
  by_cases g5 : (bs.length : Int) = 60
  · simp only [if_pos g5]; exact Ev.now _
  simp only [if_neg g5]
  have hpl : plB bs (digestM data) ≤ bs.length := by have := (plB_is (d := digestM data) hr).1; rw [digs_len] at this; exact this
  have eib : impl_Blob.f bs ((plB bs (digestM data) : Nat) : Int) [⟨digestM data, data⟩] = some (bs.take (plB bs (digestM data)) ++ [⟨digestM data, data⟩] ++ bs.drop (plB bs (digestM data))) := by
    unfold impl_Blob.f
    rw [if_pos ⟨by omega, by omega, by simp, by simp only [List.length_singleton]; omega⟩, Int.toNat_natCast]
  simp only [eib, Option.bind_some]
  exact j1 q _ us nx
def keepM (q : Int) (bs : List IB) (us : List IU) (nx : Int) (data : ByteArray) : Int × List IB × List IU × Int × Int :=
  if storeM q bs us nx = true then kepM q bs us nx data else (0, [], [], 0, 1)
theorem spec_keep (q : Int) (bs : List IB) (us : List IU) (nx : Int) (data : ByteArray) (hs : Small bs us) (hd : data.size ≤ 1048576) : Ev (fun k => spec_Keep.f k q bs us nx data) (keepM q bs us nx data) := by
  unfold spec_Keep.f keepM
  refine Ev.bind (spec_storeOk q bs us nx hs) ?_
  have hk := spec_kep6 q bs us nx data hs hd
  generalize storeM q bs us nx = S at hk
  cases S with
  | true => simp only [if_true]; exact Ev.bind (hk rfl) (Ev.now _)
  | false => simp only [Bool.false_eq_true, if_false]; exact Ev.now _
theorem impl_keepM (q : Int) (bs : List IB) (us : List IU) (nx : Int) (data : ByteArray) (hs : Small bs us) (hd : data.size ≤ 1048576) : Ev (fun k => impl_Keep.f k q bs us nx data) (keepM q bs us nx data) := by
  unfold impl_Keep.f keepM
  refine Ev.bind (impl_storeOk q bs us nx hs) ?_
  have hk := impl_kep q bs us nx data hs hd
  generalize storeM q bs us nx = S at hk
  cases S with
  | true => simp only [if_true]; exact Ev.bind (hk rfl) (Ev.now _)
  | false => simp only [Bool.false_eq_true, if_false]; exact Ev.now _
theorem keepM_len (q : Int) (bs : List IB) (us : List IU) (nx : Int) (data : ByteArray) (hs : Small bs us) : (keepM q bs us nx data).2.1.length ≤ 2097152 ∧ (keepM q bs us nx data).2.2.1.length ≤ 2097152 := by
  have h1 := hs.1; have h2 := hs.2.1
  have e0 : ∀ (p : Nat) (z : IB), (bs.take p ++ [z] ++ bs.drop p).length ≤ 2097152 := fun p z => by
    rw [List.length_append, List.length_append, List.length_take, List.length_drop, List.length_singleton]; omega
  have e1 : bs.length ≤ 2097152 := by omega
  have e2 : us.length ≤ 2097152 := by omega
  unfold keepM kepM
  split
  · split
    · exact ⟨e1, e2⟩
    · split
      · exact ⟨e1, e2⟩
      · split
        · exact ⟨e1, e2⟩
        · split
          · exact ⟨e1, e2⟩
          · split
            · exact ⟨e1, e2⟩
            · exact ⟨e0 _ _, e2⟩
  · exact ⟨by simp, by simp⟩
end StoreOf
open StoreOf
theorem FnExactKeep : laws_FnExactKeep.Pure := by
  intro q bs us nx data _ hb hu _ _
  refine Ev.rounds (g := fun k => laws_FnExactKeep.f k q bs us nx data) ?_
  unfold laws_FnExactKeep.f
  by_cases hd0 : (data.size : Int) > 1048576
  · simp only [if_pos hd0]; exact Ev.now _
  simp only [if_neg hd0]
  obtain ⟨r, hr, _, hr2⟩ := sz_ok q bs us nx hb ⟨hu.1, fun x hx => (hu.2 x hx).2⟩
  refine Ev.bind hr ?_
  by_cases h0 : r < 0
  · simp only [if_pos h0]; exact Ev.now _
  simp only [if_neg h0]
  have hs := hr2 (by omega)
  have hbl : bs.length ≤ 1048576 := by have := hs.1; rwa [List.length_map] at this
  have hul : us.length ≤ 1048576 := by have := hs.2.1; rwa [List.length_map] at this
  have ht := to_ok q bs us nx hbl hul
  have hspec := spec_keep q _ _ nx data hs (by omega)
  have himpl := impl_keepM q _ _ nx data hs (by omega)
  have hlen := keepM_len q _ _ nx data hs
  generalize keepM q (bs.map toB) (us.map toU) nx data = P at hspec himpl hlen
  obtain ⟨q', bs', us', nx', code⟩ := P
  have heR := eq_refl q' bs' us' nx' hlen.1 hlen.2
  have he := eq_refl q (bs.map toB) (us.map toU) nx (by rw [List.length_map]; omega) (by rw [List.length_map]; omega)
  obtain ⟨y1, z1, hm1, _⟩ := markStore_ok q (bs.map toB) (us.map toU) nx (by rw [List.length_map]; omega) (by rw [List.length_map]; omega)
  obtain ⟨y2, z2, hm2, hy2, hz2, hy2', hz2'⟩ := markStore_ok q' bs' us' nx' hlen.1 hlen.2
  have hh := heldStore_ok q' bs' y2 us' z2 nx' hlen.1 hlen.2 hy2 hz2 hy2' hz2'
  refine Ev.bind ht (Ev.bind hspec (Ev.bind ht (Ev.bind himpl (Ev.bind heR ?_))))
  simp only [if_true]
  refine Ev.step (f := fun k => _) (fun k => by simp only [laws_FnExactKeep.j0, bne_self_eq_false, Bool.false_eq_true, if_false]; rfl) ?_
  refine Ev.bind ht (Ev.bind he ?_)
  simp only [if_true]
  refine Ev.bind hm1 ?_
  simp only [if_neg (show ¬ 1 + 2 * ((bs.map toB).length : Int) + 2 * ((us.map toU).length : Int) < 0 by omega)]
  refine Ev.bind heR ?_
  simp only [if_true]
  refine Ev.step (f := fun k => _) (fun k => by simp only [laws_FnExactKeep.j1, bne_self_eq_false, Bool.false_eq_true, if_false]; rfl) ?_
  refine Ev.bind hm2 (Ev.bind hh ?_)
  simp only [if_neg (show ¬ 1 + 2 * (bs'.length : Int) + 2 * (us'.length : Int) < 0 by omega), if_true]
  refine Ev.bind ht (Ev.bind himpl (Ev.bind heR ?_))
  simp only [if_true]
  refine Ev.step (f := fun k => _) (fun k => by simp only [laws_FnExactKeep.j2, bne_self_eq_false, Bool.false_eq_true, if_false]; rfl) ?_
  refine Ev.bind hh ?_
  simp only [if_neg (show ¬ 1 + 2 * (bs'.length : Int) + 2 * (us'.length : Int) < 0 by omega), if_true]; exact Ev.now _
end Go.Proofs.Ytacaeebjanglgaa.Pure
