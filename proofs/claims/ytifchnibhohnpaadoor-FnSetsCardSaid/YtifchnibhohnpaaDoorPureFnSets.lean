/- For every code: a drawn digest that is put into a drawn set is under each of its prefixes, and cut out again it leaves the set. No condition but the size that the model lets a code have. -/
import Derived.Test.YtifchnibhohnpaaDoorQFnSetsx
import Derived.Test.YtifchnibhohnpaaDoorOrderFnSets
import Derived.Test.YtifchnibhohnpaaDoorDigestFnSets
namespace Go.Proofs.YtifchnibhohnpaaDoor.Pure
open Go.RowKit Go.Proofs.YtifchnibhohnpaaDoor.QFnSets Go.Proofs.YtifchnibhohnpaaDoorW.PrintWords Go.Proofs.YtifchnibhohnpaaDoorW.PrintLast Go.Proofs.YtifchnibhohnpaaDoorW.PrintMore Go.Proofs.YtifchnibhohnpaaDoor.Bits Go.Proofs.YtifchnibhohnpaaDoor.Num Go.Proofs.YtifchnibhohnpaaDoor.Dig Go.Proofs.YtifchnibhohnpaaDoor.Loops Go.Proofs.YtifchnibhohnpaaDoor.SetOf Go.Proofs.YtifchnibhohnpaaDoor.Order Go.Proofs.YtifchnibhohnpaaDoor.Sha Go.Proofs.YtifchnibhohnpaaDoor.FrameRead Go.Proofs.YtifchnibhohnpaaDoor.Digest
set_option linter.unusedSimpArgs false
set_option linter.unusedVariables false
namespace SetsOf
theorem rdS (xs : List ByteArray) (i : Nat) (h : i < xs.length) : rdOf ByteArray.empty xs (i : Int) = xs[i] := getD_at xs i _ h
theorem spec_rot (x n : Int) (h0 : 0 ≤ x) (h1 : x < 4294967296) : spec_Rotate.f x n = some (rotr x (n % 32).toNat) := by
  have ht := Int.tmod_lt_of_pos n (show (0 : Int) < 32 by decide)
  have ht2 : -32 < Int.tmod n 32 := by have := Int.lt_tmod_of_pos n (show (0 : Int) < 32 by decide); omega
  have hm : (Int.tmod n 32) % 32 = n % 32 := by have := Int.tmod_add_mul_tdiv n 32; omega
  have hk : IntKind.u64.wrap (Int.tmod (wrap64 ((Int.tmod n 32) + 32)) 32) = n % 32 := by
    have e1 : wrap64 ((Int.tmod n 32) + 32) = (Int.tmod n 32) + 32 := by unfold wrap64; omega
    rw [e1, Int.tmod_eq_emod_of_nonneg (by omega), IntKind.wrap_u64]; omega
  have hk2 : IntKind.u64.wrap (32 - n % 32) = 32 - n % 32 := by rw [IntKind.wrap_u64]; omega
  unfold spec_Rotate.f
  rw [hk, if_pos (by omega), hk2, if_pos (by omega)]
  have e2 : (32 - n % 32).toNat = 32 - (n % 32).toNat := by omega
  unfold shr shl
  rw [show min (n % 32).toNat IntKind.u32.bits = (n % 32).toNat by simp [IntKind.bits]; omega, show min (32 - n % 32).toNat IntKind.u32.bits = (32 - n % 32).toNat by simp [IntKind.bits]; omega, e2, bits_or_comm, or_rotr x _ h0 h1 (by omega)]
theorem spec_rot1 (x : Int) (hx : 0 ≤ x ∧ x < 4294967296) (n : Int) (m : Nat) (hm : (n % 32).toNat = m) : spec_Rotate.f x n = some (rotr x m) := by rw [spec_rot x n hx.1 hx.2, hm]
theorem spec_words (h K b : List Int) (hb : b.length = 64) {r : List Int} (hend : Ev (fun k => spec_l1Block.l0 k h K b (wordsM b 64) 64) r) : Ev (fun k => spec_l1Block.l0 k h K b (List.replicate 64 0) 0) r := by
  refine fold_loop (n := 64) (F := fun k w i => spec_l1Block.l0 k h K b w i) (st := fun i => wordsM b i) (fun t ht hr => ?_) hend
  obtain ⟨hl, hR⟩ := wordsM_ok b t
  rw [wordsM_succ] at hr
  refine Ev.step (fun k => ?_) hr
  simp only [spec_l1Block.l0]
  rw [if_pos (by omega), wrap_nat t (by omega)]
  unfold stepW
  generalize wordsM b t = w at hl hR
  by_cases h16 : t < 16
  · have e0 : wrap64 (4 * (t : Int)) = ((4 * t : Nat) : Int) := by unfold wrap64; omega
    have e1 : wrap64 (((4 * t : Nat) : Int) + 1) = ((4 * t + 1 : Nat) : Int) := by unfold wrap64; omega
    have e2 : wrap64 (((4 * t : Nat) : Int) + 2) = ((4 * t + 2 : Nat) : Int) := by unfold wrap64; omega
    have e3 : wrap64 (((4 * t : Nat) : Int) + 3) = ((4 * t + 3 : Nat) : Int) := by unfold wrap64; omega
    rw [if_pos (by omega), e0, e1, e2, e3]
    repeat rw [if_pos (by omega)]
    rw [Int.toNat_natCast]; rfl
  · have e15 : wrap64 ((t : Int) - 15) = ((t - 15 : Nat) : Int) := by unfold wrap64; omega
    have e2 : wrap64 ((t : Int) - 2) = ((t - 2 : Nat) : Int) := by unfold wrap64; omega
    have e7 : wrap64 ((t : Int) - 7) = ((t - 7 : Nat) : Int) := by unfold wrap64; omega
    have e16 : wrap64 ((t : Int) - 16) = ((t - 16 : Nat) : Int) := by unfold wrap64; omega
    rw [if_neg (by omega), e15, e2, e7, e16]
    rw [if_pos (by omega), if_pos (by omega), if_pos (by omega), if_pos (by omega), spec_rot1 _ (hR.at _) 7 7 rfl, bindS, spec_rot1 _ (hR.at _) 18 18 rfl, bindS, spec_rot1 _ (hR.at _) 17 17 rfl, bindS, spec_rot1 _ (hR.at _) 19 19 rfl, bindS]
    rw [if_pos (by omega), if_pos (by omega), if_pos (by omega), if_pos (by omega), if_pos (by omega), if_pos (by omega), Int.toNat_natCast, if_neg h16]
    congr 2
    simp only [nextW, sml0, sml1]
    omega
theorem spec_rounds (h K b W : List Int) (hK : K.length = 64) (hW : W.length = 64) (hl : h.length = 8) (hr : R32 h) {r : List Int} (hend : Ev (fun k => spec_l1Block.l1 k h K W (roundsM K W h 64) 64) r) : Ev (fun k => spec_l1Block.l1 k h K W h 0) r := by
  refine fold_loop (n := 64) (F := fun k v i => spec_l1Block.l1 k h K W v i) (st := fun i => roundsM K W h i) (fun t ht hr' => ?_) hend
  obtain ⟨hvl, hR⟩ := roundsM_ok K W h hl hr t
  rw [roundsM_succ] at hr'
  refine Ev.step (fun k => ?_) hr'
  simp only [spec_l1Block.l1]
  generalize roundsM K W h t = v at hvl hR
  rw [if_pos (by omega), if_pos (by omega), if_pos (by omega), if_pos (by omega), spec_rot1 _ (hR.at _) 6 6 rfl, bindS, spec_rot1 _ (hR.at _) 11 11 rfl, bindS, spec_rot1 _ (hR.at _) 25 25 rfl, bindS]
  rw [if_pos (by omega), if_pos (by omega), if_pos (by omega), if_pos (by omega), if_pos (by omega), spec_rot1 _ (hR.at _) 2 2 rfl, bindS, spec_rot1 _ (hR.at _) 13 13 rfl, bindS, spec_rot1 _ (hR.at _) 22 22 rfl, bindS]
  rw [if_pos (by omega), if_pos (by omega), if_pos (by omega), wrap_nat t (by omega)]
  congr 1
  simp only [roundM, oneM, twoM, big0, big1, ch, maj]
  congr 1
  · omega
  · congr 4
    omega
theorem spec_add (h v : List Int) (hl : h.length = 8) (hvl : v.length = 8) : Ev (fun k => spec_l1Block.l2 k h v [] 0) (addM h v 8) := by
  refine fold_loop (n := 8) (F := fun k a i => spec_l1Block.l2 k h v a i) (st := fun i => addM h v i) (fun i hi hr => ?_) (Ev.step (f := fun _ => some (addM h v 8)) (fun k => ?_) (Ev.now _))
  · rw [addM_succ] at hr
    refine Ev.step (fun k => ?_) hr
    have := addM_len h v i
    simp only [spec_l1Block.l2]
    rw [if_pos (by omega), if_pos (by omega), if_pos (by omega), if_pos (by omega), if_pos (by omega), wrap_nat i (by omega)]
  · simp only [spec_l1Block.l2]; rw [if_neg (by omega)]
theorem spec_block (h K b : List Int) (hK : K.length = 64) (hb : b.length = 64) (hl : h.length = 8) (hr : R32 h) : Ev (fun k => spec_l1Block.f k h K b) (blockM h K b) := by
  unfold spec_l1Block.f blockM
  simp only [show (64 : Nat) ≤ 70368744177664 by omega, if_true]
  obtain ⟨hwl, _⟩ := wordsM_ok b 64
  refine spec_words h K b hb ?_
  generalize wordsM b 64 = W at hwl
  refine Ev.step (f := fun k => spec_l1Block.l1 k h K W h 0) (fun k => ?_) ?_
  · simp only [spec_l1Block.l0]
    rw [if_neg (by omega), bindS, if_pos (by simp; omega), List.nil_append]
  · refine spec_rounds h K b W hK hwl hl hr ?_
    obtain ⟨hvl, _⟩ := roundsM_ok K W h hl hr 64
    refine Ev.step (f := fun k => spec_l1Block.l2 k h (roundsM K W h 64) [] 0) (fun k => ?_) (spec_add h _ hl hvl)
    simp only [spec_l1Block.l1]
    rw [if_neg (by omega)]
theorem spec_runs (s : ByteArray) (p : List Int) (n : Nat) (hp : p.length = 64 * n) (hn : n ≤ 4611686018427387904 / 64) : Ev (fun k => spec_Sum.l2 k p kM hM 0) (runM p n) := by
  have key : ∀ d i : Nat, i + d = n → Ev (fun k => spec_Sum.l2 k p kM (runM p i) ((64 * i : Nat) : Int)) (runM p n) := by
    intro d
    induction d with
    | zero =>
      intro i hi
      obtain rfl : i = n := by omega
      refine Ev.step (f := fun _ => some (runM p i)) (fun k => ?_) (Ev.now _)
      simp only [spec_Sum.l2]; rw [if_neg (by omega)]
    | succ d ih =>
      intro i hi
      obtain ⟨hl, hr⟩ := runM_ok p i
      have hw : wrap64 (((64 * i : Nat) : Int) + 64) = ((64 * (i + 1) : Nat) : Int) := by unfold wrap64; omega
      have hbl : ((p.drop (64 * i)).take 64).length = 64 := by rw [List.length_take, List.length_drop]; omega
      have hcut : (p.take (64 * (i + 1))).drop (64 * i) = (p.drop (64 * i)).take 64 := by
        rw [List.drop_take]; congr 1; omega
      refine Ev.step (f := fun k => (spec_l1Block.f k (runM p i) kM ((p.drop (64 * i)).take 64)).bind fun t => spec_Sum.l2 k p kM t ((64 * (i + 1) : Nat) : Int)) (fun k => ?_) (Ev.bind (spec_block _ kM _ rfl hbl hl hr) ?_)
      · simp only [spec_Sum.l2]
        rw [if_pos (by omega), if_pos (by omega), hw, if_pos (by omega), if_pos (by omega), Int.toNat_natCast, Int.toNat_natCast, hcut]
      · rw [← runM_succ]; exact ih (i + 1) (by omega)
  exact key n 0 (by omega)
theorem spec_lens (s : ByteArray) (p0 : List Int) (n : Int) (hp : p0.length ≤ 4611686018427387904 / 64) {r : List Int} (hl : p0.length < 140737488355320) (hend : Ev (fun k => spec_Sum.l2 k (p0 ++ lenM n 8) kM hM 0) r) : Ev (fun k => spec_Sum.l1 k p0 n 7) r := by
  have key : ∀ d i : Nat, i + d = 8 → Ev (fun k => spec_Sum.l1 k (p0 ++ lenM n i) n (7 - (i : Int))) r := by
    intro d
    induction d with
    | zero =>
      intro i hi
      obtain rfl : i = 8 := by omega
      refine Ev.step (f := fun k => spec_Sum.l2 k (p0 ++ lenM n 8) kM hM 0) (fun k => ?_) hend
      simp only [spec_Sum.l1]
      rw [if_neg (by omega)]
      unfold spec_l1K.f
      rw [bindS]; rfl
    | succ d ih =>
      intro i hi
      have hi8 : i ≤ 7 := by omega
      have e7 : (7 - (i : Int)) = ((7 - i : Nat) : Int) := by omega
      have hw : wrap64 ((7 - (i : Int)) - 1) = 7 - ((i + 1 : Nat) : Int) := by unfold wrap64; omega
      have hnn : (0 : Int) ≤ IntKind.u64.wrap (wrap64 (8 * (7 - (i : Int)))) := by rw [IntKind.wrap_u64]; omega
      refine Ev.step (fun k => ?_) (ih (i + 1) (by omega))
      simp only [spec_Sum.l1]
      rw [if_pos (by omega), if_pos hnn, if_pos (by rw [List.length_append, lenM_len]; omega), hw, List.append_assoc]
      rw [lenM, ← e7]
  have := key 8 0 (by omega)
  simpa [lenM] using this
theorem spec_sum (s : ByteArray) (hs : s.size ≤ 70368744177664) : Ev (fun k => spec_Sum.f k s) (sumM s) := by
  unfold spec_Sum.f
  have hbl := bytesOf_length s
  simp only [if_pos (show (s.size : Int) ≤ 140737488351232 by omega)]
  refine Ev.bind (Ev.now _) ?_
  simp only [if_pos (show (bytesOf s).length < 140737488355328 by omega)]
  have key : ∀ d i : Nat, i + d = zerosM s.size → Ev (fun k => spec_Sum.l0 k s (bytesOf s ++ [128] ++ List.replicate i 0)) (sumM s) := by
    intro d
    induction d with
    | zero =>
      intro i hi
      obtain rfl : i = zerosM s.size := by omega
      have hz : zerosM s.size < 64 := by unfold zerosM; omega
      have h56 : ((bytesOf s ++ [128] ++ List.replicate (zerosM s.size) (0 : Int)).length : Int) % 64 = 56 := by
        simp only [List.length_append, List.length_replicate, List.length_singleton, hbl, zerosM]; omega
      have hlen : (bytesOf s ++ [128] ++ List.replicate (zerosM s.size) (0 : Int)).length = s.size + 1 + zerosM s.size := by simp [hbl]; omega
      refine Ev.step (f := fun k => spec_Sum.l1 k (bytesOf s ++ [128] ++ List.replicate (zerosM s.size) 0) (IntKind.u64.wrap ((IntKind.u64.wrap ((s.size : Int))) * 8)) 7) (fun k => ?_) ?_
      · simp only [spec_Sum.l0]; rw [if_pos h56]
      · refine spec_lens s _ _ (by omega) (by omega) ?_
        have hp := padM_len s
        unfold sumM
        exact spec_runs s (padM s) _ hp (by omega)
    | succ d ih =>
      intro i hi
      have hz : zerosM s.size < 64 := by unfold zerosM; omega
      have h56 : ¬ ((bytesOf s ++ [128] ++ List.replicate i (0 : Int)).length : Int) % 64 = 56 := by
        simp only [List.length_append, List.length_replicate, List.length_singleton, hbl]
        unfold zerosM at hi hz
        omega
      refine Ev.step (fun k => ?_) (ih (i + 1) (by omega))
      simp only [spec_Sum.l0]
      rw [if_neg h56, if_pos (by simp [hbl]; omega), List.append_assoc _ (List.replicate i 0), ← List.replicate_succ']
  have := key (zerosM s.size) 0 (by omega)
  simpa using this
theorem spec_hex (n : Int) (hn : 0 ≤ n ∧ n < 4294967296) : Ev (fun k => spec_l1Hex.f k n) (hexM n) := by
  unfold spec_l1Hex.f
  have key : ∀ d i : Nat, i + d = 8 → Ev (fun k => spec_l1Hex.l0 k n (hexL n i) (7 - (i : Int))) (hexM n) := by
    intro d
    induction d with
    | zero =>
      intro i hi
      obtain rfl : i = 8 := by omega
      exact Ev.step (f := fun _ => some (hexM n)) (fun k => by simp only [spec_l1Hex.l0]; rw [if_neg (by omega)]; rfl) (Ev.now _)
    | succ d ih =>
      intro i hi
      have e7 : (7 - (i : Int)) = ((7 - i : Nat) : Int) := by omega
      have hw : wrap64 ((7 - (i : Int)) - 1) = 7 - ((i + 1 : Nat) : Int) := by unfold wrap64; omega
      have hnn : (0 : Int) ≤ IntKind.u64.wrap (wrap64 (4 * (7 - (i : Int)))) := by rw [IntKind.wrap_u64]; omega
      have hr := nib_range n i hn
      have hnib : Go.bits .and .u32 (shr .u32 n (IntKind.u64.wrap (wrap64 (4 * (7 - (i : Int)))))) 15 = nibM n i := by rw [nibM, e7]
      refine Ev.step (fun k => ?_) (ih (i + 1) (by omega))
      simp only [spec_l1Hex.l0]
      rw [if_pos (by omega), if_pos hnn, hnib, if_pos hr.1, if_pos hr.2, if_pos (by rw [hexL_len]; omega), hw, hexL_succ]
      rfl
  exact key 8 0 (by omega)
theorem spec_digest (s : ByteArray) (hs : s.size ≤ 70368744177664) : Ev (fun k => spec_Digest.f k s) (digestM s) := by
  unfold spec_Digest.f
  refine Ev.bind (spec_sum s hs) ?_
  obtain ⟨hl, hr⟩ := sumM_ok s
  unfold digestM
  generalize sumM s = h at hl hr
  refine fold_loop (n := 8) (F := fun k t i => spec_Digest.l0 k h t i) (st := fun i => digL h i) (fun i hi hh => ?_) (Ev.step (f := fun _ => some (digL h 8)) (fun k => ?_) (Ev.now _))
  · refine Ev.step (f := fun k => (spec_l1Hex.f k (rd h (i : Int))).bind fun t => if (digL h i).size + t.size ≤ 9223372036854775807 then spec_Digest.l0 k h (digL h i ++ t) ((i + 1 : Nat) : Int) else none) (fun k => ?_) (Ev.bind (spec_hex _ (hr.at _)) ?_)
    · simp only [spec_Digest.l0]
      rw [if_pos (by omega), if_pos (by omega), if_pos (by omega), wrap_nat i (by omega)]
    · simp only [if_pos (show (digL h i).size + (hexM (rd h (i : Int))).size ≤ 9223372036854775807 by rw [digL_size, hexM_size]; omega)]
      exact hh
  · simp only [spec_Digest.l0]; rw [if_neg (by omega)]
theorem spec_has (l : List ByteArray) (x : ByteArray) (hl : l.length ≤ 2097152) : Ev (fun k => spec_l1Has.f k l x) (decide (x ∈ l)) := by
  unfold spec_l1Has.f
  have key : ∀ d i : Nat, i + d = l.length → Ev (fun k => spec_l1Has.l0 k l x (i : Int)) (decide (x ∈ l.drop i)) := by
    intro d
    induction d with
    | zero =>
      intro i hi
      rw [List.drop_eq_nil_of_le (by omega)]
      exact Ev.step (f := fun _ => some (decide (x ∈ ([] : List ByteArray)))) (fun k => by simp only [spec_l1Has.l0]; rw [if_neg (by omega)]; simp) (Ev.now _)
    | succ d ih =>
      intro i hi
      have hlt : i < l.length := by omega
      rw [List.drop_eq_getElem_cons hlt]
      by_cases h : l[i] = x
      · rw [decide_eq_true (by rw [h]; exact List.mem_cons_self)]
        exact Ev.step (f := fun _ => some true) (fun k => by simp only [spec_l1Has.l0]; rw [if_pos (by omega), if_pos (by omega), rdS l i hlt, if_pos (by rw [h])]) (Ev.now _)
      · have : decide (x ∈ l[i] :: l.drop (i + 1)) = decide (x ∈ l.drop (i + 1)) := by
          rw [decide_eq_decide, List.mem_cons]
          exact ⟨fun hh => hh.resolve_left (fun e => h e.symm), .inr⟩
        rw [this]
        exact Ev.step (fun k => by simp only [spec_l1Has.l0]; rw [if_pos (by omega), if_pos (by omega), rdS l i hlt, if_neg (fun e => h ((same_is _ _).1 e)), wrap_nat i (by omega)]) (ih (i + 1) (by omega))
  exact key l.length 0 (by omega)
theorem spec_sift (l : List ByteArray) (out : List ByteArray) (i : Nat) (hi : i < l.length) (hl : l.length ≤ 2097152) (ho : out.length ≤ 2097152) (hr : Rising out) (hx : ¬ l[i] ∈ out) {r : List ByteArray}
    (hend : Ev (fun k => spec_l1Rising.l0 k l (insM out l[i]) ((i + 1 : Nat) : Int)) r) (j : Nat) : ∀ acc : List ByteArray, j ≤ out.length → acc.length = out.length + 1 → acc.take j = out.take j → acc.drop (j + 1) = out.drop j → (∀ (q : Nat) (h : q < out.length), j ≤ q → ¬ less out[q] l[i] = true) →
    Ev (fun k => spec_l1Rising.l1 k l acc (i : Int) (j : Int)) r := by
  have fin : ∀ (j : Nat) (acc : List ByteArray), j ≤ out.length → acc.length = out.length + 1 → acc.take j = out.take j → acc.drop (j + 1) = out.drop j → PlaceS out l[i] j → acc.set j l[i] = insM out l[i] := by
    intro j acc h1 h2 h3 h4 h5
    rw [insM_at hr hx h5, List.set_eq_take_append_cons_drop, if_pos (by omega), h3, h4]
  induction j with
  | zero =>
    intro acc h1 h2 h3 h4 h5
    have hpl : PlaceS out l[i] 0 := ⟨Nat.zero_le _, fun q h h0 => absurd h0 (by omega), fun q h _ => h5 q h (Nat.zero_le _)⟩
    refine Ev.step (fun k => ?_) hend
    simp only [spec_l1Rising.l1]
    rw [if_neg (by omega), if_pos (by omega), if_pos (by omega), if_pos (by omega), if_pos (by omega), rdS l i hi, wrap_nat i (by omega), Int.toNat_natCast, fin 0 acc h1 h2 h3 h4 hpl]
  | succ j ih =>
    intro acc h1 h2 h3 h4 h5
    have hj : j < out.length := by omega
    have hacc : acc[j]? = some out[j] := by
      have e1 : (acc.take (j + 1))[j]? = acc[j]? := List.getElem?_take_of_lt (by omega)
      have e2 : (out.take (j + 1))[j]? = out[j]? := List.getElem?_take_of_lt (by omega)
      rw [← e1, h3, e2, List.getElem?_eq_getElem hj]
    have haj : acc[j]'(by omega) = out[j] := by
      have := List.getElem?_eq_getElem (l := acc) (i := j) (by omega)
      rw [hacc] at this; exact (Option.some.inj this).symm
    have hw : wrap64 (((j + 1 : Nat) : Int) - 1) = (j : Int) := by unfold wrap64; omega
    cases hc : less l[i] out[j] with
    | true =>
      have hn : ¬ less out[j] l[i] = true := fun h => less_irrefl _ (less_trans h hc)
      refine Ev.step (fun k => ?_) (ih (acc.set (j + 1) out[j]) (by omega) (by rw [List.length_set]; exact h2) ?_ ?_ ?_)
      · simp only [spec_l1Rising.l1]
        rw [if_pos (by omega), hw, if_pos (by omega), if_pos (by omega), if_pos (by omega), if_pos (by omega), rdS l i hi, rdS acc j (by omega), haj, if_pos (show Op.bytesLess l[i].toList out[j].toList = true from hc), if_pos (by omega), if_pos (by omega), Int.toNat_natCast]
      · rw [List.take_set_of_le (by omega)]
        have := congrArg (List.take j) h3
        rwa [List.take_take, List.take_take, Nat.min_eq_left (by omega)] at this
      · rw [List.drop_set]
        simp only [Nat.lt_irrefl, if_false, Nat.sub_self]
        rw [List.drop_eq_getElem_cons (show j + 1 < acc.length by omega), List.set_cons_zero, h4, ← List.drop_eq_getElem_cons hj]
      · intro q hq hge
        rcases Nat.lt_or_ge j q with h | h
        · exact h5 q hq (by omega)
        · obtain rfl : q = j := by omega
          exact hn
    | false =>
      have hlt : less out[j] l[i] = true := by
        cases h : less out[j] l[i] with
        | true => rfl
        | false => exact absurd (less_total (by rw [hc]; decide) (by rw [h]; decide) ▸ List.getElem_mem hj) hx
      have hpl : PlaceS out l[i] (j + 1) := ⟨h1, fun q h hq => by
        rcases Nat.lt_or_ge q j with h' | h'
        · exact less_trans (hr q j h hj h') hlt
        · obtain rfl : q = j := by omega
          exact hlt, h5⟩
      refine Ev.step (fun k => ?_) hend
      simp only [spec_l1Rising.l1]
      rw [if_pos (by omega), hw, if_pos (by omega), if_pos (by omega), if_pos (by omega), if_pos (by omega), rdS l i hi, rdS acc j (by omega), haj, if_neg (show ¬ Op.bytesLess l[i].toList out[j].toList = true by rw [show Op.bytesLess l[i].toList out[j].toList = false from hc]; decide), if_pos (by omega), if_pos (by omega), wrap_nat i (by omega), Int.toNat_natCast, fin (j + 1) acc h1 h2 h3 h4 hpl]
theorem spec_rising (l : List ByteArray) (hl : l.length ≤ 2097152) : Ev (fun k => spec_l1Rising.f k l) (riseM l) := by
  unfold spec_l1Rising.f
  have hst : ∀ i : Nat, Rising (riseM (l.take i)) ∧ (riseM (l.take i)).length ≤ i := fun i => by
    have := riseM_fold (l.take i) [] rising_nil
    rw [List.length_take, List.length_nil] at this
    exact ⟨this.1, by unfold riseM; omega⟩
  refine fold_loop (n := l.length) (F := fun k acc i => spec_l1Rising.l0 k l acc i) (st := fun i => riseM (l.take i)) (fun i hi hr => ?_) (Ev.step (f := fun _ => some (riseM l)) (fun k => ?_) (Ev.now _))
  · obtain ⟨h1, h2⟩ := hst i
    rw [riseM_take_succ l i hi] at hr
    generalize riseM (l.take i) = out at h1 h2 hr
    refine Ev.step (f := fun k => (spec_l1Has.f k out l[i]).bind fun t => if t = true then spec_l1Rising.l0 k l out ((i + 1 : Nat) : Int) else spec_l1Rising.l1 k l (out ++ [l[i]]) (i : Int) (out.length : Int)) (fun k => ?_) (Ev.bind (spec_has out _ (by omega)) ?_)
    · simp only [spec_l1Rising.l0]
      rw [if_pos (by omega), if_pos (by omega), rdS l i hi, wrap_nat i (by omega), if_pos (by omega)]
    · by_cases hx : l[i] ∈ out
      · simp only [decide_eq_true hx, if_true]
        rwa [insM, if_pos hx] at hr
      · simp only [decide_eq_false hx, Bool.false_eq_true, if_false]
        exact spec_sift l out i hi hl (by omega) h1 hx hr out.length (out ++ [l[i]]) (Nat.le_refl _) (by simp) (by simp) (by simp) (fun q h hge => absurd h (by omega))
  · simp only [spec_l1Rising.l0]; rw [if_neg (by omega), List.take_length]
section
variable {l : List Int} (hb : ∀ x ∈ l, (Lit.int .u8 x).wf = true) (hm : l.length ≤ 140737488351232)
include hb in
theorem rd_u8 (i : Int) : 0 ≤ rd l i ∧ rd l i ≤ 255 := by
  unfold rd
  rw [List.getD_eq_getElem?_getD]
  by_cases h : i.toNat < l.length
  · rw [List.getElem?_eq_getElem h]; exact wf_u8 (hb _ (List.getElem_mem h))
  · rw [List.getElem?_eq_none (by omega)]; simp
include hb hm in
theorem next_ok (p : Int) (h0 : 0 ≤ p) (h1 : p ≤ l.length) : ∃ c q, spec_l1Rd_next.f l p = some (c, q) ∧ 0 ≤ c ∧ c ≤ 255 ∧ 0 ≤ q ∧ q ≤ l.length := by
  unfold spec_l1Rd_next.f
  by_cases h : p ≥ (l.length : Int)
  · exact ⟨0, p, by rw [if_pos h], by omega, by omega, h0, h1⟩
  · have e1 : wrap64 (p + 1) = p + 1 := by unfold wrap64; omega
    have e2 : wrap64 (p + 1 - 1) = p := by unfold wrap64; omega
    obtain ⟨r0, r1⟩ := rd_u8 hb p
    have e3 : wrap64 (rd l p) = rd l p := by unfold wrap64; omega
    exact ⟨rd l p, p + 1, by rw [if_neg h, e1, e2, if_pos h0, if_pos (by omega), e3], r0, r1, by omega, by omega⟩
include hb hm in
theorem below_ok (p n : Int) (h0 : 0 ≤ p) (h1 : p ≤ l.length) (n0 : 1 ≤ n) (n1 : n ≤ 1000000) : ∃ c q, spec_l1Rd_below.f l p n = some (c, q) ∧ 0 ≤ c ∧ c < n ∧ 0 ≤ q ∧ q ≤ l.length := by
  unfold spec_l1Rd_below.f
  by_cases h : n ≤ 1
  · exact ⟨0, p, by rw [if_pos h], by omega, by omega, h0, h1⟩
  · rw [if_neg h]
    obtain ⟨c, q, hc, c0, c1, q0, q1⟩ := next_ok hb hm p h0 h1
    by_cases h2 : n ≤ 256
    · refine ⟨c % n, q, ?_, Int.emod_nonneg _ (by omega), Int.emod_lt_of_pos _ (by omega), q0, q1⟩
      rw [if_pos h2, hc]; simp only [Option.bind_some]; rw [if_neg (by omega), Int.tmod_eq_emod_of_nonneg c0]
    · obtain ⟨d, q', hd, d0, d1, q0', q1'⟩ := next_ok hb hm q q0 q1
      have e : wrap64 (wrap64 (c * 256) + d) = c * 256 + d := by unfold wrap64; omega
      refine ⟨(c * 256 + d) % n, q', ?_, Int.emod_nonneg _ (by omega), Int.emod_lt_of_pos _ (by omega), q0', q1'⟩
      rw [if_neg h2, hc]; simp only [Option.bind_some]; rw [hd]; simp only [Option.bind_some]; rw [if_neg (by omega), e, Int.tmod_eq_emod_of_nonneg (by omega)]
include hb hm in
theorem once_ok (p n : Int) (h0 : 0 ≤ p) (h1 : p ≤ l.length) (n0 : 1 ≤ n) (n1 : n ≤ 1000000) : ∃ b q, spec_l1Rd_once.f l p n = some (b, q) ∧ 0 ≤ q ∧ q ≤ l.length := by
  unfold spec_l1Rd_once.f
  obtain ⟨c, q, hc, c0, c1, q0, q1⟩ := below_ok hb hm p n h0 h1 n0 n1
  exact ⟨_, q, by rw [hc]; rfl, q0, q1⟩
include hb hm in
theorem data_ok (p : Int) (h0 : 0 ≤ p) (h1 : p ≤ l.length) : ∃ (s : ByteArray) (q : Int), spec_l1Rd_data.f l p = some (s, q) ∧ s.size ≤ 6 ∧ 0 ≤ q ∧ q ≤ l.length := by
  unfold spec_l1Rd_data.f
  obtain ⟨c, q, hc, c0, c1, q0, q1⟩ := below_ok hb hm p 8 h0 h1 (by omega) (by omega)
  simp only [Option.bind_some, hc]
  rw [if_pos c0, if_pos (by simp only [List.length_cons, List.length_nil]; omega)]
  refine ⟨_, q, rfl, ?_, q0, q1⟩
  have : c = 0 ∨ c = 1 ∨ c = 2 ∨ c = 3 ∨ c = 4 ∨ c = 5 ∨ c = 6 ∨ c = 7 := by omega
  rcases this with rfl | rfl | rfl | rfl | rfl | rfl | rfl | rfl <;> decide
/-- Texts of at most 100 bytes. -/
def Small (xs : List ByteArray) : Prop := ∀ x ∈ xs, x.size ≤ 100
theorem Small.app {xs : List ByteArray} (h : Small xs) {x : ByteArray} (hx : x.size ≤ 100) : Small (xs ++ [x]) := fun y hy => by
  rcases List.mem_append.1 hy with hy | hy
  · exact h y hy
  · rw [List.mem_singleton.1 hy]; exact hx
theorem Small.rise {xs : List ByteArray} (h : Small xs) : Small (riseM xs) := fun y hy => h y (riseM_mem hy)
theorem Small.at {xs : List ByteArray} (h : Small xs) (i : Int) : (rdOf ByteArray.empty xs i).size ≤ 100 := by
  unfold rdOf
  rw [List.getD_eq_getElem?_getD]
  cases hx : xs[i.toNat]? with
  | none => exact Nat.zero_le _
  | some x => exact h x (List.mem_of_getElem? hx)
def eightT : List ByteArray := [⟨#[97]⟩, ⟨#[98]⟩, ⟨#[99]⟩, ⟨#[100]⟩, ⟨#[101]⟩, ⟨#[102]⟩, ⟨#[103]⟩, ⟨#[104]⟩]
theorem eight_small (i : Int) : (rdOf ByteArray.empty eightT i).size ≤ 1 := by
  unfold rdOf
  rw [List.getD_eq_getElem?_getD]
  cases hx : eightT[i.toNat]? with
  | none => exact Nat.zero_le _
  | some x =>
    have := List.mem_of_getElem? hx
    simp only [eightT, List.mem_cons, List.not_mem_nil, or_false] at this
    rcases this with rfl | rfl | rfl | rfl | rfl | rfl | rfl | rfl <;> exact Nat.le_refl 1
theorem last_at (xs : List ByteArray) (x : ByteArray) (h : xs.length < 1000000) : rdOf ByteArray.empty (xs ++ [x]) (wrap64 (((xs ++ [x]).length : Int) - 1)) = x := by
  have e : wrap64 (((xs ++ [x]).length : Int) - 1) = (xs.length : Int) := by rw [List.length_append, List.length_singleton]; unfold wrap64; omega
  rw [e, rdS _ xs.length (by simp)]; simp
include hb hm in
theorem set_loop (d : Nat) : ∀ (n p : Int) (acc : List ByteArray), n.toNat ≤ d → n ≤ 6 → acc.length + 2 * n.toNat ≤ 100 → Small acc → 0 ≤ p → p ≤ l.length → ∃ (ys : List ByteArray) (q : Int), Ev (fun k => spec_l1Rd_set.l0 k acc n l p) (ys, q) ∧ ys.length ≤ 100 ∧ Small ys ∧ 0 ≤ q ∧ q ≤ l.length := by
  induction d with
  | zero =>
    intro n p acc hn h6 hl hs h0 h1
    refine ⟨riseM acc, p, Ev.step (f := fun k => (spec_l1Rising.f k acc).bind fun t => some (t, p)) (fun k => ?_) (Ev.bind (spec_rising acc (by omega)) (Ev.now _)), by have := riseM_len acc; omega, hs.rise, h0, h1⟩
    simp only [spec_l1Rd_set.l0]; rw [if_neg (by omega)]
  | succ d ih =>
    intro n p acc hn h6 hl hs h0 h1
    by_cases hz : n > 0
    case neg =>
      refine ⟨riseM acc, p, Ev.step (f := fun k => (spec_l1Rising.f k acc).bind fun t => some (t, p)) (fun k => ?_) (Ev.bind (spec_rising acc (by omega)) (Ev.now _)), by have := riseM_len acc; omega, hs.rise, h0, h1⟩
      simp only [spec_l1Rd_set.l0]; rw [if_neg (by omega)]
    obtain ⟨c, q1, hc, c0, c1, q10, q11⟩ := below_ok hb hm p 8 h0 h1 (by omega) (by omega)
    have hsz := eight_small c
    obtain ⟨D, hD⟩ : ∃ D, D = digestM (rdOf ByteArray.empty eightT c) := ⟨_, rfl⟩
    have hDs : D.size = 71 := by rw [hD]; exact digestM_size _
    obtain ⟨b, q2, ho, q20, q21⟩ := once_ok hb hm q1 4 q10 q11 (by omega) (by omega)
    have hw : wrap64 (n - 1) = n - 1 := by unfold wrap64; omega
    have hlast := last_at acc D (by omega)
    have happ : (acc ++ [D]).length = acc.length + 1 := by simp
    have hw1 : wrap64 (((acc ++ [D]).length : Int) - 1) = (acc.length : Int) := by rw [happ]; unfold wrap64; omega
    -- how it goes on
    have go : ∀ {r : List ByteArray × Int}, Ev (fun k => if b = true then ((spec_l1Rd_below.f l q2 16).bind fun bt333 => (if 0 ≤ bt333.1 then (if bt333.1 ≤ 16 then (if 0 ≤ 1 then (if 1 ≤ ((hexD.extract (bt333.1 : Int).toNat hexD.size).size : Int) then (if (D.extract 0 70).size + ((hexD.extract (bt333.1 : Int).toNat hexD.size).extract 0 1).size ≤ 9223372036854775807 then (if (acc ++ [D]).length < 8796093022208 then (spec_l1Rd_set.l0 k ((acc ++ [D]) ++ [(D.extract 0 70) ++ ((hexD.extract (bt333.1 : Int).toNat hexD.size).extract 0 1)]) (n - 1) l bt333.2) else (none)) else (none)) else (none)) else (none)) else (none)) else (none))) else spec_l1Rd_set.l0 k (acc ++ [D]) (n - 1) l q2) r → Ev (fun k => spec_l1Rd_set.l0 k acc n l p) r := by
      intro r h
      refine Ev.step (f := fun k => (spec_Digest.f k (rdOf ByteArray.empty eightT c)).bind fun t326 => (if acc.length < 8796093022208 then ((some (acc ++ [t326] : List ByteArray)).bind fun y327 => ((spec_l1Rd_once.f l q1 4).bind fun bt330 => (if bt330.1 = true then (if 0 ≤ (wrap64 ((y327.length : Int) - 1)) then (if (wrap64 ((y327.length : Int) - 1)) < (y327.length : Int) then (if 0 ≤ 70 then (if 70 ≤ ((rdOf ByteArray.empty y327 (wrap64 ((y327.length : Int) - 1))).size : Int) then ((spec_l1Rd_below.f l bt330.2 16).bind fun bt333 => (if 0 ≤ bt333.1 then (if bt333.1 ≤ 16 then (if 0 ≤ 1 then (if 1 ≤ ((hexD.extract (bt333.1 : Int).toNat hexD.size).size : Int) then (if ((rdOf ByteArray.empty y327 (wrap64 ((y327.length : Int) - 1))).extract 0 70).size + ((hexD.extract (bt333.1 : Int).toNat hexD.size).extract 0 1).size ≤ 9223372036854775807 then (if y327.length < 8796093022208 then (spec_l1Rd_set.l0 k (y327 ++ [((rdOf ByteArray.empty y327 (wrap64 ((y327.length : Int) - 1))).extract 0 70) ++ ((hexD.extract (bt333.1 : Int).toNat hexD.size).extract 0 1)]) (wrap64 (n - 1)) l bt333.2) else (none)) else (none)) else (none)) else (none)) else (none)) else (none))) else (none)) else (none)) else (none)) else (none)) else (spec_l1Rd_set.l0 k y327 (wrap64 (n - 1)) l bt330.2)))) else (none))) (fun k => ?_) (Ev.bind (spec_digest _ (by omega)) ?_)
      · simp only [spec_l1Rd_set.l0]
        rw [if_pos hz, bindS, hc, bindS, if_pos c0, if_pos (by simp only [List.length_cons, List.length_nil]; omega)]
        rfl
      · rw [← hD]
        simp only [if_pos (show acc.length < 8796093022208 by omega), bindS, ho, hlast, hw, hw1, if_pos (show (0 : Int) ≤ (acc.length : Int) by omega), if_pos (show (acc.length : Int) < ((acc ++ [D]).length : Int) by omega), if_pos (show (0 : Nat) ≤ 70 by omega), if_pos (show (70 : Int) ≤ (D.size : Int) by omega)]
        have hl2 : rdOf ByteArray.empty (acc ++ [D]) (acc.length : Int) = D := by rw [← hw1]; exact hlast
        simp only [hl2, if_pos (show (70 : Int) ≤ (D.size : Int) by omega)]
        exact h
    cases b with
    | false =>
      obtain ⟨ys, q, he, h2, h3, h4, h5⟩ := ih (n - 1) q2 (acc ++ [D]) (by omega) (by omega) (by rw [happ]; omega) (hs.app (by omega)) q20 q21
      exact ⟨ys, q, go (by simp only [Bool.false_eq_true, if_false]; exact he), h2, h3, h4, h5⟩
    | true =>
      obtain ⟨e, q3, he16, e0, e1, q30, q31⟩ := below_ok hb hm q2 16 q20 q21 (by omega) (by omega)
      have hx1 : (hexD.extract e.toNat hexD.size).size = 16 - e.toNat := by rw [ByteArray.size_extract]; show min 16 16 - e.toNat = _; omega
      have hx2 : ((hexD.extract e.toNat hexD.size).extract 0 1).size ≤ 1 := by rw [ByteArray.size_extract]; omega
      have hx3 : (D.extract 0 70).size ≤ 70 := by rw [ByteArray.size_extract]; omega
      obtain ⟨ys, q, he, h2, h3, h4, h5⟩ := ih (n - 1) q3 ((acc ++ [D]) ++ [(D.extract 0 70) ++ ((hexD.extract e.toNat hexD.size).extract 0 1)]) (by omega) (by omega) (by rw [List.length_append, happ, List.length_singleton]; omega) ((hs.app (by omega)).app (by rw [ByteArray.size_append]; omega)) q30 q31
      refine ⟨ys, q, go ?_, h2, h3, h4, h5⟩
      simp only [if_true, he16, bindS, if_pos e0, if_pos (show e ≤ 16 by omega), if_pos (show (0 : Nat) ≤ 1 by omega), if_pos (show (1 : Int) ≤ ((hexD.extract e.toNat hexD.size).size : Int) by omega), if_pos (show (D.extract 0 70).size + ((hexD.extract e.toNat hexD.size).extract 0 1).size ≤ 9223372036854775807 by omega), if_pos (show (acc ++ [D]).length < 8796093022208 by omega)]
      exact he
include hb hm in
theorem set_ok (p : Int) (h0 : 0 ≤ p) (h1 : p ≤ l.length) : ∃ (ys : List ByteArray) (q : Int), Ev (fun k => spec_l1Rd_set.f k l p) (ys, q) ∧ ys.length ≤ 100 ∧ Small ys ∧ 0 ≤ q ∧ q ≤ l.length := by
  unfold spec_l1Rd_set.f
  have e : 1 ≤ mn 6 (wrap64 (1 + wrap64 ((l.length : Int) / 3))) ∧ mn 6 (wrap64 (1 + wrap64 ((l.length : Int) / 3))) ≤ 6 := by
    have : wrap64 (1 + wrap64 ((l.length : Int) / 3)) = 1 + (l.length : Int) / 3 := by unfold wrap64; omega
    rw [this]; unfold mn; omega
  obtain ⟨c, q, hc, c0, c1, q0, q1⟩ := below_ok hb hm p _ h0 h1 e.1 (by omega)
  obtain ⟨ys, q', he, h⟩ := set_loop hb hm 6 c q [] (by omega) (by omega) (by simp; omega) (fun x hx => by cases hx) q0 q1
  refine ⟨ys, q', ?_, h⟩
  rw [hc]
  simp only [bindS]; exact he
include hb hm in
theorem oddSet_ok (p : Int) (h0 : 0 ≤ p) (h1 : p ≤ l.length) : ∃ (ys : List ByteArray) (q : Int), Ev (fun k => spec_l1Rd_oddSet.f k l p) (ys, q) ∧ ys.length ≤ 200 ∧ Small ys ∧ 0 ≤ q ∧ q ≤ l.length := by
  unfold spec_l1Rd_oddSet.f
  obtain ⟨ys, q, he, hl, hs, q0, q1⟩ := set_ok hb hm p h0 h1
  obtain ⟨c, q', hc, c0, c1, q0', q1'⟩ := below_ok hb hm q 24 q0 q1 (by omega) (by omega)
  by_cases hz : c = 0
  · refine ⟨ys ++ [⟨#[115, 104, 97, 50, 53, 54, 58]⟩], q', Ev.bind he ?_, by simp; omega, hs.app (by decide), q0', q1'⟩
    simp only [hc, bindS, if_pos hz, if_pos (show ys.length < 8796093022208 by omega)]; exact Ev.now _
  · by_cases h1' : c = 1
    · refine ⟨ys ++ ys, q', Ev.bind he ?_, by simp; omega, fun x hx => hs x ((List.mem_append.1 hx).elim id id), q0', q1'⟩
      simp only [hc, bindS, if_neg hz, if_pos h1', if_pos (show ys.length + ys.length < 8796093022208 by omega)]; exact Ev.now _
    · refine ⟨ys, q', Ev.bind he ?_, by omega, hs, q0', q1'⟩
      simp only [hc, bindS, if_neg hz, if_neg h1']; exact Ev.now _
theorem dec_loop (d : Nat) : ∀ (n : Int) (acc : ByteArray), 0 ≤ n → n.toNat ≤ d → acc.size + d ≤ 1000 → ∃ t, Ev (fun k => spec_l1Dec.l0 k n acc) t ∧ t.size ≤ 1000 := by
  induction d with
  | zero =>
    intro n acc h0 h1 hs
    exact ⟨acc, Ev.step (f := fun _ => some acc) (fun k => by simp only [spec_l1Dec.l0]; rw [if_neg (by omega)]) (Ev.now _), by omega⟩
  | succ d ih =>
    intro n acc h0 h1 hs
    by_cases hz : n > 0
    · have e1 : wrap64 (Int.tdiv n 10) = n / 10 := by rw [Int.tdiv_eq_ediv_of_nonneg h0]; unfold wrap64; omega
      have sz : (strOfNums [wrap64 (48 + Int.tmod n 10) % 256]).size = 1 := by rw [size_strOfNums]; rfl
      obtain ⟨t, ht, hts⟩ := ih (n / 10) (strOfNums [wrap64 (48 + Int.tmod n 10) % 256] ++ acc) (by omega) (by omega) (by rw [ByteArray.size_append, sz]; omega)
      refine ⟨t, Ev.step (fun k => ?_) ht, hts⟩
      simp only [spec_l1Dec.l0]; rw [if_pos hz, bindS, if_pos (by rw [sz]; omega), e1]
    · exact ⟨acc, Ev.step (f := fun _ => some acc) (fun k => by simp only [spec_l1Dec.l0]; rw [if_neg hz]) (Ev.now _), by omega⟩
theorem dec_ok (n : Int) (h0 : 0 ≤ n) (h1 : n ≤ 999) : ∃ t, Ev (fun k => spec_l1Dec.f k n) t ∧ t.size ≤ 1000 := by
  unfold spec_l1Dec.f
  by_cases hz : n = 0
  · exact ⟨_, by simp only [if_pos hz]; exact Ev.now _, by decide⟩
  · obtain ⟨t, ht, hs⟩ := dec_loop n.toNat n ⟨#[]⟩ h0 (Nat.le_refl _) (by show 0 + n.toNat ≤ _; omega)
    exact ⟨t, by simp only [if_neg hz]; exact ht, hs⟩
include hb hm in
theorem drawDig_ok (p : Int) (h0 : 0 ≤ p) (h1 : p ≤ l.length) : ∃ (s : ByteArray) (q : Int), Ev (fun k => spec_l1Rd_digest.f k l p) (s, q) ∧ s.size = 71 ∧ 0 ≤ q ∧ q ≤ l.length := by
  unfold spec_l1Rd_digest.f
  obtain ⟨s, q, hd, hs, q0, q1⟩ := data_ok hb hm p h0 h1
  refine ⟨digestM s, q, ?_, digestM_size s, q0, q1⟩
  rw [hd]
  simp only [bindS]
  exact Ev.bind (spec_digest s (by omega)) (Ev.now _)
include hb hm in
theorem oddDig_ok (p : Int) (h0 : 0 ≤ p) (h1 : p ≤ l.length) : ∃ (s : ByteArray) (q : Int), Ev (fun k => spec_l1Rd_oddDigest.f k l p) (s, q) ∧ s.size ≤ 100 ∧ 0 ≤ q ∧ q ≤ l.length := by
  unfold spec_l1Rd_oddDigest.f
  obtain ⟨D, q, hd, hs, q0, q1⟩ := drawDig_ok hb hm p h0 h1
  obtain ⟨c, q', hc, c0, c1, q0', q1'⟩ := below_ok hb hm q 16 q0 q1 (by omega) (by omega)
  by_cases z0 : c = 0
  · obtain ⟨e, q2, he, e0, e1, q20, q21⟩ := below_ok hb hm q' (D.size : Int) q0' q1' (by omega) (by omega)
    have hw : wrap64 (e + 1) = e + 1 := by unfold wrap64; omega
    have x1 : (D.extract 0 e.toNat).size ≤ 71 := by rw [ByteArray.size_extract]; omega
    have x2 : (D.extract (e + 1).toNat D.size).size ≤ 71 - (e + 1).toNat := by rw [ByteArray.size_extract]; omega
    have x1' : (D.extract 0 e.toNat).size ≤ e.toNat := by rw [ByteArray.size_extract]; omega
    refine ⟨(D.extract 0 e.toNat ++ (⟨#[103]⟩ : ByteArray)) ++ D.extract (e + 1).toNat D.size, q2, Ev.bind hd ?_, ?_, q20, q21⟩
    · simp only [hc, bindS, if_pos z0, he, if_pos e0, if_pos (show e ≤ (D.size : Int) by omega), if_pos (show (D.extract 0 e.toNat).size + 1 ≤ 9223372036854775807 by omega), hw, if_pos (show 0 ≤ e + 1 by omega), if_pos (show e + 1 ≤ (D.size : Int) by omega), if_pos (show (D.extract 0 e.toNat).size + 1 + (D.extract (e + 1).toNat D.size).size ≤ 9223372036854775807 by omega)]
      exact Ev.now _
    · rw [ByteArray.size_append, ByteArray.size_append, show (⟨#[103]⟩ : ByteArray).size = 1 from rfl]; omega
  · by_cases z1 : c = 1
    · obtain ⟨e, q2, he, e0, e1, q20, q21⟩ := below_ok hb hm q' (D.size : Int) q0' q1' (by omega) (by omega)
      refine ⟨D.extract 0 e.toNat, q2, Ev.bind hd ?_, by rw [ByteArray.size_extract]; omega, q20, q21⟩
      simp only [hc, bindS, if_neg z0, if_pos z1, he, if_pos e0, if_pos (show e ≤ (D.size : Int) by omega)]
      exact Ev.now _
    · by_cases z2 : c = 2
      · refine ⟨D ++ (⟨#[48]⟩ : ByteArray), q', Ev.bind hd ?_, by rw [ByteArray.size_append, show (⟨#[48]⟩ : ByteArray).size = 1 from rfl]; omega, q0', q1'⟩
        simp only [hc, bindS, if_neg z0, if_neg z1, if_pos z2, if_pos (show D.size + 1 ≤ 9223372036854775807 by omega)]
        exact Ev.now _
      · by_cases z3 : c = 3
        · have x6 : (D.extract 6 D.size).size = 65 := by rw [ByteArray.size_extract]; omega
          refine ⟨(⟨#[83, 72, 65, 50, 53, 54]⟩ : ByteArray) ++ D.extract 6 D.size, q', Ev.bind hd ?_, by rw [ByteArray.size_append, x6]; decide, q0', q1'⟩
          simp only [hc, bindS, if_neg z0, if_neg z1, if_neg z2, if_pos z3, if_pos (show (6 : Int) ≤ (D.size : Int) by omega), if_pos (show 6 + (D.extract 6 D.size).size ≤ 9223372036854775807 by omega)]
          exact Ev.now _
        · refine ⟨D, q', Ev.bind hd ?_, by omega, q0', q1'⟩
          simp only [hc, bindS, if_neg z0, if_neg z1, if_neg z2, if_neg z3]
          exact Ev.now _
include hb hm in
theorem addTo_j2 (xs : List ByteArray) (hs : Small xs) (hl : xs.length ≤ 1000) (b : Bool) (hb' : b = true → 0 < xs.length) (p : Int) (h0 : 0 ≤ p) (h1 : p ≤ l.length) : ∃ d : ByteArray, Ev (fun k => spec_DrawAddTo.j2 k xs b l p) (xs, d) ∧ d.size ≤ 100 := by
  cases b with
  | true =>
    have := hb' rfl
    obtain ⟨c, q, hc, c0, c1, q0, q1⟩ := below_ok hb hm p (xs.length : Int) h0 h1 (by omega) (by omega)
    refine ⟨rdOf ByteArray.empty xs c, Ev.step (f := fun _ => some (xs, rdOf ByteArray.empty xs c)) (fun k => ?_) (Ev.now _), hs.at c⟩
    simp only [spec_DrawAddTo.j2, if_true, hc, bindS]; rw [if_pos c0, if_pos c1]
  | false =>
    obtain ⟨d, q, hd, hs', q0, q1⟩ := oddDig_ok hb hm p h0 h1
    refine ⟨d, Ev.step (f := fun k => (spec_l1Rd_oddDigest.f k l p).bind fun bt => some (xs, bt.1)) (fun k => ?_) (Ev.bind hd (Ev.now _)), hs'⟩
    simp only [spec_DrawAddTo.j2, Bool.false_eq_true, if_false]
include hb hm in
theorem addTo_j1 (xs : List ByteArray) (hs : Small xs) (hl : xs.length ≤ 1000) (p : Int) (h0 : 0 ≤ p) (h1 : p ≤ l.length) : ∃ d : ByteArray, Ev (fun k => spec_DrawAddTo.j1 k xs l p) (xs, d) ∧ d.size ≤ 100 := by
  by_cases hp : (xs.length : Int) > 0
  · obtain ⟨b, q, ho, q0, q1⟩ := once_ok hb hm p 3 h0 h1 (by omega) (by omega)
    obtain ⟨d, he, hd⟩ := addTo_j2 hb hm xs hs hl b (fun _ => by omega) q q0 q1
    refine ⟨d, Ev.step (f := fun k => spec_DrawAddTo.j2 k xs b l q) (fun k => ?_) he, hd⟩
    simp only [spec_DrawAddTo.j1, if_pos hp, ho, bindS]
  · obtain ⟨d, he, hd⟩ := addTo_j2 hb hm xs hs hl false (fun h => by cases h) p h0 h1
    refine ⟨d, Ev.step (f := fun k => spec_DrawAddTo.j2 k xs false l p) (fun k => ?_) he, hd⟩
    simp only [spec_DrawAddTo.j1, if_neg hp]
include hb hm in
theorem addTo_l0 (d : Nat) : ∀ (i : Int) (xs : List ByteArray) (p : Int), 0 ≤ i → i ≤ 200 → (200 - i).toNat ≤ d → xs.length + d ≤ 900 → Small xs → 0 ≤ p → p ≤ l.length → ∃ (ys : List ByteArray) (x : ByteArray), Ev (fun k => spec_DrawAddTo.l0 k xs i l p) (ys, x) ∧ ys.length ≤ 1000 ∧ Small ys ∧ x.size ≤ 100 := by
  have stop : ∀ (i : Int) (xs : List ByteArray) (p : Int), ¬ i < 200 → xs.length ≤ 900 → Small xs → 0 ≤ p → p ≤ l.length → ∃ (ys : List ByteArray) (x : ByteArray), Ev (fun k => spec_DrawAddTo.l0 k xs i l p) (ys, x) ∧ ys.length ≤ 1000 ∧ Small ys ∧ x.size ≤ 100 := by
    intro i xs p hi hl hs h0 h1
    have hrl := riseM_len xs
    obtain ⟨x, he, hx⟩ := addTo_j1 hb hm (riseM xs) hs.rise (by omega) p h0 h1
    refine ⟨riseM xs, x, Ev.step (f := fun k => (spec_l1Rising.f k xs).bind fun t => spec_DrawAddTo.j1 k t l p) (fun k => ?_) (Ev.bind (spec_rising xs (by omega)) he), by omega, hs.rise, hx⟩
    simp only [spec_DrawAddTo.l0]; rw [if_neg hi]
  induction d with
  | zero => intro i xs p h0 h1 hd hl hs p0 p1; exact stop i xs p (by omega) (by omega) hs p0 p1
  | succ d ih =>
    intro i xs p h0 h1 hd hl hs p0 p1
    by_cases hi : i < 200
    · obtain ⟨t, ht, hts⟩ := dec_ok i h0 (by omega)
      have hz : ((⟨#[110]⟩ : ByteArray) ++ t).size ≤ 1001 := by rw [ByteArray.size_append, show (⟨#[110]⟩ : ByteArray).size = 1 from rfl]; omega
      obtain ⟨ys, x, he, h⟩ := ih (i + 1) (xs ++ [digestM ((⟨#[110]⟩ : ByteArray) ++ t)]) p (by omega) (by omega) (by omega) (by simp; omega) (hs.app (by rw [digestM_size]; omega)) p0 p1
      refine ⟨ys, x, Ev.step (f := fun k => (spec_l1Dec.f k i).bind fun t379 => (if 1 + t379.size ≤ 9223372036854775807 then ((spec_Digest.f k ((⟨#[110]⟩ : ByteArray) ++ t379)).bind fun t380 => (if xs.length < 8796093022208 then (spec_DrawAddTo.l0 k (xs ++ [t380]) (i + 1) l p) else (none))) else (none))) (fun k => ?_) (Ev.bind ht ?_), h⟩
      · simp only [spec_DrawAddTo.l0]; rw [if_pos hi, show wrap64 (i + 1) = i + 1 by unfold wrap64; omega]
      · simp only [if_pos (show 1 + t.size ≤ 9223372036854775807 by omega)]
        refine Ev.bind (spec_digest _ (by omega)) ?_
        simp only [if_pos (show xs.length < 8796093022208 by omega)]
        exact he
    · exact stop i xs p hi (by omega) hs p0 p1
include hb hm in
theorem drawAddTo_ok : ∃ (ys : List ByteArray) (x : ByteArray), Ev (fun k => spec_DrawAddTo.f k l) (ys, x) ∧ ys.length ≤ 1000 ∧ Small ys ∧ x.size ≤ 100 := by
  unfold spec_DrawAddTo.f spec_l1Open.f
  simp only [bindS]
  obtain ⟨ys, q, he, hl, hs, q0, q1⟩ := oddSet_ok hb hm 0 (by omega) (by omega)
  obtain ⟨b, q', ho, q0', q1'⟩ := once_ok hb hm q 60 q0 q1 (by omega) (by omega)
  cases b with
  | true =>
    obtain ⟨zs, x, he', h⟩ := addTo_l0 hb hm 200 0 [] q' (by omega) (by omega) (by omega) (by simp) (fun x hx => by cases hx) q0' q1'
    refine ⟨zs, x, Ev.bind he ?_, h⟩
    simp only [ho, bindS, if_true]; exact he'
  | false =>
    obtain ⟨x, he', hx⟩ := addTo_j1 hb hm ys hs (by omega) q' q0' q1'
    refine ⟨ys, x, Ev.bind he ?_, by omega, hs, hx⟩
    simp only [ho, bindS, Bool.false_eq_true, if_false]; exact he'
end
theorem l1Digit_eq (c : Int) : spec_l1Digit.f c = some (decide (48 ≤ c ∧ c ≤ 57)) := by
  unfold spec_l1Digit.f
  by_cases h1 : c ≥ 48 <;> by_cases h2 : c ≤ 57 <;> simp [h1, h2] <;> omega
theorem l1Hexit_eq (c : Int) (h0 : 0 ≤ c) (h1 : c ≤ 255) : spec_l1Hexit.f c = some (hexV c) := by
  unfold spec_l1Hexit.f
  rw [l1Digit_eq]
  simp only [Option.bind_some, decide_eq_true_eq, hexV]
  repeat' split
  all_goals first | rfl | (exfalso; omega) | (congr 1; omega)
theorem spec_dig_loop (s : ByteArray) (hs : s.size = 71) (d : Nat) : ∀ i : Nat, i + d = 71 → Ev (fun k => spec_DigestOk.l0 k s (i : Int)) (((bytesOf s).drop i).all hexB) := by
  induction d with
  | zero =>
    intro i hi
    rw [List.drop_eq_nil_of_le (by rw [bytesOf_length]; omega)]
    refine Ev.step (f := fun _ => some true) (fun k => ?_) (Ev.now _)
    simp only [spec_DigestOk.l0]; rw [if_neg (by omega)]
  | succ d ih =>
    intro i hi
    have hlt : i < s.size := by omega
    rw [drop_bytes s i hlt]
    have hb := bt_range s i
    refine Ev.step (f := fun k => if hexV (bt s i) < 0 then some false else spec_DigestOk.l0 k s ((i + 1 : Nat) : Int)) (fun k => ?_) ?_
    · simp only [spec_DigestOk.l0]; rw [if_pos (by omega), if_pos (by omega), if_pos (by omega), l1Hexit_eq _ hb.1 hb.2]; simp only [Option.bind_some]
      rw [wrap_succ i _ hlt (by omega)]
    · by_cases h : hexB (bt s i) = true
      · have hn : ¬ hexV (bt s i) < 0 := by rw [hexV_neg]; exact fun hh => hh h
        simp only [if_neg hn, List.all_cons, h, Bool.true_and]; exact ih (i + 1) (by omega)
      · have hn : hexV (bt s i) < 0 := by rw [hexV_neg]; exact h
        simp only [if_pos hn, List.all_cons, h, Bool.false_and]; exact Ev.now _
theorem spec_dig (s : ByteArray) : Ev (fun k => spec_DigestOk.f k s) (digestOk s) := by
  unfold spec_DigestOk.f digestOk
  by_cases h1 : (s.size : Int) = 71
  · have hs : s.size = 71 := by omega
    simp only [if_pos h1, show decide (s.size = 71) = true from decide_eq_true hs, Bool.true_and, show (0 : Nat) ≤ 7 by omega, show (7 : Int) ≤ (s.size : Int) by omega, if_true]
    refine Ev.step (f := fun k => if ((s.extract 0 7).toList != ([115, 104, 97, 50, 53, 54, 58] : List UInt8)) = true then some false else spec_DigestOk.l0 k s 7) (fun k => by simp only [spec_DigestOk.j0]) ?_
    cases h : ((s.extract 0 7).toList == digHead) with
    | true =>
      have h' : ((s.extract 0 7).toList != ([115, 104, 97, 50, 53, 54, 58] : List UInt8)) = false := by
        show (!((s.extract 0 7).toList == digHead)) = false; rw [h]; rfl
      simp only [h', Bool.false_eq_true, if_false, Bool.true_and]
      exact spec_dig_loop s hs 64 7 rfl
    | false =>
      have h' : ((s.extract 0 7).toList != ([115, 104, 97, 50, 53, 54, 58] : List UInt8)) = true := by
        show (!((s.extract 0 7).toList == digHead)) = true; rw [h]; rfl
      simp only [h', if_true, Bool.false_and]
      exact Ev.now _
  · have hs : ¬ s.size = 71 := by omega
    simp only [if_neg h1, hs, decide_false, Bool.false_and]
    refine Ev.step (f := fun k => some false) (fun k => by simp only [spec_DigestOk.j0, if_true]) (Ev.now _)
theorem head_size : (⟨#[115, 104, 97, 50, 53, 54, 58]⟩ : ByteArray).size = 7 := rfl
theorem head_list : (⟨#[115, 104, 97, 50, 53, 54, 58]⟩ : ByteArray).toList = digHead := toL _
theorem cutHead (s : ByteArray) : strings_CutPrefix.f s (⟨#[115, 104, 97, 50, 53, 54, 58]⟩ : ByteArray) = some (if (decide (7 ≤ s.size) && ((s.extract 0 7).toList == digHead)) = true then (s.extract 7 s.size, true) else (s, false)) := by
  unfold strings_CutPrefix.f stringslite_CutPrefix.f stringslite_HasPrefix.f
  rw [head_size, head_list]
  by_cases h : 7 ≤ s.size
  · have h2 : (s.size : Int) ≥ ((7 : Nat) : Int) := by omega
    simp only [if_pos h2, show (0 : Int) ≤ ((7 : Nat) : Int) by omega, show ((7 : Nat) : Int) ≤ (s.size : Int) from h2, if_true, Option.bind_some, h, decide_true, Bool.true_and, Int.toNat_natCast]
    cases hh : ((s.extract 0 7).toList == digHead) <;> simp
  · have h2 : ¬ (s.size : Int) ≥ ((7 : Nat) : Int) := by omega
    simp only [if_neg h2, Option.bind_some, h, decide_false, Bool.false_and, Bool.false_eq_true, if_false]
theorem trimHex (s : ByteArray) (hs : s.size ≤ 140737488351232) : ∃ t, strings_Trim.f s (⟨#[48, 49, 50, 51, 52, 53, 54, 55, 56, 57, 97, 98, 99, 100, 101, 102]⟩ : ByteArray) = some t ∧ (t.toList == ([] : List UInt8)) = (bytesOf s).all hexB := by
  unfold strings_Trim.f
  refine ⟨_, if_pos ⟨by omega, by decide, by decide⟩, ?_⟩
  rw [toL]
  show (Lib.trimS s.data.toList hexSet == []) = _
  rw [trimS_nil]
  have := all_bytes s hexB 0
  rw [List.drop_zero, List.drop_zero] at this
  rw [this]
  congr 1; funext b; exact hexSet_is b
theorem impl_dig (s : ByteArray) (hs : s.size ≤ 140737488351232) : impl_isDigest.f s = some (digestOk s) := by
  unfold impl_isDigest.f
  rw [cutHead]
  simp only [Option.bind_some]
  unfold digestOk
  by_cases h71 : s.size = 71
  · cases hh : ((s.extract 0 7).toList == digHead) with
    | true =>
      have hx : (s.extract 7 s.size).size = 64 := by rw [ByteArray.size_extract]; omega
      obtain ⟨t, ht, he⟩ := trimHex (s.extract 7 s.size) (by omega)
      rw [h71] at hx ht he ⊢
      simp only [show (7 : Nat) ≤ 71 by omega, decide_true, Bool.true_and, if_true, hx, show ((64 : Nat) : Int) = 64 from rfl, ht, Option.bind_some, he]
      rw [show (bytesOf (s.extract 7 71)) = (bytesOf s).drop 7 by
        simp only [bytesOf, extract_data, List.map_take, List.map_drop]
        rw [List.take_of_length_le]
        simp only [List.length_drop, List.length_map, Array.length_toList]
        have : s.data.size = 71 := h71
        omega]
    | false => simp
  · simp only [h71, decide_false, Bool.false_and]
    cases hh : (decide (7 ≤ s.size) && ((s.extract 0 7).toList == digHead)) with
    | true =>
      have h7 : 7 ≤ s.size := by simp only [Bool.and_eq_true, decide_eq_true_eq] at hh; exact hh.1
      have hx : ¬ ((s.extract 7 s.size).size : Int) = 64 := by rw [ByteArray.size_extract]; omega
      simp only [if_true, if_neg hx]
    | false => simp
theorem spec_rises (l : List ByteArray) (hl : l.length ≤ 2097152) : Ev (fun k => spec_l1Rises.f k l) (risesM l) := by
  unfold spec_l1Rises.f risesM
  have := all_loop (n := l.length - 1) (F := fun k z => spec_l1Rises.l0 k l (z + 1)) (p := fun i => less (atS l i) (atS l (i + 1)))
    (fun i hi r hr => by
      have e1 : wrap64 ((i : Int) + 1 - 1) = (i : Int) := by unfold wrap64; omega
      have e2 : wrap64 ((i : Int) + 1 + 1) = ((i + 1 : Nat) : Int) + 1 := by unfold wrap64; omega
      refine Ev.step (f := fun k => if less (atS l i) (atS l (i + 1)) = true then spec_l1Rises.l0 k l (((i + 1 : Nat) : Int) + 1) else some false) (fun k => ?_) ?_
      · simp only [spec_l1Rises.l0]
        rw [if_pos (by omega), if_pos (by omega), e1, e2, if_pos (by omega), if_pos (by omega), show (i : Int) + 1 = ((i + 1 : Nat) : Int) by omega, rdS l i (by omega), rdS l (i + 1) (by omega), atS_is l i (by omega), atS_is l (i + 1) (by omega)]
        rfl
      · cases less (atS l i) (atS l (i + 1)) with
        | true => simp only [if_true, Bool.true_and]; exact hr
        | false => simp only [Bool.false_eq_true, if_false, Bool.false_and]; exact Ev.now _)
    (Ev.step (f := fun _ => some true) (fun k => by simp only [spec_l1Rises.l0]; rw [if_neg (by omega)]) (Ev.now _))
  exact this
theorem spec_set (l : List ByteArray) (hl : l.length ≤ 2097152) : Ev (fun k => spec_l7Set.f k l) (setOk l) := by
  rw [setOk_is]
  unfold spec_l7Set.f
  by_cases h0 : (l.length : Int) > 200
  · simp only [if_pos h0, show decide (l.length ≤ 200) = false from decide_eq_false (by omega), Bool.false_and]
    exact Ev.step (f := fun _ => some false) (fun k => by simp only [spec_l7Set.j0, if_true]) (Ev.now _)
  · simp only [if_neg h0, show decide (l.length ≤ 200) = true from decide_eq_true (by omega), Bool.true_and]
    refine Ev.bind (spec_rises l hl) ?_
    cases hr : risesM l with
    | false =>
      simp only [Bool.not_false, Bool.false_and]
      exact Ev.step (f := fun _ => some false) (fun k => by simp only [spec_l7Set.j0, if_true]) (Ev.now _)
    | true =>
      simp only [Bool.not_true, Bool.true_and]
      refine Ev.step (f := fun k => spec_l7Set.l0 k l 0) (fun k => by simp only [spec_l7Set.j0, Bool.false_eq_true, if_false]) ?_
      exact all_loop (n := l.length) (F := fun k z => spec_l7Set.l0 k l z) (p := fun i => digestOk (atS l i))
        (fun i hi r hr => by
          refine Ev.step (f := fun k => (spec_DigestOk.f k (atS l i)).bind fun t => if t = true then spec_l7Set.l0 k l ((i + 1 : Nat) : Int) else some false) (fun k => ?_) (Ev.bind (spec_dig _) ?_)
          · simp only [spec_l7Set.l0]; rw [if_pos (by omega), if_pos (by omega), rdS l i hi, wrap_nat i (by omega), atS_is l i hi]
          · cases digestOk (atS l i) with
            | true => simp only [if_true, Bool.true_and]; exact hr
            | false => simp only [Bool.false_eq_true, if_false, Bool.false_and]; exact Ev.now _)
        (Ev.step (f := fun _ => some true) (fun k => by simp only [spec_l7Set.l0]; rw [if_neg (by omega)]) (Ev.now _))
theorem impl_set (l : List ByteArray) (hl : l.length ≤ 2097152) (hx : ∀ x ∈ l, x.size ≤ 140737488351232) : Ev (fun k => impl_isSet.f k l) (setOk l) := by
  unfold impl_isSet.f
  have key : ∀ d i : Nat, i + d = l.length → Ev (fun k => impl_isSet.l0 k l l (l.length : Int) (i : Int)) (((List.range' i d).all fun i => digestOk (atS l i) && (decide (i = 0) || less (atS l (i - 1)) (atS l i))) && decide (l.length ≤ 200)) := by
    intro d
    induction d with
    | zero =>
      intro i hi
      refine Ev.step (f := fun _ => some (decide (l.length ≤ 200))) (fun k => ?_) (Ev.now _)
      simp only [impl_isSet.l0]; rw [if_neg (by omega)]; congr 1; rw [decide_eq_decide]; omega
    | succ d ih =>
      intro i hi
      have hlt : i < l.length := by omega
      rw [List.range'_succ, List.all_cons, Bool.and_assoc]
      have hn := ih (i + 1) (by omega)
      refine Ev.step (f := fun k => if digestOk (atS l i) = true then (if i = 0 then impl_isSet.l0 k l l (l.length : Int) ((i + 1 : Nat) : Int) else if less (atS l (i - 1)) (atS l i) = true then impl_isSet.l0 k l l (l.length : Int) ((i + 1 : Nat) : Int) else some false) else some false) (fun k => ?_) ?_
      · simp only [impl_isSet.l0]
        rw [if_pos (by omega), if_pos (by omega), if_pos (by omega), rdS l i hlt, impl_dig _ (hx _ (List.getElem_mem hlt)), wrap_nat i (by omega), atS_is l i hlt, Option.bind_some]
        cases hdg : digestOk l[i] with
        | false => simp only [Bool.false_eq_true, if_false]
        | true =>
          simp only [if_true]
          by_cases h0 : i = 0
          · rw [if_neg (show ¬ ((i : Int) > 0) by omega), if_pos h0]
          · rw [if_pos (show ((i : Int) > 0) by omega), if_neg h0, show wrap64 ((i : Int) - 1) = ((i - 1 : Nat) : Int) from wrap_pred i (by omega) (by omega), if_pos (by omega), if_pos (by omega), rdS l (i - 1) (by omega), atS_is l (i - 1) (by omega)]
            rfl
      · cases digestOk (atS l i) with
        | false => simp only [Bool.false_eq_true, if_false, Bool.false_and]; exact Ev.now _
        | true =>
          by_cases h0 : i = 0
          · simp only [if_pos h0, if_true, decide_eq_true h0, Bool.true_or, Bool.true_and]; exact hn
          · simp only [if_neg h0, if_true, decide_eq_false h0, Bool.false_or, Bool.true_and]
            cases less (atS l (i - 1)) (atS l i) with
            | true => simp only [if_true, Bool.true_and]; exact hn
            | false => simp only [Bool.false_eq_true, if_false, Bool.false_and]; exact Ev.now _
  have := key l.length 0 (by omega)
  rw [← List.range_eq_range'] at this
  exact this
theorem impl_pref (p : ByteArray) (hp : p.size ≤ 140737488351232) : impl_isPrefix.f p = some (prefOk p) := by
  unfold impl_isPrefix.f prefOk
  by_cases h : (p.size : Int) ≤ 2
  · obtain ⟨t, ht, he⟩ := trimHex p hp
    rw [if_pos h, ht, decide_eq_true (show p.size ≤ 2 by omega), Bool.true_and, Option.bind_some, he]
  · rw [if_neg h, decide_eq_false (show ¬ p.size ≤ 2 by omega), Bool.false_and]
theorem impl_under_ (l : List ByteArray) (p : ByteArray) (hl : l.length ≤ 2097152) (hd : ∀ d ∈ l, digestOk d = true) (hp : p.size ≤ 2) : Ev (fun k => impl_under.f k l p) (underM l p) := by
  unfold impl_under.f underM
  refine fold_loop (n := l.length) (F := fun k acc i => impl_under.l0 k p acc l (l.length : Int) i) (st := fun i => (l.take i).filter (startsB p)) (fun i hi hr => ?_) (Ev.step (f := fun _ => some (l.filter (startsB p))) (fun k => ?_) (Ev.now _))
  · refine Ev.step (fun k => ?_) hr
    have hds := hd _ (List.getElem_mem hi)
    have hdz := digestOk_size hds
    have hfl : ((l.take i).filter (startsB p)).length ≤ i := Nat.le_trans (List.length_filter_le _ _) (by rw [List.length_take]; omega)
    have hz : ((⟨#[115, 104, 97, 50, 53, 54, 58]⟩ : ByteArray) ++ p).size = 7 + p.size := by rw [ByteArray.size_append, head_size]
    have hst := head_starts l[i] p hds hp
    have hpre : strings_HasPrefix.f l[i] ((⟨#[115, 104, 97, 50, 53, 54, 58]⟩ : ByteArray) ++ p) = some (startsB p l[i]) := by
      unfold strings_HasPrefix.f stringslite_HasPrefix.f
      rw [hz, if_pos (by omega), if_pos (by omega), if_pos (by omega), Option.bind_some, Int.toNat_natCast, hst]
    simp only [impl_under.l0]
    rw [if_pos (by omega), if_pos (by omega), if_pos (by omega), if_pos (by omega), rdS l i hi, hpre, Option.bind_some, wrap_nat i (by omega), filter_take_succ _ l i hi]
    by_cases hs : startsB p l[i] = true
    · rw [if_pos hs, if_pos hs, if_pos (by omega)]
    · rw [if_neg hs, if_neg hs]
  · simp only [impl_under.l0]; rw [if_neg (by omega), List.take_length]
theorem less_f (a b : ByteArray) : cmp_Less_string.f a b = some (less a b) := by
  unfold cmp_Less_string.f cmp_isNaN_string.f
  simp only [bne_self_eq_false, Option.bind_some, Bool.false_eq_true, if_false]; rfl
theorem search_loop (l : List ByteArray) (x : ByteArray) (hl : l.length ≤ 2097152) (d : Nat) : ∀ i j : Nat, i + d = j → j ≤ l.length → (∀ (q : Nat) (h : q < l.length), q < i → less l[q] x = true) → (∀ (q : Nat) (h : q < l.length), j ≤ q → ¬ less l[q] x = true) → Rising l →
    ∃ p, PlaceS l x p ∧ Ev (fun k => slices_BinarySearch_string_string.l0 k l x (l.length : Int) (i : Int) (j : Int)) ((p : Int), at? l x p) := by
  induction d using Nat.strongRecOn with
  | _ d ih =>
  intro i j hij hj h1 h2 hr
  by_cases hd : i < j
  · have hm : wrap64 ((IntKind.u64.wrap (wrap64 ((i : Int) + (j : Int)))) / 2) = (((i + j) / 2 : Nat) : Int) := by
      have e1 : wrap64 ((i : Int) + (j : Int)) = (i : Int) + j := by unfold wrap64; omega
      have e2 : IntKind.u64.wrap ((i : Int) + (j : Int)) = (i : Int) + j := by
        simp only [IntKind.wrap, IntKind.signed, IntKind.bits, Bool.false_and, Bool.false_eq_true, if_false]
        omega
      rw [e1, e2]; unfold wrap64; omega
    obtain ⟨m, hmm⟩ : ∃ m, m = (i + j) / 2 := ⟨_, rfl⟩
    rw [← hmm] at hm
    have hml : m < l.length := by omega
    cases hc : less l[m] x with
    | true =>
      obtain ⟨p, hp, he⟩ := ih (j - (m + 1)) (by omega) (m + 1) j (by omega) hj (fun q hq hlt => by
        rcases Nat.lt_or_ge q m with h | h
        · exact less_trans (hr q m hq hml h) hc
        · have : q = m := by omega
          subst this; exact hc) h2 hr
      refine ⟨p, hp, Ev.step (fun k => ?_) he⟩
      simp only [slices_BinarySearch_string_string.l0]
      rw [if_pos (by omega), hm, if_pos (by omega), if_pos (by omega), rdS l m hml, less_f, hc, Option.bind_some, if_pos rfl, wrap_nat m (by omega)]
    | false =>
      obtain ⟨p, hp, he⟩ := ih (m - i) (by omega) i m (by omega) (by omega) h1 (fun q hq hge => by
        rcases Nat.lt_or_ge m q with h | h
        · intro hlt
          have := less_trans (hr m q hml hq h) hlt
          rw [hc] at this; exact absurd this (by decide)
        · have : q = m := by omega
          subst this; rw [hc]; decide) hr
      refine ⟨p, hp, Ev.step (fun k => ?_) he⟩
      simp only [slices_BinarySearch_string_string.l0]
      rw [if_pos (by omega), hm, if_pos (by omega), if_pos (by omega), rdS l m hml, less_f, hc, Option.bind_some]
      simp only [Bool.false_eq_true, if_false]
  · have hij' : i = j := by omega
    subst hij'
    refine ⟨i, ⟨hj, h1, fun q hq hge => h2 q hq hge⟩, Ev.step (f := fun _ => some ((i : Int), at? l x i)) (fun k => ?_) (Ev.now _)⟩
    simp only [slices_BinarySearch_string_string.l0]
    rw [if_neg (by omega)]
    by_cases hi : i < l.length
    · rw [if_pos (by omega), if_pos (by omega), if_pos (by omega), rdS l i hi]
      unfold slices_isNaN_string.f at?
      rw [List.getElem?_eq_getElem hi]
      by_cases he : l[i] = x
      · rw [if_pos (by rw [he]), decide_eq_true (by rw [he])]
      · rw [if_neg (fun h => he ((same_is _ _).1 h)), decide_eq_false (fun h => he (Option.some.inj h))]
        simp only [bne_self_eq_false, Option.bind_some, Bool.false_eq_true, if_false]
    · rw [if_neg (by omega)]
      unfold at?
      rw [List.getElem?_eq_none (by omega)]; rfl
theorem search_ok (l : List ByteArray) (x : ByteArray) (hl : l.length ≤ 2097152) (hr : Rising l) : ∃ p, PlaceS l x p ∧ Ev (fun k => slices_BinarySearch_string_string.f k l x) ((p : Int), at? l x p) := by
  unfold slices_BinarySearch_string_string.f
  exact search_loop l x hl l.length 0 l.length (by omega) (Nat.le_refl _) (fun q h h0 => absurd h0 (by omega)) (fun q h h0 => absurd h (by omega)) hr
def addToM (l : List ByteArray) (x : ByteArray) : List ByteArray × Bool := if setOk l = true ∧ digestOk x = true then (if (insM l x).length > 200 then ([], false) else (insM l x, true)) else ([], false)
theorem addToM_len (l : List ByteArray) (x : ByteArray) : (addToM l x).1.length ≤ l.length + 1 := by
  unfold addToM
  repeat' split
  · exact Nat.zero_le _
  · exact insM_len l x
  · exact Nat.zero_le _
theorem rise_add {l : List ByteArray} (hr : Rising l) (x : ByteArray) : riseM (l ++ [x]) = insM l x := by
  unfold riseM
  rw [List.foldl_append]
  have := riseM_rising hr l.length (Nat.le_refl _)
  rw [List.take_length] at this
  unfold riseM at this
  rw [this]; rfl
theorem specA (l : List ByteArray) (x : ByteArray) (hl : l.length ≤ 1048576) : Ev (fun k => spec_AddTo.f k l x) (addToM l x) := by
  unfold spec_AddTo.f addToM
  refine Ev.bind (spec_set l (by omega)) ?_
  cases hs : setOk l with
  | false =>
    simp only [Bool.false_eq_true, if_false, false_and]
    exact Ev.step (f := fun _ => some (([] : List ByteArray), false)) (fun k => by simp only [spec_AddTo.j0, if_true]) (Ev.now _)
  | true =>
    simp only [if_true, true_and]
    refine Ev.bind (spec_dig x) ?_
    cases hd : digestOk x with
    | false =>
      simp only [Bool.false_eq_true, if_false, Bool.not_false]
      exact Ev.step (f := fun _ => some (([] : List ByteArray), false)) (fun k => by simp only [spec_AddTo.j0, if_true]) (Ev.now _)
    | true =>
      simp only [if_true, Bool.not_true]
      refine Ev.step (f := fun k => (spec_l1Rising.f k (l ++ [x])).bind fun t155 => if (t155.length : Int) > 200 then some (([] : List ByteArray), false) else some (t155, true)) (fun k => ?_) ?_
      · simp only [spec_AddTo.j0, Bool.false_eq_true, if_false]
        rw [bindS, if_pos (by simp; omega), bindS, if_pos (by simp; omega), List.nil_append]
      · refine Ev.bind (spec_rising (l ++ [x]) (by simp; omega)) ?_
        rw [rise_add (setOk_rising hs)]
        by_cases h : (insM l x).length > 200
        · rw [if_pos h]; simp only [if_pos (show ((insM l x).length : Int) > 200 by omega)]; exact Ev.now _
        · rw [if_neg h]; simp only [if_neg (show ¬ ((insM l x).length : Int) > 200 by omega)]; exact Ev.now _
theorem implA (l : List ByteArray) (x : ByteArray) (hl : l.length ≤ 1048576) (hx : ∀ x ∈ l, x.size ≤ 1048576) (hp : x.size ≤ 140737488351232) : Ev (fun k => impl_AddTo.f k l x) (addToM l x) := by
  unfold impl_AddTo.f addToM
  refine Ev.bind (impl_set l (by omega) (fun x h => by have := hx x h; omega)) ?_
  cases hs : setOk l with
  | false =>
    simp only [Bool.false_eq_true, if_false, false_and]
    exact Ev.step (f := fun _ => some (([] : List ByteArray), false)) (fun k => by simp only [impl_AddTo.j0, if_true]) (Ev.now _)
  | true =>
    simp only [if_true, true_and]
    rw [impl_dig x hp]
    refine Ev.bind (Ev.now _) ?_
    have hr := setOk_rising hs
    have h200 := setOk_len hs
    cases hd : digestOk x with
    | false =>
      simp only [Bool.false_eq_true, if_false, Bool.not_false]
      exact Ev.step (f := fun _ => some (([] : List ByteArray), false)) (fun k => by simp only [impl_AddTo.j0, if_true]) (Ev.now _)
    | true =>
      simp only [if_true, Bool.not_true]
      obtain ⟨p, hpl, he⟩ := search_ok l x (by omega) hr
      refine Ev.step (f := fun k => (slices_BinarySearch_string_string.f k l x).bind fun bt => if bt.2 = true then some (l, true) else if (l.length : Int) = 200 then some (([] : List ByteArray), false) else (slices_Insert_string_string.f l bt.1 [x]).bind fun t => some (t, true)) (fun k => ?_) (Ev.bind he ?_)
      · simp only [impl_AddTo.j0, Bool.false_eq_true, if_false]
        congr 1; funext bt
        rw [bindS, if_pos (by simp; omega), bindS, List.nil_append]
      · by_cases hm : x ∈ l
        · have hat : at? l x p = true := (at_iff hr hpl).2 hm
          have hins : insM l x = l := by rw [insM, if_pos hm]
          simp only [hat, if_true, hins]
          rw [if_neg (show ¬ l.length > 200 by omega)]; exact Ev.now _
        · have hat : at? l x p = false := by
            cases h : at? l x p with
            | false => rfl
            | true => exact absurd ((at_iff hr hpl).1 h) hm
          have hins := insM_at hr hm hpl
          have hlen : (insM l x).length = l.length + 1 := by rw [hins]; simp; have := hpl.1; omega
          simp only [hat, Bool.false_eq_true, if_false]
          by_cases h : l.length = 200
          · rw [if_pos (show (insM l x).length > 200 by omega)]
            simp only [if_pos (show (l.length : Int) = 200 by omega)]; exact Ev.now _
          · rw [if_neg (show ¬ (insM l x).length > 200 by omega)]
            simp only [if_neg (show ¬ (l.length : Int) = 200 by omega)]
            unfold slices_Insert_string_string.f
            rw [if_pos ⟨by omega, by have := hpl.1; omega, by simp, by simp; omega⟩, bindS, Int.toNat_natCast, hins, List.append_assoc]
            exact Ev.now _
/-- What the one list has and the other has not. -/
def lessM (l m : List ByteArray) : List ByteArray := l.filter (fun d => decide (¬ d ∈ m))
def cutFromM (l : List ByteArray) (x : ByteArray) : List ByteArray × Bool := if setOk l = true then (if x ∈ l then (lessM l [x], true) else ([], false)) else ([], false)
theorem cutFromM_len (l : List ByteArray) (x : ByteArray) : (cutFromM l x).1.length ≤ l.length := by
  unfold cutFromM
  repeat' split
  · exact List.length_filter_le _ _
  all_goals exact Nat.zero_le _
theorem implC (l : List ByteArray) (x : ByteArray) (hl : l.length ≤ 1048576) (hx : ∀ x ∈ l, x.size ≤ 1048576) (hp : x.size ≤ 140737488351232) : Ev (fun k => impl_CutFrom.f k l x) (cutFromM l x) := by
  unfold impl_CutFrom.f cutFromM
  refine Ev.bind (impl_set l (by omega) (fun x h => by have := hx x h; omega)) ?_
  cases hs : setOk l with
  | false =>
    simp only [Bool.false_eq_true, if_false]
    exact Ev.step (f := fun _ => some (([] : List ByteArray), false)) (fun k => by simp only [impl_CutFrom.j0, if_true]) (Ev.now _)
  | true =>
    simp only [if_true]
    rw [impl_dig x hp]
    simp only [Option.bind_some]
    have hr := setOk_rising hs
    cases hd : digestOk x with
    | false =>
      have hno : ¬ x ∈ l := fun h => by have := setOk_dig hs x h; rw [hd] at this; exact absurd this (by decide)
      rw [if_neg hno]
      exact Ev.step (f := fun _ => some (([] : List ByteArray), false)) (fun k => by simp only [impl_CutFrom.j0, Bool.not_false, if_true]) (Ev.now _)
    | true =>
      obtain ⟨p, hpl, he⟩ := search_ok l x (by omega) hr
      refine Ev.step (f := fun k => _) (fun k => by simp only [impl_CutFrom.j0, Bool.not_true, Bool.false_eq_true, if_false]; rfl) (Ev.bind he ?_)
      by_cases hm : x ∈ l
      · have hat : at? l x p = true := (at_iff hr hpl).2 hm
        have hpx := place_of_mem hr hpl hm
        have hp1 : p < l.length := (List.getElem?_eq_some_iff.1 hpx).1
        rw [if_pos hm]
        simp only [hat, if_true, Option.bind_some, List.nil_append, List.length_nil, Nat.zero_add]
        rw [if_pos (by omega)]
        unfold slices_Delete_string_string.f
        rw [wrap_nat p (by omega), if_pos ⟨by omega, by omega, by omega⟩]
        simp only [Option.bind_some, Int.toNat_natCast]
        have hf := filter_at hr hpx
        have : lessM l [x] = l.take p ++ l.drop (p + 1) := by
          rw [← hf]; unfold lessM; congr 1; funext d; rw [decide_eq_decide, List.mem_singleton]
        rw [this]; exact Ev.now _
      · have hat : at? l x p = false := by
          cases h : at? l x p with
          | false => rfl
          | true => exact absurd ((at_iff hr hpl).1 h) hm
        rw [if_neg hm]
        simp only [hat, Bool.false_eq_true, if_false]; exact Ev.now _
def UnderM (l : List ByteArray) (p : ByteArray) : List ByteArray := if setOk l = true then (if prefOk p = true then underM l p else []) else []
theorem UnderM_len (l : List ByteArray) (p : ByteArray) : (UnderM l p).length ≤ l.length := by
  unfold UnderM
  repeat' split
  · exact underM_len l p
  all_goals exact Nat.zero_le _
theorem implU (l : List ByteArray) (p : ByteArray) (hl : l.length ≤ 1048576) (hx : ∀ x ∈ l, x.size ≤ 1048576) (hp : p.size ≤ 140737488351232) : Ev (fun k => impl_Under.f k l p) (UnderM l p) := by
  unfold impl_Under.f UnderM
  refine Ev.bind (impl_set l (by omega) (fun x h => by have := hx x h; omega)) ?_
  cases hs : setOk l with
  | false => simp only [Bool.false_eq_true, if_false]; exact Ev.now _
  | true =>
    simp only [if_true]
    rw [impl_pref p hp]
    simp only [Option.bind_some]
    cases hq : prefOk p with
    | false => simp only [Bool.false_eq_true, if_false]; exact Ev.now _
    | true => simp only [if_true]; exact Ev.bind (impl_under_ l p (by omega) (setOk_dig hs) (prefOk_size hq)) (Ev.now _)
theorem hasT (l : List ByteArray) (x : ByteArray) (hl : l.length ≤ 2097152) : Ev (fun k => laws_hasText.f k l x) (decide (x ∈ l)) := by
  unfold laws_hasText.f
  have key : ∀ d i : Nat, i + d = l.length → Ev (fun k => laws_hasText.l0 k l x (i : Int)) (decide (x ∈ l.drop i)) := by
    intro d
    induction d with
    | zero =>
      intro i hi
      rw [List.drop_eq_nil_of_le (by omega)]
      exact Ev.step (f := fun _ => some (decide (x ∈ ([] : List ByteArray)))) (fun k => by simp only [laws_hasText.l0]; rw [if_neg (by omega)]; simp) (Ev.now _)
    | succ d ih =>
      intro i hi
      have hlt : i < l.length := by omega
      rw [List.drop_eq_getElem_cons hlt]
      by_cases h : l[i] = x
      · rw [decide_eq_true (by rw [h]; exact List.mem_cons_self)]
        exact Ev.step (f := fun _ => some true) (fun k => by simp only [laws_hasText.l0]; rw [if_pos (by omega), if_pos (by omega), rdS l i hlt, if_pos (by rw [h])]) (Ev.now _)
      · have : decide (x ∈ l[i] :: l.drop (i + 1)) = decide (x ∈ l.drop (i + 1)) := by
          rw [decide_eq_decide, List.mem_cons]
          exact ⟨fun hh => hh.resolve_left (fun e => h e.symm), .inr⟩
        rw [this]
        exact Ev.step (fun k => by simp only [laws_hasText.l0]; rw [if_pos (by omega), if_pos (by omega), rdS l i hlt, if_neg (fun e => h ((same_is _ _).1 e)), wrap_nat i (by omega)]) (ih (i + 1) (by omega))
  exact key l.length 0 (by omega)
theorem sameT_refl (l : List ByteArray) (hl : l.length ≤ 2097152) : Ev (fun k => laws_sameTexts.f k l l) true := by
  unfold laws_sameTexts.f
  simp only [if_true]
  refine on_loop (n := l.length) (F := fun k i => laws_sameTexts.l0 k l l i) (fun i hi k => ?_) (Ev.step (f := fun _ => some true) (fun k => ?_) (Ev.now _))
  · simp only [laws_sameTexts.l0]; rw [if_pos (by omega), if_pos (by omega), if_pos (by omega), if_pos trivial, wrap_nat i (by omega)]
  · simp only [laws_sameTexts.l0]; rw [if_neg (by omega)]
theorem less_ins {l : List ByteArray} (hr : Rising l) (x : ByteArray) (hx : ¬ x ∈ l) : lessM (insM l x) [x] = l := by
  rw [insM, if_neg hx]
  generalize placeM l x = p
  have h1 : ∀ y ∈ l, decide (¬ y ∈ [x]) = true := fun y hy => decide_eq_true (fun h => hx (List.mem_singleton.1 h ▸ hy))
  unfold lessM
  rw [List.filter_append, List.filter_cons_of_neg (by simp), List.filter_eq_self.2 (fun y hy => h1 y (List.mem_of_mem_take hy)), List.filter_eq_self.2 (fun y hy => h1 y (List.mem_of_mem_drop hy)), List.take_append_drop]
theorem under_mem {S : List ByteArray} {d p : ByteArray} (hS : setOk S = true) (hd : d ∈ S) (hp : prefOk p = true) (h : startsB p d = true) : d ∈ UnderM S p := by
  unfold UnderM
  rw [if_pos hS, if_pos hp]
  exact List.mem_filter.2 ⟨hd, h⟩
theorem starts_nil (d : ByteArray) : startsB ⟨#[]⟩ d = true := by
  unfold startsB
  rw [show (⟨#[]⟩ : ByteArray).size = 0 from rfl, Nat.add_zero, extract_nil]; exact beq_self_eq_true _
theorem starts_cut (d : ByteArray) (n : Nat) (h7 : 7 ≤ n) (hn : n ≤ d.size) : startsB (d.extract 7 n) d = true := by
  unfold startsB
  rw [ByteArray.size_extract, Nat.min_eq_left hn, show 7 + (n - 7) = n by omega]; exact beq_self_eq_true _
theorem pref_cut {d : ByteArray} (hd : digestOk d = true) (n : Nat) (h7 : 7 ≤ n) (hn : n ≤ 9) : prefOk (d.extract 7 n) = true := by
  have hs := digestOk_size hd
  simp only [digestOk, Bool.and_eq_true, decide_eq_true_eq] at hd
  simp only [prefOk, Bool.and_eq_true, decide_eq_true_eq]
  refine ⟨by rw [ByteArray.size_extract]; omega, ?_⟩
  rw [bytesOf_extract]
  exact List.all_eq_true.2 (fun x hx => List.all_eq_true.1 hd.2.2 x (List.mem_of_mem_take hx))
end SetsOf
open SetsOf

theorem FnSets : laws_FnSets.Pure := by
  intro l _ hl2 hb
  have hm : l.length ≤ 140737488351232 := by omega
  refine Ev.rounds (g := fun k => laws_FnSets.f k l) ?_
  unfold laws_FnSets.f laws_big.f
  simp only [bindS]
  by_cases hbig : (l.length : Int) > 1048576
  · simp only [decide_eq_true hbig, if_true]; exact Ev.now _
  simp only [decide_eq_false hbig, Bool.false_eq_true, if_false]
  obtain ⟨set, d, hdraw, hn, hs, hd⟩ := drawAddTo_ok hb hm
  refine Ev.bind hdraw (Ev.bind (specA set d (by omega)) (Ev.bind (implA set d (by omega) (fun x hx => by have := hs x hx; omega) (by omega)) ?_))
  have hlen := addToM_len set d
  simp only [bne_self_eq_false, Bool.false_eq_true, if_false]
  refine Ev.bind (sameT_refl (addToM set d).1 (by omega)) ?_
  simp only [Bool.not_true]
  by_cases hg : setOk set = true ∧ digestOk d = true
  case neg =>
    have e : addToM set d = ([], false) := by unfold addToM; rw [if_neg hg]
    rw [e]
    exact Ev.step (f := fun _ => some true) (fun k => by simp only [laws_FnSets.j0, Bool.false_eq_true, if_false]) (Ev.now _)
  by_cases h200 : (insM set d).length > 200
  · have e : addToM set d = ([], false) := by unfold addToM; rw [if_pos hg, if_pos h200]
    rw [e]
    exact Ev.step (f := fun _ => some true) (fun k => by simp only [laws_FnSets.j0, Bool.false_eq_true, if_false]) (Ev.now _)
  have e : addToM set d = (insM set d, true) := by unfold addToM; rw [if_pos hg, if_neg h200]
  rw [e]
  have hr := setOk_rising hg.1
  have hS : setOk (insM set d) = true := setOk_mk (insM_rising hr d) (fun x hx => by
    rcases insM_mem hx with hx | rfl
    · exact setOk_dig hg.1 x hx
    · exact hg.2) (by omega)
  have hdS := mem_insM set d
  have hless := less_ins hr d
  have hSs : ∀ x ∈ insM set d, x.size ≤ 1048576 := fun x hx => by have := digestOk_size (setOk_dig hS x hx); omega
  have h71 := digestOk_size hg.2
  generalize insM set d = S at hS hdS hless hSs h200
  have hcut := implC S d (by omega) hSs (by omega)
  have e2 : cutFromM S d = (lessM S [d], true) := by unfold cutFromM; rw [if_pos hS, if_pos hdS]
  rw [e2] at hcut
  have hno : decide (d ∈ lessM S [d]) = false := decide_eq_false (fun h => by
    have := (List.mem_filter.1 h).2
    simp at this)
  have hll : (lessM S [d]).length ≤ S.length := List.length_filter_le _ _
  have hj1 : Ev (fun k => laws_FnSets.j1 k d S false) true := by
    have u0 := implU S ⟨#[]⟩ (by omega) hSs (by decide)
    have u1 := implU S (d.extract 7 8) (by omega) hSs (by rw [ByteArray.size_extract]; omega)
    have u2 := implU S (d.extract 7 9) (by omega) hSs (by rw [ByteArray.size_extract]; omega)
    have m0 : d ∈ UnderM S ⟨#[]⟩ := under_mem hS hdS rfl (starts_nil d)
    have m1 : d ∈ UnderM S (d.extract 7 8) := under_mem hS hdS (pref_cut hg.2 8 (by omega) (by omega)) (starts_cut d 8 (by omega) (by omega))
    have m2 : d ∈ UnderM S (d.extract 7 9) := under_mem hS hdS (pref_cut hg.2 9 (by omega) (by omega)) (starts_cut d 9 (by omega) (by omega))
    have n0 := UnderM_len S ⟨#[]⟩
    have n1 := UnderM_len S (d.extract 7 8)
    have n2 := UnderM_len S (d.extract 7 9)
    have g0 := hasT (UnderM S ⟨#[]⟩) d (by omega)
    have g1 := hasT (UnderM S (d.extract 7 8)) d (by omega)
    have g2 := hasT (UnderM S (d.extract 7 9)) d (by omega)
    rw [decide_eq_true m0] at g0
    rw [decide_eq_true m1] at g1
    rw [decide_eq_true m2] at g2
    refine Ev.step (f := fun k => _) (fun k => by simp only [laws_FnSets.j1, Bool.false_eq_true, if_false]; rfl) ?_
    refine Ev.bind u0 (Ev.bind g0 ?_)
    simp only [if_true, if_pos (show (7 : Nat) ≤ 8 by omega), if_pos (show (8 : Int) ≤ (d.size : Int) by omega)]
    refine Ev.bind u1 (Ev.bind g1 ?_)
    simp only [if_true, if_pos (show (7 : Nat) ≤ 9 by omega), if_pos (show (9 : Int) ≤ (d.size : Int) by omega)]
    exact Ev.bind u2 (Ev.bind g2 (Ev.now _))
  refine Ev.step (f := fun k => _) (fun k => by simp only [laws_FnSets.j0, Bool.false_eq_true, if_false, if_true]; rfl) ?_
  refine Ev.bind hcut ?_
  simp only [if_true]
  have hh := hasT (lessM S [d]) d (by omega)
  rw [hno] at hh
  refine Ev.bind hh ?_
  simp only [Bool.false_eq_true, if_false]
  refine Ev.bind (hasT set d (by omega)) ?_
  by_cases hin : d ∈ set
  · simp only [decide_eq_true hin, if_true]; exact hj1
  · simp only [decide_eq_false hin, Bool.false_eq_true, if_false]
    rw [hless hin]
    refine Ev.bind (sameT_refl set (by omega)) ?_
    simp only [Bool.not_true]; exact hj1

end Go.Proofs.YtifchnibhohnpaaDoor.Pure
