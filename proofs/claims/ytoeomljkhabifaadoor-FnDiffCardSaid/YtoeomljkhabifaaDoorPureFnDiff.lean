/- For all drawn sets: two nodes find out just the digests in which their sets differ, and sets with one root are one, unless two unlike texts have one digest. No condition but the size that the model lets a draw have. -/
import Derived.Test.YtoeomljkhabifaaDoorQFnDiffx
import Derived.Test.YtoeomljkhabifaaDoorDiffFnDiff
namespace Go.Proofs.YtoeomljkhabifaaDoor.Pure
open Go.RowKit Go.Proofs.YtoeomljkhabifaaDoor.QFnDiff Go.Proofs.YtoeomljkhabifaaDoorW.PrintWords Go.Proofs.YtoeomljkhabifaaDoorW.PrintLast Go.Proofs.YtoeomljkhabifaaDoorW.PrintMore Go.Proofs.YtoeomljkhabifaaDoor.Bits Go.Proofs.YtoeomljkhabifaaDoor.Num Go.Proofs.YtoeomljkhabifaaDoor.Dig Go.Proofs.YtoeomljkhabifaaDoor.Loops Go.Proofs.YtoeomljkhabifaaDoor.SetOf Go.Proofs.YtoeomljkhabifaaDoor.Sha Go.Proofs.YtoeomljkhabifaaDoor.Digest Go.Proofs.YtoeomljkhabifaaDoor.FrameRead Go.Proofs.YtoeomljkhabifaaDoor.Frame Go.Proofs.YtoeomljkhabifaaDoor.TreeOf Go.Proofs.YtoeomljkhabifaaDoor.StepsOf Go.Proofs.YtoeomljkhabifaaDoor.DiffOf Go.Proofs.YtoeomljkhabifaaDoor.Order
set_option linter.unusedSimpArgs false
set_option linter.unusedVariables false
namespace DiffO
theorem rdS (xs : List ByteArray) (i : Nat) (h : i < xs.length) : rdOf ByteArray.empty xs (i : Int) = xs[i] := getD_at xs i _ h
theorem spec_rot (x n : Int) (h0 : 0 ≤ x) (h1 : x < 4294967296) : spec_Rotate.f x n = some (rotr x (n % 32).toNat) := by
  have ht := Int.tmod_lt_of_pos n (show (0 : Int) < 32 by decide)
  have ht2 : -32 < Int.tmod n 32 := by have := Int.lt_tmod_of_pos n (show (0 : Int) < 32 by decide); omega
  have hm : (Int.tmod n 32) % 32 = n % 32 := by have := Int.tmod_add_mul_tdiv n 32; omega
  have hk : IntKind.u64.wrap (Int.tmod (wrap64 ((Int.tmod n 32) + 32)) 32) = n % 32 := by
    have e1 : wrap64 ((Int.tmod n 32) + 32) = (Int.tmod n 32) + 32 := by unfold wrap64; omega
    rw [e1, Int.tmod_eq_emod_of_nonneg (by omega), IntKind.wrap_u64]; omega
  have hk2 : IntKind.u64.wrap (32 - n % 32) = 32 - n % 32 := by rw [IntKind.wrap_u64]; omega
  unfold spec_Rotate.f
  rw [hk, if_pos (by omega), hk2, if_pos (by omega)]
  have e2 : (32 - n % 32).toNat = 32 - (n % 32).toNat := by omega
  unfold shr shl
  rw [show min (n % 32).toNat IntKind.u32.bits = (n % 32).toNat by simp [IntKind.bits]; omega, show min (32 - n % 32).toNat IntKind.u32.bits = (32 - n % 32).toNat by simp [IntKind.bits]; omega, e2, bits_or_comm, or_rotr x _ h0 h1 (by omega)]
theorem spec_rot1 (x : Int) (hx : 0 ≤ x ∧ x < 4294967296) (n : Int) (m : Nat) (hm : (n % 32).toNat = m) : spec_Rotate.f x n = some (rotr x m) := by rw [spec_rot x n hx.1 hx.2, hm]
theorem spec_words (h K b : List Int) (hb : b.length = 64) {r : List Int} (hend : Ev (fun k => spec_l1Block.l0 k h K b (wordsM b 64) 64) r) : Ev (fun k => spec_l1Block.l0 k h K b (List.replicate 64 0) 0) r := by
  refine fold_loop (n := 64) (F := fun k w i => spec_l1Block.l0 k h K b w i) (st := fun i => wordsM b i) (fun t ht hr => ?_) hend
  obtain ⟨hl, hR⟩ := wordsM_ok b t
  rw [wordsM_succ] at hr
  refine Ev.step (fun k => ?_) hr
  simp only [spec_l1Block.l0]
  rw [if_pos (by omega), wrap_nat t (by omega)]
  unfold stepW
  generalize wordsM b t = w at hl hR
  by_cases h16 : t < 16
  · have e0 : wrap64 (4 * (t : Int)) = ((4 * t : Nat) : Int) := by unfold wrap64; omega
    have e1 : wrap64 (((4 * t : Nat) : Int) + 1) = ((4 * t + 1 : Nat) : Int) := by unfold wrap64; omega
    have e2 : wrap64 (((4 * t : Nat) : Int) + 2) = ((4 * t + 2 : Nat) : Int) := by unfold wrap64; omega
    have e3 : wrap64 (((4 * t : Nat) : Int) + 3) = ((4 * t + 3 : Nat) : Int) := by unfold wrap64; omega
    rw [if_pos (by omega), e0, e1, e2, e3]
    repeat rw [if_pos (by omega)]
    rw [Int.toNat_natCast]; rfl
  · have e15 : wrap64 ((t : Int) - 15) = ((t - 15 : Nat) : Int) := by unfold wrap64; omega
    have e2 : wrap64 ((t : Int) - 2) = ((t - 2 : Nat) : Int) := by unfold wrap64; omega
    have e7 : wrap64 ((t : Int) - 7) = ((t - 7 : Nat) : Int) := by unfold wrap64; omega
    have e16 : wrap64 ((t : Int) - 16) = ((t - 16 : Nat) : Int) := by unfold wrap64; omega
    rw [if_neg (by omega), e15, e2, e7, e16]
    rw [if_pos (by omega), if_pos (by omega), if_pos (by omega), if_pos (by omega), spec_rot1 _ (hR.at _) 7 7 rfl, bindS, spec_rot1 _ (hR.at _) 18 18 rfl, bindS, spec_rot1 _ (hR.at _) 17 17 rfl, bindS, spec_rot1 _ (hR.at _) 19 19 rfl, bindS]
    rw [if_pos (by omega), if_pos (by omega), if_pos (by omega), if_pos (by omega), if_pos (by omega), if_pos (by omega), Int.toNat_natCast, if_neg h16]
    congr 2
    simp only [nextW, sml0, sml1]
    omega
theorem spec_rounds (h K b W : List Int) (hK : K.length = 64) (hW : W.length = 64) (hl : h.length = 8) (hr : R32 h) {r : List Int} (hend : Ev (fun k => spec_l1Block.l1 k h K W (roundsM K W h 64) 64) r) : Ev (fun k => spec_l1Block.l1 k h K W h 0) r := by
  refine fold_loop (n := 64) (F := fun k v i => spec_l1Block.l1 k h K W v i) (st := fun i => roundsM K W h i) (fun t ht hr' => ?_) hend
  obtain ⟨hvl, hR⟩ := roundsM_ok K W h hl hr t
  rw [roundsM_succ] at hr'
  refine Ev.step (fun k => ?_) hr'
  simp only [spec_l1Block.l1]
  generalize roundsM K W h t = v at hvl hR
  rw [if_pos (by omega), if_pos (by omega), if_pos (by omega), if_pos (by omega), spec_rot1 _ (hR.at _) 6 6 rfl, bindS, spec_rot1 _ (hR.at _) 11 11 rfl, bindS, spec_rot1 _ (hR.at _) 25 25 rfl, bindS]
  rw [if_pos (by omega), if_pos (by omega), if_pos (by omega), if_pos (by omega), if_pos (by omega), spec_rot1 _ (hR.at _) 2 2 rfl, bindS, spec_rot1 _ (hR.at _) 13 13 rfl, bindS, spec_rot1 _ (hR.at _) 22 22 rfl, bindS]
  rw [if_pos (by omega), if_pos (by omega), if_pos (by omega), wrap_nat t (by omega)]
  congr 1
  simp only [roundM, oneM, twoM, big0, big1, ch, maj]
  congr 1
  · omega
  · congr 4
    omega
theorem spec_add (h v : List Int) (hl : h.length = 8) (hvl : v.length = 8) : Ev (fun k => spec_l1Block.l2 k h v [] 0) (addM h v 8) := by
  refine fold_loop (n := 8) (F := fun k a i => spec_l1Block.l2 k h v a i) (st := fun i => addM h v i) (fun i hi hr => ?_) (Ev.step (f := fun _ => some (addM h v 8)) (fun k => ?_) (Ev.now _))
  · rw [addM_succ] at hr
    refine Ev.step (fun k => ?_) hr
    have := addM_len h v i
    simp only [spec_l1Block.l2]
    rw [if_pos (by omega), if_pos (by omega), if_pos (by omega), if_pos (by omega), if_pos (by omega), wrap_nat i (by omega)]
  · simp only [spec_l1Block.l2]; rw [if_neg (by omega)]
theorem spec_block (h K b : List Int) (hK : K.length = 64) (hb : b.length = 64) (hl : h.length = 8) (hr : R32 h) : Ev (fun k => spec_l1Block.f k h K b) (blockM h K b) := by
  unfold spec_l1Block.f blockM
  simp only [show (64 : Nat) ≤ 70368744177664 by omega, if_true]
  obtain ⟨hwl, _⟩ := wordsM_ok b 64
  refine spec_words h K b hb ?_
  generalize wordsM b 64 = W at hwl
  refine Ev.step (f := fun k => spec_l1Block.l1 k h K W h 0) (fun k => ?_) ?_
  · simp only [spec_l1Block.l0]
    rw [if_neg (by omega), bindS, if_pos (by simp; omega), List.nil_append]
  · refine spec_rounds h K b W hK hwl hl hr ?_
    obtain ⟨hvl, _⟩ := roundsM_ok K W h hl hr 64
    refine Ev.step (f := fun k => spec_l1Block.l2 k h (roundsM K W h 64) [] 0) (fun k => ?_) (spec_add h _ hl hvl)
    simp only [spec_l1Block.l1]
    rw [if_neg (by omega)]
theorem spec_runs (s : ByteArray) (p : List Int) (n : Nat) (hp : p.length = 64 * n) (hn : n ≤ 4611686018427387904 / 64) : Ev (fun k => spec_Sum.l2 k p kM hM 0) (runM p n) := by
  have key : ∀ d i : Nat, i + d = n → Ev (fun k => spec_Sum.l2 k p kM (runM p i) ((64 * i : Nat) : Int)) (runM p n) := by
    intro d
    induction d with
    | zero =>
      intro i hi
      obtain rfl : i = n := by omega
      refine Ev.step (f := fun _ => some (runM p i)) (fun k => ?_) (Ev.now _)
      simp only [spec_Sum.l2]; rw [if_neg (by omega)]
    | succ d ih =>
      intro i hi
      obtain ⟨hl, hr⟩ := runM_ok p i
      have hw : wrap64 (((64 * i : Nat) : Int) + 64) = ((64 * (i + 1) : Nat) : Int) := by unfold wrap64; omega
      have hbl : ((p.drop (64 * i)).take 64).length = 64 := by rw [List.length_take, List.length_drop]; omega
      have hcut : (p.take (64 * (i + 1))).drop (64 * i) = (p.drop (64 * i)).take 64 := by
        rw [List.drop_take]; congr 1; omega
      refine Ev.step (f := fun k => (spec_l1Block.f k (runM p i) kM ((p.drop (64 * i)).take 64)).bind fun t => spec_Sum.l2 k p kM t ((64 * (i + 1) : Nat) : Int)) (fun k => ?_) (Ev.bind (spec_block _ kM _ rfl hbl hl hr) ?_)
      · simp only [spec_Sum.l2]
        rw [if_pos (by omega), if_pos (by omega), hw, if_pos (by omega), if_pos (by omega), Int.toNat_natCast, Int.toNat_natCast, hcut]
      · rw [← runM_succ]; exact ih (i + 1) (by omega)
  exact key n 0 (by omega)
theorem spec_lens (s : ByteArray) (p0 : List Int) (n : Int) (hp : p0.length ≤ 4611686018427387904 / 64) {r : List Int} (hl : p0.length < 140737488355320) (hend : Ev (fun k => spec_Sum.l2 k (p0 ++ lenM n 8) kM hM 0) r) : Ev (fun k => spec_Sum.l1 k p0 n 7) r := by
  have key : ∀ d i : Nat, i + d = 8 → Ev (fun k => spec_Sum.l1 k (p0 ++ lenM n i) n (7 - (i : Int))) r := by
    intro d
    induction d with
    | zero =>
      intro i hi
      obtain rfl : i = 8 := by omega
      refine Ev.step (f := fun k => spec_Sum.l2 k (p0 ++ lenM n 8) kM hM 0) (fun k => ?_) hend
      simp only [spec_Sum.l1]
      rw [if_neg (by omega)]
      unfold spec_l1K.f
      rw [bindS]; rfl
    | succ d ih =>
      intro i hi
      have hi8 : i ≤ 7 := by omega
      have e7 : (7 - (i : Int)) = ((7 - i : Nat) : Int) := by omega
      have hw : wrap64 ((7 - (i : Int)) - 1) = 7 - ((i + 1 : Nat) : Int) := by unfold wrap64; omega
      have hnn : (0 : Int) ≤ IntKind.u64.wrap (wrap64 (8 * (7 - (i : Int)))) := by rw [IntKind.wrap_u64]; omega
      refine Ev.step (fun k => ?_) (ih (i + 1) (by omega))
      simp only [spec_Sum.l1]
      rw [if_pos (by omega), if_pos hnn, if_pos (by rw [List.length_append, lenM_len]; omega), hw, List.append_assoc]
      rw [lenM, ← e7]
  have := key 8 0 (by omega)
  simpa [lenM] using this
theorem spec_sum (s : ByteArray) (hs : s.size ≤ 70368744177664) : Ev (fun k => spec_Sum.f k s) (sumM s) := by
  unfold spec_Sum.f
  have hbl := bytesOf_length s
  simp only [if_pos (show (s.size : Int) ≤ 140737488351232 by omega)]
  refine Ev.bind (Ev.now _) ?_
  simp only [if_pos (show (bytesOf s).length < 140737488355328 by omega)]
  have key : ∀ d i : Nat, i + d = zerosM s.size → Ev (fun k => spec_Sum.l0 k s (bytesOf s ++ [128] ++ List.replicate i 0)) (sumM s) := by
    intro d
    induction d with
    | zero =>
      intro i hi
      obtain rfl : i = zerosM s.size := by omega
      have hz : zerosM s.size < 64 := by unfold zerosM; omega
      have h56 : ((bytesOf s ++ [128] ++ List.replicate (zerosM s.size) (0 : Int)).length : Int) % 64 = 56 := by
        simp only [List.length_append, List.length_replicate, List.length_singleton, hbl, zerosM]; omega
      have hlen : (bytesOf s ++ [128] ++ List.replicate (zerosM s.size) (0 : Int)).length = s.size + 1 + zerosM s.size := by simp [hbl]; omega
      refine Ev.step (f := fun k => spec_Sum.l1 k (bytesOf s ++ [128] ++ List.replicate (zerosM s.size) 0) (IntKind.u64.wrap ((IntKind.u64.wrap ((s.size : Int))) * 8)) 7) (fun k => ?_) ?_
      · simp only [spec_Sum.l0]; rw [if_pos h56]
      · refine spec_lens s _ _ (by omega) (by omega) ?_
        have hp := padM_len s
        unfold sumM
        exact spec_runs s (padM s) _ hp (by omega)
    | succ d ih =>
      intro i hi
      have hz : zerosM s.size < 64 := by unfold zerosM; omega
      have h56 : ¬ ((bytesOf s ++ [128] ++ List.replicate i (0 : Int)).length : Int) % 64 = 56 := by
        simp only [List.length_append, List.length_replicate, List.length_singleton, hbl]
        unfold zerosM at hi hz
        omega
      refine Ev.step (fun k => ?_) (ih (i + 1) (by omega))
      simp only [spec_Sum.l0]
      rw [if_neg h56, if_pos (by simp [hbl]; omega), List.append_assoc _ (List.replicate i 0), ← List.replicate_succ']
  have := key (zerosM s.size) 0 (by omega)
  simpa using this
theorem spec_hex (n : Int) (hn : 0 ≤ n ∧ n < 4294967296) : Ev (fun k => spec_l1Hex.f k n) (hexM n) := by
  unfold spec_l1Hex.f
  have key : ∀ d i : Nat, i + d = 8 → Ev (fun k => spec_l1Hex.l0 k n (hexL n i) (7 - (i : Int))) (hexM n) := by
    intro d
    induction d with
    | zero =>
      intro i hi
      obtain rfl : i = 8 := by omega
      exact Ev.step (f := fun _ => some (hexM n)) (fun k => by simp only [spec_l1Hex.l0]; rw [if_neg (by omega)]; rfl) (Ev.now _)
    | succ d ih =>
      intro i hi
      have e7 : (7 - (i : Int)) = ((7 - i : Nat) : Int) := by omega
      have hw : wrap64 ((7 - (i : Int)) - 1) = 7 - ((i + 1 : Nat) : Int) := by unfold wrap64; omega
      have hnn : (0 : Int) ≤ IntKind.u64.wrap (wrap64 (4 * (7 - (i : Int)))) := by rw [IntKind.wrap_u64]; omega
      have hr := nib_range n i hn
      have hnib : Go.bits .and .u32 (shr .u32 n (IntKind.u64.wrap (wrap64 (4 * (7 - (i : Int)))))) 15 = nibM n i := by rw [nibM, e7]
      refine Ev.step (fun k => ?_) (ih (i + 1) (by omega))
      simp only [spec_l1Hex.l0]
      rw [if_pos (by omega), if_pos hnn, hnib, if_pos hr.1, if_pos hr.2, if_pos (by rw [hexL_len]; omega), hw, hexL_succ]
      rfl
  exact key 8 0 (by omega)
theorem spec_digest (s : ByteArray) (hs : s.size ≤ 70368744177664) : Ev (fun k => spec_Digest.f k s) (digestM s) := by
  unfold spec_Digest.f
  refine Ev.bind (spec_sum s hs) ?_
  obtain ⟨hl, hr⟩ := sumM_ok s
  unfold digestM
  generalize sumM s = h at hl hr
  refine fold_loop (n := 8) (F := fun k t i => spec_Digest.l0 k h t i) (st := fun i => digL h i) (fun i hi hh => ?_) (Ev.step (f := fun _ => some (digL h 8)) (fun k => ?_) (Ev.now _))
  · refine Ev.step (f := fun k => (spec_l1Hex.f k (rd h (i : Int))).bind fun t => if (digL h i).size + t.size ≤ 9223372036854775807 then spec_Digest.l0 k h (digL h i ++ t) ((i + 1 : Nat) : Int) else none) (fun k => ?_) (Ev.bind (spec_hex _ (hr.at _)) ?_)
    · simp only [spec_Digest.l0]
      rw [if_pos (by omega), if_pos (by omega), if_pos (by omega), wrap_nat i (by omega)]
    · simp only [if_pos (show (digL h i).size + (hexM (rd h (i : Int))).size ≤ 9223372036854775807 by rw [digL_size, hexM_size]; omega)]
      exact hh
  · simp only [spec_Digest.l0]; rw [if_neg (by omega)]
theorem spec_has (l : List ByteArray) (x : ByteArray) (hl : l.length ≤ 2097152) : Ev (fun k => spec_l1Has.f k l x) (decide (x ∈ l)) := by
  unfold spec_l1Has.f
  have key : ∀ d i : Nat, i + d = l.length → Ev (fun k => spec_l1Has.l0 k l x (i : Int)) (decide (x ∈ l.drop i)) := by
    intro d
    induction d with
    | zero =>
      intro i hi
      rw [List.drop_eq_nil_of_le (by omega)]
      exact Ev.step (f := fun _ => some (decide (x ∈ ([] : List ByteArray)))) (fun k => by simp only [spec_l1Has.l0]; rw [if_neg (by omega)]; simp) (Ev.now _)
    | succ d ih =>
      intro i hi
      have hlt : i < l.length := by omega
      rw [List.drop_eq_getElem_cons hlt]
      by_cases h : l[i] = x
      · rw [decide_eq_true (by rw [h]; exact List.mem_cons_self)]
        exact Ev.step (f := fun _ => some true) (fun k => by simp only [spec_l1Has.l0]; rw [if_pos (by omega), if_pos (by omega), rdS l i hlt, if_pos (by rw [h])]) (Ev.now _)
      · have : decide (x ∈ l[i] :: l.drop (i + 1)) = decide (x ∈ l.drop (i + 1)) := by
          rw [decide_eq_decide, List.mem_cons]
          exact ⟨fun hh => hh.resolve_left (fun e => h e.symm), .inr⟩
        rw [this]
        exact Ev.step (fun k => by simp only [spec_l1Has.l0]; rw [if_pos (by omega), if_pos (by omega), rdS l i hlt, if_neg (fun e => h ((same_is _ _).1 e)), wrap_nat i (by omega)]) (ih (i + 1) (by omega))
  exact key l.length 0 (by omega)
theorem spec_sift (l : List ByteArray) (out : List ByteArray) (i : Nat) (hi : i < l.length) (hl : l.length ≤ 2097152) (ho : out.length ≤ 2097152) (hr : Rising out) (hx : ¬ l[i] ∈ out) {r : List ByteArray}
    (hend : Ev (fun k => spec_l1Rising.l0 k l (insM out l[i]) ((i + 1 : Nat) : Int)) r) (j : Nat) : ∀ acc : List ByteArray, j ≤ out.length → acc.length = out.length + 1 → acc.take j = out.take j → acc.drop (j + 1) = out.drop j → (∀ (q : Nat) (h : q < out.length), j ≤ q → ¬ less out[q] l[i] = true) →
    Ev (fun k => spec_l1Rising.l1 k l acc (i : Int) (j : Int)) r := by
  have fin : ∀ (j : Nat) (acc : List ByteArray), j ≤ out.length → acc.length = out.length + 1 → acc.take j = out.take j → acc.drop (j + 1) = out.drop j → PlaceS out l[i] j → acc.set j l[i] = insM out l[i] := by
    intro j acc h1 h2 h3 h4 h5
    rw [insM_at hr hx h5, List.set_eq_take_append_cons_drop, if_pos (by omega), h3, h4]
  induction j with
  | zero =>
    intro acc h1 h2 h3 h4 h5
    have hpl : PlaceS out l[i] 0 := ⟨Nat.zero_le _, fun q h h0 => absurd h0 (by omega), fun q h _ => h5 q h (Nat.zero_le _)⟩
    refine Ev.step (fun k => ?_) hend
    simp only [spec_l1Rising.l1]
    rw [if_neg (by omega), if_pos (by omega), if_pos (by omega), if_pos (by omega), if_pos (by omega), rdS l i hi, wrap_nat i (by omega), Int.toNat_natCast, fin 0 acc h1 h2 h3 h4 hpl]
  | succ j ih =>
    intro acc h1 h2 h3 h4 h5
    have hj : j < out.length := by omega
    have hacc : acc[j]? = some out[j] := by
      have e1 : (acc.take (j + 1))[j]? = acc[j]? := List.getElem?_take_of_lt (by omega)
      have e2 : (out.take (j + 1))[j]? = out[j]? := List.getElem?_take_of_lt (by omega)
      rw [← e1, h3, e2, List.getElem?_eq_getElem hj]
    have haj : acc[j]'(by omega) = out[j] := by
      have := List.getElem?_eq_getElem (l := acc) (i := j) (by omega)
      rw [hacc] at this; exact (Option.some.inj this).symm
    have hw : wrap64 (((j + 1 : Nat) : Int) - 1) = (j : Int) := by unfold wrap64; omega
    cases hc : less l[i] out[j] with
    | true =>
      have hn : ¬ less out[j] l[i] = true := fun h => less_irrefl _ (less_trans h hc)
      refine Ev.step (fun k => ?_) (ih (acc.set (j + 1) out[j]) (by omega) (by rw [List.length_set]; exact h2) ?_ ?_ ?_)
      · simp only [spec_l1Rising.l1]
        rw [if_pos (by omega), hw, if_pos (by omega), if_pos (by omega), if_pos (by omega), if_pos (by omega), rdS l i hi, rdS acc j (by omega), haj, if_pos (show Op.bytesLess l[i].toList out[j].toList = true from hc), if_pos (by omega), if_pos (by omega), Int.toNat_natCast]
      · rw [List.take_set_of_le (by omega)]
        have := congrArg (List.take j) h3
        rwa [List.take_take, List.take_take, Nat.min_eq_left (by omega)] at this
      · rw [List.drop_set]
        simp only [Nat.lt_irrefl, if_false, Nat.sub_self]
        rw [List.drop_eq_getElem_cons (show j + 1 < acc.length by omega), List.set_cons_zero, h4, ← List.drop_eq_getElem_cons hj]
      · intro q hq hge
        rcases Nat.lt_or_ge j q with h | h
        · exact h5 q hq (by omega)
        · obtain rfl : q = j := by omega
          exact hn
    | false =>
      have hlt : less out[j] l[i] = true := by
        cases h : less out[j] l[i] with
        | true => rfl
        | false => exact absurd (less_total (by rw [hc]; decide) (by rw [h]; decide) ▸ List.getElem_mem hj) hx
      have hpl : PlaceS out l[i] (j + 1) := ⟨h1, fun q h hq => by
        rcases Nat.lt_or_ge q j with h' | h'
        · exact less_trans (hr q j h hj h') hlt
        · obtain rfl : q = j := by omega
          exact hlt, h5⟩
      refine Ev.step (fun k => ?_) hend
      simp only [spec_l1Rising.l1]
      rw [if_pos (by omega), hw, if_pos (by omega), if_pos (by omega), if_pos (by omega), if_pos (by omega), rdS l i hi, rdS acc j (by omega), haj, if_neg (show ¬ Op.bytesLess l[i].toList out[j].toList = true by rw [show Op.bytesLess l[i].toList out[j].toList = false from hc]; decide), if_pos (by omega), if_pos (by omega), wrap_nat i (by omega), Int.toNat_natCast, fin (j + 1) acc h1 h2 h3 h4 hpl]
theorem spec_rising (l : List ByteArray) (hl : l.length ≤ 2097152) : Ev (fun k => spec_l1Rising.f k l) (riseM l) := by
  unfold spec_l1Rising.f
  have hst : ∀ i : Nat, Rising (riseM (l.take i)) ∧ (riseM (l.take i)).length ≤ i := fun i => by
    have := riseM_fold (l.take i) [] rising_nil
    rw [List.length_take, List.length_nil] at this
    exact ⟨this.1, by unfold riseM; omega⟩
  refine fold_loop (n := l.length) (F := fun k acc i => spec_l1Rising.l0 k l acc i) (st := fun i => riseM (l.take i)) (fun i hi hr => ?_) (Ev.step (f := fun _ => some (riseM l)) (fun k => ?_) (Ev.now _))
  · obtain ⟨h1, h2⟩ := hst i
    rw [riseM_take_succ l i hi] at hr
    generalize riseM (l.take i) = out at h1 h2 hr
    refine Ev.step (f := fun k => (spec_l1Has.f k out l[i]).bind fun t => if t = true then spec_l1Rising.l0 k l out ((i + 1 : Nat) : Int) else spec_l1Rising.l1 k l (out ++ [l[i]]) (i : Int) (out.length : Int)) (fun k => ?_) (Ev.bind (spec_has out _ (by omega)) ?_)
    · simp only [spec_l1Rising.l0]
      rw [if_pos (by omega), if_pos (by omega), rdS l i hi, wrap_nat i (by omega), if_pos (by omega)]
    · by_cases hx : l[i] ∈ out
      · simp only [decide_eq_true hx, if_true]
        rwa [insM, if_pos hx] at hr
      · simp only [decide_eq_false hx, Bool.false_eq_true, if_false]
        exact spec_sift l out i hi hl (by omega) h1 hx hr out.length (out ++ [l[i]]) (Nat.le_refl _) (by simp) (by simp) (by simp) (fun q h hge => absurd h (by omega))
  · simp only [spec_l1Rising.l0]; rw [if_neg (by omega), List.take_length]
section
variable {l : List Int} (hb : ∀ x ∈ l, (Lit.int .u8 x).wf = true) (hm : l.length ≤ 140737488351232)
include hb in
theorem rd_u8 (i : Int) : 0 ≤ rd l i ∧ rd l i ≤ 255 := by
  unfold rd
  rw [List.getD_eq_getElem?_getD]
  by_cases h : i.toNat < l.length
  · rw [List.getElem?_eq_getElem h]; exact wf_u8 (hb _ (List.getElem_mem h))
  · rw [List.getElem?_eq_none (by omega)]; simp
include hb hm in
theorem next_ok (p : Int) (h0 : 0 ≤ p) (h1 : p ≤ l.length) : ∃ c q, spec_l1Rd_next.f l p = some (c, q) ∧ 0 ≤ c ∧ c ≤ 255 ∧ 0 ≤ q ∧ q ≤ l.length := by
  unfold spec_l1Rd_next.f
  by_cases h : p ≥ (l.length : Int)
  · exact ⟨0, p, by rw [if_pos h], by omega, by omega, h0, h1⟩
  · have e1 : wrap64 (p + 1) = p + 1 := by unfold wrap64; omega
    have e2 : wrap64 (p + 1 - 1) = p := by unfold wrap64; omega
    obtain ⟨r0, r1⟩ := rd_u8 hb p
    have e3 : wrap64 (rd l p) = rd l p := by unfold wrap64; omega
    exact ⟨rd l p, p + 1, by rw [if_neg h, e1, e2, if_pos h0, if_pos (by omega), e3], r0, r1, by omega, by omega⟩
include hb hm in
theorem below_ok (p n : Int) (h0 : 0 ≤ p) (h1 : p ≤ l.length) (n0 : 1 ≤ n) (n1 : n ≤ 1000000) : ∃ c q, spec_l1Rd_below.f l p n = some (c, q) ∧ 0 ≤ c ∧ c < n ∧ 0 ≤ q ∧ q ≤ l.length := by
  unfold spec_l1Rd_below.f
  by_cases h : n ≤ 1
  · exact ⟨0, p, by rw [if_pos h], by omega, by omega, h0, h1⟩
  · rw [if_neg h]
    obtain ⟨c, q, hc, c0, c1, q0, q1⟩ := next_ok hb hm p h0 h1
    by_cases h2 : n ≤ 256
    · refine ⟨c % n, q, ?_, Int.emod_nonneg _ (by omega), Int.emod_lt_of_pos _ (by omega), q0, q1⟩
      rw [if_pos h2, hc]; simp only [Option.bind_some]; rw [if_neg (by omega), Int.tmod_eq_emod_of_nonneg c0]
    · obtain ⟨d, q', hd, d0, d1, q0', q1'⟩ := next_ok hb hm q q0 q1
      have e : wrap64 (wrap64 (c * 256) + d) = c * 256 + d := by unfold wrap64; omega
      refine ⟨(c * 256 + d) % n, q', ?_, Int.emod_nonneg _ (by omega), Int.emod_lt_of_pos _ (by omega), q0', q1'⟩
      rw [if_neg h2, hc]; simp only [Option.bind_some]; rw [hd]; simp only [Option.bind_some]; rw [if_neg (by omega), e, Int.tmod_eq_emod_of_nonneg (by omega)]
include hb hm in
theorem once_ok (p n : Int) (h0 : 0 ≤ p) (h1 : p ≤ l.length) (n0 : 1 ≤ n) (n1 : n ≤ 1000000) : ∃ b q, spec_l1Rd_once.f l p n = some (b, q) ∧ 0 ≤ q ∧ q ≤ l.length := by
  unfold spec_l1Rd_once.f
  obtain ⟨c, q, hc, c0, c1, q0, q1⟩ := below_ok hb hm p n h0 h1 n0 n1
  exact ⟨_, q, by rw [hc]; rfl, q0, q1⟩
/-- Texts of at most 100 bytes. -/
def Small (xs : List ByteArray) : Prop := ∀ x ∈ xs, x.size ≤ 100
theorem Small.app {xs : List ByteArray} (h : Small xs) {x : ByteArray} (hx : x.size ≤ 100) : Small (xs ++ [x]) := fun y hy => by
  rcases List.mem_append.1 hy with hy | hy
  · exact h y hy
  · rw [List.mem_singleton.1 hy]; exact hx
theorem Small.rise {xs : List ByteArray} (h : Small xs) : Small (riseM xs) := fun y hy => h y (riseM_mem hy)
theorem Small.at {xs : List ByteArray} (h : Small xs) (i : Int) : (rdOf ByteArray.empty xs i).size ≤ 100 := by
  unfold rdOf
  rw [List.getD_eq_getElem?_getD]
  cases hx : xs[i.toNat]? with
  | none => exact Nat.zero_le _
  | some x => exact h x (List.mem_of_getElem? hx)
def eightT : List ByteArray := [⟨#[97]⟩, ⟨#[98]⟩, ⟨#[99]⟩, ⟨#[100]⟩, ⟨#[101]⟩, ⟨#[102]⟩, ⟨#[103]⟩, ⟨#[104]⟩]
theorem eight_small (i : Int) : (rdOf ByteArray.empty eightT i).size ≤ 1 := by
  unfold rdOf
  rw [List.getD_eq_getElem?_getD]
  cases hx : eightT[i.toNat]? with
  | none => exact Nat.zero_le _
  | some x =>
    have := List.mem_of_getElem? hx
    simp only [eightT, List.mem_cons, List.not_mem_nil, or_false] at this
    rcases this with rfl | rfl | rfl | rfl | rfl | rfl | rfl | rfl <;> exact Nat.le_refl 1
theorem last_at (xs : List ByteArray) (x : ByteArray) (h : xs.length < 1000000) : rdOf ByteArray.empty (xs ++ [x]) (wrap64 (((xs ++ [x]).length : Int) - 1)) = x := by
  have e : wrap64 (((xs ++ [x]).length : Int) - 1) = (xs.length : Int) := by rw [List.length_append, List.length_singleton]; unfold wrap64; omega
  rw [e, rdS _ xs.length (by simp)]; simp
include hb hm in
theorem set_loop (d : Nat) : ∀ (n p : Int) (acc : List ByteArray), n.toNat ≤ d → n ≤ 6 → acc.length + 2 * n.toNat ≤ 100 → Small acc → 0 ≤ p → p ≤ l.length → ∃ (ys : List ByteArray) (q : Int), Ev (fun k => spec_l1Rd_set.l0 k acc n l p) (ys, q) ∧ ys.length ≤ 100 ∧ Small ys ∧ 0 ≤ q ∧ q ≤ l.length := by
  induction d with
  | zero =>
    intro n p acc hn h6 hl hs h0 h1
    refine ⟨riseM acc, p, Ev.step (f := fun k => (spec_l1Rising.f k acc).bind fun t => some (t, p)) (fun k => ?_) (Ev.bind (spec_rising acc (by omega)) (Ev.now _)), by have := riseM_len acc; omega, hs.rise, h0, h1⟩
    simp only [spec_l1Rd_set.l0]; rw [if_neg (by omega)]
  | succ d ih =>
    intro n p acc hn h6 hl hs h0 h1
    by_cases hz : n > 0
    case neg =>
      refine ⟨riseM acc, p, Ev.step (f := fun k => (spec_l1Rising.f k acc).bind fun t => some (t, p)) (fun k => ?_) (Ev.bind (spec_rising acc (by omega)) (Ev.now _)), by have := riseM_len acc; omega, hs.rise, h0, h1⟩
      simp only [spec_l1Rd_set.l0]; rw [if_neg (by omega)]
    obtain ⟨c, q1, hc, c0, c1, q10, q11⟩ := below_ok hb hm p 8 h0 h1 (by omega) (by omega)
    have hsz := eight_small c
    obtain ⟨D, hD⟩ : ∃ D, D = digestM (rdOf ByteArray.empty eightT c) := ⟨_, rfl⟩
    have hDs : D.size = 71 := by rw [hD]; exact digestM_size _
    obtain ⟨b, q2, ho, q20, q21⟩ := once_ok hb hm q1 4 q10 q11 (by omega) (by omega)
    have hw : wrap64 (n - 1) = n - 1 := by unfold wrap64; omega
    have hlast := last_at acc D (by omega)
    have happ : (acc ++ [D]).length = acc.length + 1 := by simp
    have hw1 : wrap64 (((acc ++ [D]).length : Int) - 1) = (acc.length : Int) := by rw [happ]; unfold wrap64; omega
    -- how it goes on
    have go : ∀ {r : List ByteArray × Int}, Ev (fun k => if b = true then ((spec_l1Rd_below.f l q2 16).bind fun bt333 => (if 0 ≤ bt333.1 then (if bt333.1 ≤ 16 then (if 0 ≤ 1 then (if 1 ≤ ((hexD.extract (bt333.1 : Int).toNat hexD.size).size : Int) then (if (D.extract 0 70).size + ((hexD.extract (bt333.1 : Int).toNat hexD.size).extract 0 1).size ≤ 9223372036854775807 then (if (acc ++ [D]).length < 8796093022208 then (spec_l1Rd_set.l0 k ((acc ++ [D]) ++ [(D.extract 0 70) ++ ((hexD.extract (bt333.1 : Int).toNat hexD.size).extract 0 1)]) (n - 1) l bt333.2) else (none)) else (none)) else (none)) else (none)) else (none)) else (none))) else spec_l1Rd_set.l0 k (acc ++ [D]) (n - 1) l q2) r → Ev (fun k => spec_l1Rd_set.l0 k acc n l p) r := by
      intro r h
      refine Ev.step (f := fun k => (spec_Digest.f k (rdOf ByteArray.empty eightT c)).bind fun t326 => (if acc.length < 8796093022208 then ((some (acc ++ [t326] : List ByteArray)).bind fun y327 => ((spec_l1Rd_once.f l q1 4).bind fun bt330 => (if bt330.1 = true then (if 0 ≤ (wrap64 ((y327.length : Int) - 1)) then (if (wrap64 ((y327.length : Int) - 1)) < (y327.length : Int) then (if 0 ≤ 70 then (if 70 ≤ ((rdOf ByteArray.empty y327 (wrap64 ((y327.length : Int) - 1))).size : Int) then ((spec_l1Rd_below.f l bt330.2 16).bind fun bt333 => (if 0 ≤ bt333.1 then (if bt333.1 ≤ 16 then (if 0 ≤ 1 then (if 1 ≤ ((hexD.extract (bt333.1 : Int).toNat hexD.size).size : Int) then (if ((rdOf ByteArray.empty y327 (wrap64 ((y327.length : Int) - 1))).extract 0 70).size + ((hexD.extract (bt333.1 : Int).toNat hexD.size).extract 0 1).size ≤ 9223372036854775807 then (if y327.length < 8796093022208 then (spec_l1Rd_set.l0 k (y327 ++ [((rdOf ByteArray.empty y327 (wrap64 ((y327.length : Int) - 1))).extract 0 70) ++ ((hexD.extract (bt333.1 : Int).toNat hexD.size).extract 0 1)]) (wrap64 (n - 1)) l bt333.2) else (none)) else (none)) else (none)) else (none)) else (none)) else (none))) else (none)) else (none)) else (none)) else (none)) else (spec_l1Rd_set.l0 k y327 (wrap64 (n - 1)) l bt330.2)))) else (none))) (fun k => ?_) (Ev.bind (spec_digest _ (by omega)) ?_)
      · simp only [spec_l1Rd_set.l0]
        rw [if_pos hz, bindS, hc, bindS, if_pos c0, if_pos (by simp only [List.length_cons, List.length_nil]; omega)]
        rfl
      · rw [← hD]
        simp only [if_pos (show acc.length < 8796093022208 by omega), bindS, ho, hlast, hw, hw1, if_pos (show (0 : Int) ≤ (acc.length : Int) by omega), if_pos (show (acc.length : Int) < ((acc ++ [D]).length : Int) by omega), if_pos (show (0 : Nat) ≤ 70 by omega), if_pos (show (70 : Int) ≤ (D.size : Int) by omega)]
        have hl2 : rdOf ByteArray.empty (acc ++ [D]) (acc.length : Int) = D := by rw [← hw1]; exact hlast
        simp only [hl2, if_pos (show (70 : Int) ≤ (D.size : Int) by omega)]
        exact h
    cases b with
    | false =>
      obtain ⟨ys, q, he, h2, h3, h4, h5⟩ := ih (n - 1) q2 (acc ++ [D]) (by omega) (by omega) (by rw [happ]; omega) (hs.app (by omega)) q20 q21
      exact ⟨ys, q, go (by simp only [Bool.false_eq_true, if_false]; exact he), h2, h3, h4, h5⟩
    | true =>
      obtain ⟨e, q3, he16, e0, e1, q30, q31⟩ := below_ok hb hm q2 16 q20 q21 (by omega) (by omega)
      have hx1 : (hexD.extract e.toNat hexD.size).size = 16 - e.toNat := by rw [ByteArray.size_extract]; show min 16 16 - e.toNat = _; omega
      have hx2 : ((hexD.extract e.toNat hexD.size).extract 0 1).size ≤ 1 := by rw [ByteArray.size_extract]; omega
      have hx3 : (D.extract 0 70).size ≤ 70 := by rw [ByteArray.size_extract]; omega
      obtain ⟨ys, q, he, h2, h3, h4, h5⟩ := ih (n - 1) q3 ((acc ++ [D]) ++ [(D.extract 0 70) ++ ((hexD.extract e.toNat hexD.size).extract 0 1)]) (by omega) (by omega) (by rw [List.length_append, happ, List.length_singleton]; omega) ((hs.app (by omega)).app (by rw [ByteArray.size_append]; omega)) q30 q31
      refine ⟨ys, q, go ?_, h2, h3, h4, h5⟩
      simp only [if_true, he16, bindS, if_pos e0, if_pos (show e ≤ 16 by omega), if_pos (show (0 : Nat) ≤ 1 by omega), if_pos (show (1 : Int) ≤ ((hexD.extract e.toNat hexD.size).size : Int) by omega), if_pos (show (D.extract 0 70).size + ((hexD.extract e.toNat hexD.size).extract 0 1).size ≤ 9223372036854775807 by omega), if_pos (show (acc ++ [D]).length < 8796093022208 by omega)]
      exact he
include hb hm in
theorem set_ok (p : Int) (h0 : 0 ≤ p) (h1 : p ≤ l.length) : ∃ (ys : List ByteArray) (q : Int), Ev (fun k => spec_l1Rd_set.f k l p) (ys, q) ∧ ys.length ≤ 100 ∧ Small ys ∧ 0 ≤ q ∧ q ≤ l.length := by
  unfold spec_l1Rd_set.f
  have e : 1 ≤ mn 6 (wrap64 (1 + wrap64 ((l.length : Int) / 3))) ∧ mn 6 (wrap64 (1 + wrap64 ((l.length : Int) / 3))) ≤ 6 := by
    have : wrap64 (1 + wrap64 ((l.length : Int) / 3)) = 1 + (l.length : Int) / 3 := by unfold wrap64; omega
    rw [this]; unfold mn; omega
  obtain ⟨c, q, hc, c0, c1, q0, q1⟩ := below_ok hb hm p _ h0 h1 e.1 (by omega)
  obtain ⟨ys, q', he, h⟩ := set_loop hb hm 6 c q [] (by omega) (by omega) (by simp; omega) (fun x hx => by cases hx) q0 q1
  refine ⟨ys, q', ?_, h⟩
  rw [hc]
  simp only [bindS]; exact he
include hb hm in
theorem oddSet_ok (p : Int) (h0 : 0 ≤ p) (h1 : p ≤ l.length) : ∃ (ys : List ByteArray) (q : Int), Ev (fun k => spec_l1Rd_oddSet.f k l p) (ys, q) ∧ ys.length ≤ 200 ∧ Small ys ∧ 0 ≤ q ∧ q ≤ l.length := by
  unfold spec_l1Rd_oddSet.f
  obtain ⟨ys, q, he, hl, hs, q0, q1⟩ := set_ok hb hm p h0 h1
  obtain ⟨c, q', hc, c0, c1, q0', q1'⟩ := below_ok hb hm q 24 q0 q1 (by omega) (by omega)
  by_cases hz : c = 0
  · refine ⟨ys ++ [⟨#[115, 104, 97, 50, 53, 54, 58]⟩], q', Ev.bind he ?_, by simp; omega, hs.app (by decide), q0', q1'⟩
    simp only [hc, bindS, if_pos hz, if_pos (show ys.length < 8796093022208 by omega)]; exact Ev.now _
  · by_cases h1' : c = 1
    · refine ⟨ys ++ ys, q', Ev.bind he ?_, by simp; omega, fun x hx => hs x ((List.mem_append.1 hx).elim id id), q0', q1'⟩
      simp only [hc, bindS, if_neg hz, if_pos h1', if_pos (show ys.length + ys.length < 8796093022208 by omega)]; exact Ev.now _
    · refine ⟨ys, q', Ev.bind he ?_, by omega, hs, q0', q1'⟩
      simp only [hc, bindS, if_neg hz, if_neg h1']; exact Ev.now _
include hb hm in
theorem drawSteps_ok : ∃ (a b : List ByteArray), Ev (fun k => spec_DrawSteps.f k l) (a, b) ∧ a.length ≤ 200 ∧ b.length ≤ 200 ∧ Small a ∧ Small b := by
  unfold spec_DrawSteps.f spec_l1Open.f
  obtain ⟨xs, q, he, hl, hs, q0, q1⟩ := oddSet_ok hb hm 0 (by omega) (by omega)
  obtain ⟨c, q2, hc, q20, q21⟩ := once_ok hb hm q 2 q0 q1 (by omega) (by omega)
  simp only [bindS]
  cases c with
  | false =>
    obtain ⟨ys, q3, he2, hl2, hs2, q30, q31⟩ := oddSet_ok hb hm q2 q20 q21
    refine ⟨xs, ys, Ev.bind he ?_, hl, hl2, hs, hs2⟩
    simp only [hc, bindS, Bool.false_eq_true, if_false]
    exact Ev.bind he2 (Ev.now _)
  | true =>
    by_cases hz : (xs.length : Int) > 0
    · obtain ⟨e, q3, hee, e0, e1, q30, q31⟩ := below_ok hb hm q2 (xs.length : Int) q20 q21 (by omega) (by omega)
      have hw : wrap64 (e + 1) = e + 1 := by unfold wrap64; omega
      have hle : (xs.eraseIdx e.toNat).length ≤ xs.length := (List.eraseIdx_sublist xs e.toNat).length_le
      refine ⟨xs, xs.eraseIdx e.toNat, Ev.bind he ?_, hl, by omega, hs, fun x hx => hs x ((List.eraseIdx_sublist xs e.toNat).subset hx)⟩
      simp only [hc, bindS, if_true, List.nil_append, if_pos (show ([] : List ByteArray).length + xs.length < 8796093022208 by rw [List.length_nil]; omega), if_pos hz, hee, if_pos e0, if_pos (show e ≤ (xs.length : Int) by omega), hw, if_pos (show 0 ≤ e + 1 by omega), if_pos (show e + 1 ≤ (xs.length : Int) by omega)]
      exact Ev.now _
    · refine ⟨xs, xs, Ev.bind he ?_, hl, hl, hs, hs⟩
      simp only [hc, bindS, if_true, List.nil_append, if_pos (show ([] : List ByteArray).length + xs.length < 8796093022208 by rw [List.length_nil]; omega), if_neg hz]
      exact Ev.now _
end
theorem l1Digit_eq (c : Int) : spec_l1Digit.f c = some (decide (48 ≤ c ∧ c ≤ 57)) := by
  unfold spec_l1Digit.f
  by_cases h1 : c ≥ 48 <;> by_cases h2 : c ≤ 57 <;> simp [h1, h2] <;> omega
theorem l1Hexit_eq (c : Int) (h0 : 0 ≤ c) (h1 : c ≤ 255) : spec_l1Hexit.f c = some (hexV c) := by
  unfold spec_l1Hexit.f
  rw [l1Digit_eq]
  simp only [Option.bind_some, decide_eq_true_eq, hexV]
  repeat' split
  all_goals first | rfl | (exfalso; omega) | (congr 1; omega)
theorem spec_dig_loop (s : ByteArray) (hs : s.size = 71) (d : Nat) : ∀ i : Nat, i + d = 71 → Ev (fun k => spec_DigestOk.l0 k s (i : Int)) (((bytesOf s).drop i).all hexB) := by
  induction d with
  | zero =>
    intro i hi
    rw [List.drop_eq_nil_of_le (by rw [bytesOf_length]; omega)]
    refine Ev.step (f := fun _ => some true) (fun k => ?_) (Ev.now _)
    simp only [spec_DigestOk.l0]; rw [if_neg (by omega)]
  | succ d ih =>
    intro i hi
    have hlt : i < s.size := by omega
    rw [drop_bytes s i hlt]
    have hb := bt_range s i
    refine Ev.step (f := fun k => if hexV (bt s i) < 0 then some false else spec_DigestOk.l0 k s ((i + 1 : Nat) : Int)) (fun k => ?_) ?_
    · simp only [spec_DigestOk.l0]; rw [if_pos (by omega), if_pos (by omega), if_pos (by omega), l1Hexit_eq _ hb.1 hb.2]; simp only [Option.bind_some]
      rw [wrap_succ i _ hlt (by omega)]
    · by_cases h : hexB (bt s i) = true
      · have hn : ¬ hexV (bt s i) < 0 := by rw [hexV_neg]; exact fun hh => hh h
        simp only [if_neg hn, List.all_cons, h, Bool.true_and]; exact ih (i + 1) (by omega)
      · have hn : hexV (bt s i) < 0 := by rw [hexV_neg]; exact h
        simp only [if_pos hn, List.all_cons, h, Bool.false_and]; exact Ev.now _
theorem spec_dig (s : ByteArray) : Ev (fun k => spec_DigestOk.f k s) (digestOk s) := by
  unfold spec_DigestOk.f digestOk
  by_cases h1 : (s.size : Int) = 71
  · have hs : s.size = 71 := by omega
    simp only [if_pos h1, show decide (s.size = 71) = true from decide_eq_true hs, Bool.true_and, show (0 : Nat) ≤ 7 by omega, show (7 : Int) ≤ (s.size : Int) by omega, if_true]
    refine Ev.step (f := fun k => if ((s.extract 0 7).toList != ([115, 104, 97, 50, 53, 54, 58] : List UInt8)) = true then some false else spec_DigestOk.l0 k s 7) (fun k => by simp only [spec_DigestOk.j0]) ?_
    cases h : ((s.extract 0 7).toList == digHead) with
    | true =>
      have h' : ((s.extract 0 7).toList != ([115, 104, 97, 50, 53, 54, 58] : List UInt8)) = false := by
        show (!((s.extract 0 7).toList == digHead)) = false; rw [h]; rfl
      simp only [h', Bool.false_eq_true, if_false, Bool.true_and]
      exact spec_dig_loop s hs 64 7 rfl
    | false =>
      have h' : ((s.extract 0 7).toList != ([115, 104, 97, 50, 53, 54, 58] : List UInt8)) = true := by
        show (!((s.extract 0 7).toList == digHead)) = true; rw [h]; rfl
      simp only [h', if_true, Bool.false_and]
      exact Ev.now _
  · have hs : ¬ s.size = 71 := by omega
    simp only [if_neg h1, hs, decide_false, Bool.false_and]
    refine Ev.step (f := fun k => some false) (fun k => by simp only [spec_DigestOk.j0, if_true]) (Ev.now _)
theorem head_size : (⟨#[115, 104, 97, 50, 53, 54, 58]⟩ : ByteArray).size = 7 := rfl
theorem head_list : (⟨#[115, 104, 97, 50, 53, 54, 58]⟩ : ByteArray).toList = digHead := toL _
theorem cutHead (s : ByteArray) : strings_CutPrefix.f s (⟨#[115, 104, 97, 50, 53, 54, 58]⟩ : ByteArray) = some (if (decide (7 ≤ s.size) && ((s.extract 0 7).toList == digHead)) = true then (s.extract 7 s.size, true) else (s, false)) := by
  unfold strings_CutPrefix.f stringslite_CutPrefix.f stringslite_HasPrefix.f
  rw [head_size, head_list]
  by_cases h : 7 ≤ s.size
  · have h2 : (s.size : Int) ≥ ((7 : Nat) : Int) := by omega
    simp only [if_pos h2, show (0 : Int) ≤ ((7 : Nat) : Int) by omega, show ((7 : Nat) : Int) ≤ (s.size : Int) from h2, if_true, Option.bind_some, h, decide_true, Bool.true_and, Int.toNat_natCast]
    cases hh : ((s.extract 0 7).toList == digHead) <;> simp
  · have h2 : ¬ (s.size : Int) ≥ ((7 : Nat) : Int) := by omega
    simp only [if_neg h2, Option.bind_some, h, decide_false, Bool.false_and, Bool.false_eq_true, if_false]
theorem trimHex (s : ByteArray) (hs : s.size ≤ 140737488351232) : ∃ t, strings_Trim.f s (⟨#[48, 49, 50, 51, 52, 53, 54, 55, 56, 57, 97, 98, 99, 100, 101, 102]⟩ : ByteArray) = some t ∧ (t.toList == ([] : List UInt8)) = (bytesOf s).all hexB := by
  unfold strings_Trim.f
  refine ⟨_, if_pos ⟨by omega, by decide, by decide⟩, ?_⟩
  rw [toL]
  show (Lib.trimS s.data.toList hexSet == []) = _
  rw [trimS_nil]
  have := all_bytes s hexB 0
  rw [List.drop_zero, List.drop_zero] at this
  rw [this]
  congr 1; funext b; exact hexSet_is b
theorem impl_dig (s : ByteArray) (hs : s.size ≤ 140737488351232) : impl_isDigest.f s = some (digestOk s) := by
  unfold impl_isDigest.f
  rw [cutHead]
  simp only [Option.bind_some]
  unfold digestOk
  by_cases h71 : s.size = 71
  · cases hh : ((s.extract 0 7).toList == digHead) with
    | true =>
      have hx : (s.extract 7 s.size).size = 64 := by rw [ByteArray.size_extract]; omega
      obtain ⟨t, ht, he⟩ := trimHex (s.extract 7 s.size) (by omega)
      rw [h71] at hx ht he ⊢
      simp only [show (7 : Nat) ≤ 71 by omega, decide_true, Bool.true_and, if_true, hx, show ((64 : Nat) : Int) = 64 from rfl, ht, Option.bind_some, he]
      rw [show (bytesOf (s.extract 7 71)) = (bytesOf s).drop 7 by
        simp only [bytesOf, extract_data, List.map_take, List.map_drop]
        rw [List.take_of_length_le]
        simp only [List.length_drop, List.length_map, Array.length_toList]
        have : s.data.size = 71 := h71
        omega]
    | false => simp
  · simp only [h71, decide_false, Bool.false_and]
    cases hh : (decide (7 ≤ s.size) && ((s.extract 0 7).toList == digHead)) with
    | true =>
      have h7 : 7 ≤ s.size := by simp only [Bool.and_eq_true, decide_eq_true_eq] at hh; exact hh.1
      have hx : ¬ ((s.extract 7 s.size).size : Int) = 64 := by rw [ByteArray.size_extract]; omega
      simp only [if_true, if_neg hx]
    | false => simp
theorem spec_rises (l : List ByteArray) (hl : l.length ≤ 2097152) : Ev (fun k => spec_l1Rises.f k l) (risesM l) := by
  unfold spec_l1Rises.f risesM
  have := all_loop (n := l.length - 1) (F := fun k z => spec_l1Rises.l0 k l (z + 1)) (p := fun i => less (atS l i) (atS l (i + 1)))
    (fun i hi r hr => by
      have e1 : wrap64 ((i : Int) + 1 - 1) = (i : Int) := by unfold wrap64; omega
      have e2 : wrap64 ((i : Int) + 1 + 1) = ((i + 1 : Nat) : Int) + 1 := by unfold wrap64; omega
      refine Ev.step (f := fun k => if less (atS l i) (atS l (i + 1)) = true then spec_l1Rises.l0 k l (((i + 1 : Nat) : Int) + 1) else some false) (fun k => ?_) ?_
      · simp only [spec_l1Rises.l0]
        rw [if_pos (by omega), if_pos (by omega), e1, e2, if_pos (by omega), if_pos (by omega), show (i : Int) + 1 = ((i + 1 : Nat) : Int) by omega, rdS l i (by omega), rdS l (i + 1) (by omega), atS_is l i (by omega), atS_is l (i + 1) (by omega)]
        rfl
      · cases less (atS l i) (atS l (i + 1)) with
        | true => simp only [if_true, Bool.true_and]; exact hr
        | false => simp only [Bool.false_eq_true, if_false, Bool.false_and]; exact Ev.now _)
    (Ev.step (f := fun _ => some true) (fun k => by simp only [spec_l1Rises.l0]; rw [if_neg (by omega)]) (Ev.now _))
  exact this
theorem spec_set (l : List ByteArray) (hl : l.length ≤ 2097152) : Ev (fun k => spec_l7Set.f k l) (setOk l) := by
  rw [setOk_is]
  unfold spec_l7Set.f
  by_cases h0 : (l.length : Int) > 200
  · simp only [if_pos h0, show decide (l.length ≤ 200) = false from decide_eq_false (by omega), Bool.false_and]
    exact Ev.step (f := fun _ => some false) (fun k => by simp only [spec_l7Set.j0, if_true]) (Ev.now _)
  · simp only [if_neg h0, show decide (l.length ≤ 200) = true from decide_eq_true (by omega), Bool.true_and]
    refine Ev.bind (spec_rises l hl) ?_
    cases hr : risesM l with
    | false =>
      simp only [Bool.not_false, Bool.false_and]
      exact Ev.step (f := fun _ => some false) (fun k => by simp only [spec_l7Set.j0, if_true]) (Ev.now _)
    | true =>
      simp only [Bool.not_true, Bool.true_and]
      refine Ev.step (f := fun k => spec_l7Set.l0 k l 0) (fun k => by simp only [spec_l7Set.j0, Bool.false_eq_true, if_false]) ?_
      exact all_loop (n := l.length) (F := fun k z => spec_l7Set.l0 k l z) (p := fun i => digestOk (atS l i))
        (fun i hi r hr => by
          refine Ev.step (f := fun k => (spec_DigestOk.f k (atS l i)).bind fun t => if t = true then spec_l7Set.l0 k l ((i + 1 : Nat) : Int) else some false) (fun k => ?_) (Ev.bind (spec_dig _) ?_)
          · simp only [spec_l7Set.l0]; rw [if_pos (by omega), if_pos (by omega), rdS l i hi, wrap_nat i (by omega), atS_is l i hi]
          · cases digestOk (atS l i) with
            | true => simp only [if_true, Bool.true_and]; exact hr
            | false => simp only [Bool.false_eq_true, if_false, Bool.false_and]; exact Ev.now _)
        (Ev.step (f := fun _ => some true) (fun k => by simp only [spec_l7Set.l0]; rw [if_neg (by omega)]) (Ev.now _))
theorem impl_set (l : List ByteArray) (hl : l.length ≤ 2097152) (hx : ∀ x ∈ l, x.size ≤ 140737488351232) : Ev (fun k => impl_isSet.f k l) (setOk l) := by
  unfold impl_isSet.f
  have key : ∀ d i : Nat, i + d = l.length → Ev (fun k => impl_isSet.l0 k l l (l.length : Int) (i : Int)) (((List.range' i d).all fun i => digestOk (atS l i) && (decide (i = 0) || less (atS l (i - 1)) (atS l i))) && decide (l.length ≤ 200)) := by
    intro d
    induction d with
    | zero =>
      intro i hi
      refine Ev.step (f := fun _ => some (decide (l.length ≤ 200))) (fun k => ?_) (Ev.now _)
      simp only [impl_isSet.l0]; rw [if_neg (by omega)]; congr 1; rw [decide_eq_decide]; omega
    | succ d ih =>
      intro i hi
      have hlt : i < l.length := by omega
      rw [List.range'_succ, List.all_cons, Bool.and_assoc]
      have hn := ih (i + 1) (by omega)
      refine Ev.step (f := fun k => if digestOk (atS l i) = true then (if i = 0 then impl_isSet.l0 k l l (l.length : Int) ((i + 1 : Nat) : Int) else if less (atS l (i - 1)) (atS l i) = true then impl_isSet.l0 k l l (l.length : Int) ((i + 1 : Nat) : Int) else some false) else some false) (fun k => ?_) ?_
      · simp only [impl_isSet.l0]
        rw [if_pos (by omega), if_pos (by omega), if_pos (by omega), rdS l i hlt, impl_dig _ (hx _ (List.getElem_mem hlt)), wrap_nat i (by omega), atS_is l i hlt, Option.bind_some]
        cases hdg : digestOk l[i] with
        | false => simp only [Bool.false_eq_true, if_false]
        | true =>
          simp only [if_true]
          by_cases h0 : i = 0
          · rw [if_neg (show ¬ ((i : Int) > 0) by omega), if_pos h0]
          · rw [if_pos (show ((i : Int) > 0) by omega), if_neg h0, show wrap64 ((i : Int) - 1) = ((i - 1 : Nat) : Int) from wrap_pred i (by omega) (by omega), if_pos (by omega), if_pos (by omega), rdS l (i - 1) (by omega), atS_is l (i - 1) (by omega)]
            rfl
      · cases digestOk (atS l i) with
        | false => simp only [Bool.false_eq_true, if_false, Bool.false_and]; exact Ev.now _
        | true =>
          by_cases h0 : i = 0
          · simp only [if_pos h0, if_true, decide_eq_true h0, Bool.true_or, Bool.true_and]; exact hn
          · simp only [if_neg h0, if_true, decide_eq_false h0, Bool.false_or, Bool.true_and]
            cases less (atS l (i - 1)) (atS l i) with
            | true => simp only [if_true, Bool.true_and]; exact hn
            | false => simp only [Bool.false_eq_true, if_false, Bool.false_and]; exact Ev.now _
  have := key l.length 0 (by omega)
  rw [← List.range_eq_range'] at this
  exact this
theorem spec_pref (p : ByteArray) (hp : p.size ≤ 140737488351232) : Ev (fun k => spec_l7Prefix.f k p) (prefOk p) := by
  unfold spec_l7Prefix.f prefOk
  have key : ∀ d i : Nat, i + d = p.size → Ev (fun k => spec_l7Prefix.l0 k p (i : Int)) (decide (p.size ≤ 2) && ((bytesOf p).drop i).all hexB) := by
    intro d
    induction d with
    | zero =>
      intro i hi
      rw [List.drop_eq_nil_of_le (by rw [bytesOf_length]; omega), List.all_nil, Bool.and_true]
      refine Ev.step (f := fun _ => some (decide (p.size ≤ 2))) (fun k => ?_) (Ev.now _)
      simp only [spec_l7Prefix.l0]; rw [if_neg (by omega)]; congr 1; rw [decide_eq_decide]; omega
    | succ d ih =>
      intro i hi
      have hlt : i < p.size := by omega
      rw [drop_bytes p i hlt, List.all_cons]
      have hb := bt_range p i
      refine Ev.step (f := fun k => if hexV (bt p i) < 0 then some false else spec_l7Prefix.l0 k p ((i + 1 : Nat) : Int)) (fun k => ?_) ?_
      · simp only [spec_l7Prefix.l0]; rw [if_pos (by omega), if_pos (by omega), l1Hexit_eq _ hb.1 hb.2]; simp only [Option.bind_some]
        rw [wrap_succ i _ hlt hp]
      · by_cases h : hexB (bt p i) = true
        · have hn : ¬ hexV (bt p i) < 0 := by rw [hexV_neg]; exact fun hh => hh h
          simp only [if_neg hn, h, Bool.true_and]; exact ih (i + 1) (by omega)
        · have hn : hexV (bt p i) < 0 := by rw [hexV_neg]; exact h
          simp only [if_pos hn, h, Bool.false_and, Bool.and_false]; exact Ev.now _
  exact key p.size 0 (by omega)
theorem spec_under (l : List ByteArray) (p : ByteArray) (hl : l.length ≤ 2097152) (hd : ∀ d ∈ l, digestOk d = true) (hp : p.size ≤ 2) : Ev (fun k => spec_l7Under.f k l p) (underM l p) := by
  unfold spec_l7Under.f underM
  have e7 : wrap64 (7 + (p.size : Int)) = ((7 + p.size : Nat) : Int) := by unfold wrap64; omega
  refine fold_loop (n := l.length) (F := fun k acc i => spec_l7Under.l0 k l p acc i) (st := fun i => (l.take i).filter (startsB p)) (fun i hi hr => ?_) (Ev.step (f := fun _ => some (l.filter (startsB p))) (fun k => ?_) (Ev.now _))
  · refine Ev.step (fun k => ?_) hr
    have hds := digestOk_size (hd _ (List.getElem_mem hi))
    have hfl : ((l.take i).filter (startsB p)).length ≤ i := Nat.le_trans (List.length_filter_le _ _) (by rw [List.length_take]; omega)
    simp only [spec_l7Under.l0]
    rw [if_pos (by omega), if_pos (by omega), e7, if_pos (by omega), rdS l i hi, if_pos (by omega), Int.toNat_natCast, wrap_nat i (by omega), filter_take_succ _ l i hi]
    by_cases hs : (l[i].extract 7 (7 + p.size)).toList = p.toList
    · rw [if_pos hs, if_pos (show startsB p l[i] = true by simp only [startsB, hs, beq_self_eq_true]), if_pos (by omega)]
    · rw [if_neg hs, if_neg (show ¬ startsB p l[i] = true by simp only [startsB, beq_iff_eq]; exact hs)]
  · simp only [spec_l7Under.l0]; rw [if_neg (by omega), List.take_length]
theorem impl_pref (p : ByteArray) (hp : p.size ≤ 140737488351232) : impl_isPrefix.f p = some (prefOk p) := by
  unfold impl_isPrefix.f prefOk
  by_cases h : (p.size : Int) ≤ 2
  · obtain ⟨t, ht, he⟩ := trimHex p hp
    rw [if_pos h, ht, decide_eq_true (show p.size ≤ 2 by omega), Bool.true_and, Option.bind_some, he]
  · rw [if_neg h, decide_eq_false (show ¬ p.size ≤ 2 by omega), Bool.false_and]
theorem impl_under_ (l : List ByteArray) (p : ByteArray) (hl : l.length ≤ 2097152) (hd : ∀ d ∈ l, digestOk d = true) (hp : p.size ≤ 2) : Ev (fun k => impl_under.f k l p) (underM l p) := by
  unfold impl_under.f underM
  refine fold_loop (n := l.length) (F := fun k acc i => impl_under.l0 k p acc l (l.length : Int) i) (st := fun i => (l.take i).filter (startsB p)) (fun i hi hr => ?_) (Ev.step (f := fun _ => some (l.filter (startsB p))) (fun k => ?_) (Ev.now _))
  · refine Ev.step (fun k => ?_) hr
    have hds := hd _ (List.getElem_mem hi)
    have hdz := digestOk_size hds
    have hfl : ((l.take i).filter (startsB p)).length ≤ i := Nat.le_trans (List.length_filter_le _ _) (by rw [List.length_take]; omega)
    have hz : ((⟨#[115, 104, 97, 50, 53, 54, 58]⟩ : ByteArray) ++ p).size = 7 + p.size := by rw [ByteArray.size_append, head_size]
    have hst := head_starts l[i] p hds hp
    have hpre : strings_HasPrefix.f l[i] ((⟨#[115, 104, 97, 50, 53, 54, 58]⟩ : ByteArray) ++ p) = some (startsB p l[i]) := by
      unfold strings_HasPrefix.f stringslite_HasPrefix.f
      rw [hz, if_pos (by omega), if_pos (by omega), if_pos (by omega), Option.bind_some, Int.toNat_natCast, hst]
    simp only [impl_under.l0]
    rw [if_pos (by omega), if_pos (by omega), if_pos (by omega), if_pos (by omega), rdS l i hi, hpre, Option.bind_some, wrap_nat i (by omega), filter_take_succ _ l i hi]
    by_cases hs : startsB p l[i] = true
    · rw [if_pos hs, if_pos hs, if_pos (by omega)]
    · rw [if_neg hs, if_neg hs]
  · simp only [impl_under.l0]; rw [if_neg (by omega), List.take_length]
theorem digL_next (h : List Int) (hr : R32 h) (i : Nat) : bytesOf (digL h (i + 1)) = bytesOf (digL h i) ++ hexL (rd h (i : Int)) 8 := by
  rw [digL, bytesOf_append, hexM, bytesOf_strOfNums _ (fun x hx => (hexL_hex _ (hr.at _) 8 x hx).2)]
theorem impl_nib (n : Int) (j : Nat) (hj : j < 8) : Go.bits .and .u32 (shr .u32 n (28 - 4 * (j : Int))) 15 = nibM n j := by
  unfold nibM
  rw [show IntKind.u64.wrap (wrap64 (4 * ((7 - j : Nat) : Int))) = 28 - 4 * (j : Int) by rw [IntKind.wrap_u64]; unfold wrap64; omega]
theorem impl_word (h : List Int) (hr : R32 h) (i : Nat) (hi : i < 8) (l : Int) {r : ByteArray} (hend : Ev (fun k => impl_digest.l0 k (bytesOf (digL h (i + 1))) h l ((i + 1 : Nat) : Int)) r) : Ev (fun k => impl_digest.l1 k (bytesOf (digL h i)) (rd h (i : Int)) 28 h l (i : Int)) r := by
  have hlen : (bytesOf (digL h i)).length = 7 + 8 * i := by rw [bytesOf_length, digL_size]
  have key : ∀ d j : Nat, j + d = 8 → Ev (fun k => impl_digest.l1 k (bytesOf (digL h i) ++ hexL (rd h (i : Int)) j) (rd h (i : Int)) (28 - 4 * (j : Int)) h l (i : Int)) r := by
    intro d
    induction d with
    | zero =>
      intro j hj
      obtain rfl : j = 8 := by omega
      refine Ev.step (fun k => ?_) hend
      simp only [impl_digest.l1]
      rw [if_neg (by omega), wrap_nat i (by omega), digL_next h hr i]
    | succ d ih =>
      intro j hj
      have hn := nib_range (rd h (i : Int)) j (hr.at _)
      refine Ev.step (fun k => ?_) (ih (j + 1) (by omega))
      simp only [impl_digest.l1]
      rw [if_pos (by omega), if_pos (by omega), impl_nib _ j (by omega), if_pos hn.1, if_pos hn.2, if_pos (by rw [List.length_append, hlen, hexL_len]; omega), hexL_succ, ← List.append_assoc]
      rw [show wrap64 (28 - 4 * (j : Int) - 4) = 28 - 4 * ((j + 1 : Nat) : Int) by unfold wrap64; omega]
      rfl
  have := key 8 0 (by omega)
  simpa [hexL] using this
theorem impl_digest_ok (s : ByteArray) (hs : s.size ≤ 70368744177664) : Ev (fun k => impl_digest.f k s) (digestM s) := by
  unfold impl_digest.f
  refine Ev.bind (Ev.is (show impl_sum.f s = some (sumM s) by unfold impl_sum.f; rw [if_pos hs])) ?_
  obtain ⟨hl, hr⟩ := sumM_ok s
  unfold digestM
  generalize sumM s = h at hl hr
  have key : ∀ d i : Nat, i + d = 8 → Ev (fun k => impl_digest.l0 k (bytesOf (digL h i)) h (h.length : Int) (i : Int)) (digL h 8) := by
    intro d
    induction d with
    | zero =>
      intro i hi
      obtain rfl : i = 8 := by omega
      refine Ev.step (f := fun _ => some (digL h 8)) (fun k => ?_) (Ev.now _)
      simp only [impl_digest.l0]; rw [if_neg (by omega), strOfNums_bytesOf]
    | succ d ih =>
      intro i hi
      refine Ev.step (f := fun k => impl_digest.l1 k (bytesOf (digL h i)) (rd h (i : Int)) 28 h (h.length : Int) (i : Int)) (fun k => ?_) (impl_word h hr i (by omega) _ (ih (i + 1) (by omega)))
      simp only [impl_digest.l0]; rw [if_pos (by omega), if_pos (by omega), if_pos (by omega)]
  exact key 8 0 (by omega)
theorem spec_below (p : ByteArray) (hp : p.size ≤ 140737488351232) : Ev (fun k => spec_l7Below.f k p) ((List.range 16).map (kid p)) := by
  unfold spec_l7Below.f
  refine fold_loop (n := 16) (F := fun k acc i => spec_l7Below.l0 k p acc i) (st := fun i => (List.range i).map (kid p)) (fun i hi hr => ?_) (Ev.step (f := fun _ => some ((List.range 16).map (kid p))) (fun k => ?_) (Ev.now _))
  · refine Ev.step (fun k => ?_) hr
    have hz := hexS_size i hi
    simp only [spec_l7Below.l0]
    rw [if_pos (by omega), if_pos (by omega), wrap_nat i (by omega), if_pos (by omega), if_pos (by omega), Int.toNat_natCast, Int.toNat_natCast]
    rw [show (⟨#[48, 49, 50, 51, 52, 53, 54, 55, 56, 57, 97, 98, 99, 100, 101, 102]⟩ : ByteArray).extract i (i + 1) = hexS i from rfl, if_pos (by omega), if_pos (by simp; omega), List.range_succ, List.map_append]
    rfl
  · simp only [spec_l7Below.l0]; rw [if_neg (by omega)]
theorem spec_node (d : Nat) : ∀ (l : List ByteArray) (p : ByteArray), p.size + d = 2 → l.length ≤ 200 → (∀ x ∈ l, digestOk x = true) → Ev (fun k => spec_l7Node.f k l p) (nodeM d l p) := by
  induction d with
  | zero =>
    intro l p hp hl hd
    refine Ev.step (f := fun k => (spec_l7Under.f k l p).bind fun t => spec_l7Node.l0 k (⟨#[]⟩ : ByteArray) t 0) (fun k => ?_) ?_
    · simp only [spec_l7Node.f]; rw [if_pos (by omega)]
    refine Ev.bind (spec_under l p (by omega) hd (by omega)) ?_
    have hdu := under_dig hd p
    have hul := underM_len l p
    have hj := under_join hd hl p
    simp only [nodeM]
    generalize underM l p = u at hdu hul hj
    refine fold_loop (n := u.length) (F := fun k s i => spec_l7Node.l0 k s u i) (st := fun i => joinM (u.take i)) (fun i hi hr => ?_) (Ev.step (f := fun k => (spec_Digest.f k (joinM u)).bind fun t => some t) (fun k => ?_) (Ev.bind (spec_digest _ (by omega)) (Ev.now _)))
    · refine Ev.step (fun k => ?_) hr
      have hx := digestOk_size (hdu _ (List.getElem_mem hi))
      have hs : (joinM (u.take i)).size ≤ 71 * i := by
        rw [joinM_size 71 _ (fun s hs => digestOk_size (hdu s (List.mem_of_mem_take hs))), List.length_take]
        exact Nat.mul_le_mul_left _ (Nat.min_le_left _ _)
      simp only [spec_l7Node.l0]
      rw [if_pos (by omega), if_pos (by omega), rdS u i hi, if_pos (by omega), wrap_nat i (by omega), List.take_succ_eq_append_getElem hi, joinM_snoc]
    · simp only [spec_l7Node.l0]; rw [if_neg (by omega), List.take_length]
  | succ d ih =>
    intro l p hp hl hd
    refine Ev.step (f := fun k => (spec_l7Below.f k p).bind fun t => spec_l7Node.l1 k l (⟨#[]⟩ : ByteArray) t 0) (fun k => ?_) ?_
    · simp only [spec_l7Node.f]; rw [if_neg (by omega)]
    refine Ev.bind (spec_below p (by omega)) ?_
    simp only [nodeM]
    have hbl : ((List.range 16).map (kid p)).length = 16 := by simp
    have hat : ∀ i : Nat, (hi : i < 16) → rdOf ByteArray.empty ((List.range 16).map (kid p)) (i : Int) = kid p i := by
      intro i hi
      rw [rdS _ i (by omega)]
      simp
    generalize (List.range 16).map (kid p) = b at hbl hat
    refine fold_loop (n := 16) (F := fun k s i => spec_l7Node.l1 k l s b i) (st := fun i => joinM (kidsM d l p i)) (fun i hi hr => ?_) (Ev.step (f := fun k => (spec_Digest.f k (joinM (kidsM d l p 16))).bind fun t => some t) (fun k => ?_) (Ev.bind (spec_digest _ (by rw [kidsM_size]; omega)) (Ev.now _)))
    · have hk := kid_size p i hi
      have hks := kidsM_size d l p i
      have hn := nodeM_size d l (kid p i)
      have hr2 := ih (underM l (kid p i)) (kid p i) (by omega) (Nat.le_trans (underM_len _ _) hl) (under_dig hd _)
      rw [node_self] at hr2
      refine Ev.step (f := fun k => (spec_l7Under.f k l (kid p i)).bind fun t => ((spec_l7Node.f k t (kid p i)).bind fun u => (if (joinM (kidsM d l p i)).size + u.size ≤ 9223372036854775807 then (spec_l7Node.l1 k l ((joinM (kidsM d l p i)) ++ u) b ((i + 1 : Nat) : Int)) else none))) (fun k => ?_) (Ev.bind (spec_under l (kid p i) (by omega) hd (by omega)) (Ev.bind hr2 ?_))
      · simp only [spec_l7Node.l1]
        rw [if_pos (by omega), if_pos (by omega), if_pos (by omega), hat i hi, wrap_nat i (by omega)]
      · simp only [if_pos (show (joinM (kidsM d l p i)).size + (nodeM d l (kid p i)).size ≤ 9223372036854775807 by omega)]
        rw [← kidsM_succ]
        exact hr
    · simp only [spec_l7Node.l1]; rw [if_neg (by omega)]
set_option maxRecDepth 100000 in
theorem enc_hex (i : Nat) (h : i < 16) : Utf8.encode (impl_nodeOf.hexC i) = hexS i :=
  (by decide : ∀ q : Fin 16, Utf8.encode (impl_nodeOf.hexC q.1) = hexS q.1) ⟨i, h⟩
theorem join_is (l : List ByteArray) : (⟨(Lib.join (l.map (·.data.toList)) (⟨#[]⟩ : ByteArray).data.toList).toArray⟩ : ByteArray) = joinM l := by
  have key : ∀ l : List ByteArray, Lib.join (l.map (·.data.toList)) [] = l.flatMap (fun s => s.data.toList) := by
    have inter : ∀ L : List (List UInt8), List.intercalate [] L = L.flatten := by
      intro L
      induction L with
      | nil => rfl
      | cons a L ih =>
        cases L with
        | nil => simp [List.intercalate]
        | cons b L =>
          simp only [List.intercalate, List.intersperse, List.flatten_cons, List.nil_append] at ih ⊢
          rw [ih]
    intro l
    rw [List.flatMap, ← inter]
    rfl
  rw [show (⟨#[]⟩ : ByteArray).data.toList = [] from rfl, key]
  rfl
theorem impl_join (l : List ByteArray) (hl : l.length ≤ 140737488355328) (hj : (joinM l).size ≤ 140737488355328) : strings_Join.f l (⟨#[]⟩ : ByteArray) = some (joinM l) := by
  unfold strings_Join.f
  have := join_is l
  rw [if_pos ⟨hl, by rw [← this] at hj; simpa [ByteArray.size] using hj⟩, this]
theorem impl_node (d : Nat) : ∀ (l : List ByteArray) (p : ByteArray), p.size + d = 2 → l.length ≤ 200 → (∀ x ∈ l, digestOk x = true) → Ev (fun k => impl_nodeOf.f k l p) (nodeM d l p) := by
  induction d with
  | zero =>
    intro l p hp hl hd
    refine Ev.step (f := fun k => (impl_under.f k l p).bind fun s => (strings_Join.f s (⟨#[]⟩ : ByteArray)).bind fun j => impl_digest.f k j) (fun k => ?_) ?_
    · rw [impl_nodeOf.f]; simp only [if_pos (show (p.size : Int) = 2 by omega)]
    have hul := underM_len l p
    have hj := under_join hd hl p
    refine Ev.bind (impl_under_ l p (by omega) hd (by omega)) (Ev.bind (Ev.is (impl_join _ (by omega) (by omega))) ?_)
    exact impl_digest_ok _ (by omega)
  | succ d ih =>
    intro l p hp hl hd
    refine Ev.step (f := fun k => (impl_under.f k l p).bind fun s => (impl_nodeOf.lp (fun q => impl_nodeOf.f k s q) p 16 0 (⟨#[]⟩ : ByteArray)).bind fun a => impl_digest.f k a) (fun k => ?_) ?_
    · rw [impl_nodeOf.f]; simp only [if_neg (show ¬ (p.size : Int) = 2 by omega)]
    refine Ev.bind (impl_under_ l p (by omega) hd (by omega)) (Ev.bind (a := joinM (kidsM d l p 16)) ?_ (impl_digest_ok _ (by rw [kidsM_size]; omega)))
    have key : ∀ n i : Nat, i + n = 16 → Ev (fun k => impl_nodeOf.lp (fun q => impl_nodeOf.f k (underM l p) q) p n i (joinM (kidsM d l p i))) (joinM (kidsM d l p 16)) := by
      intro n
      induction n with
      | zero => intro i hi; obtain rfl : i = 16 := by omega
                exact Ev.now _
      | succ n ihn =>
        intro i hi
        have hlt : i < 16 := by omega
        have hk := kid_size p i hlt
        have hz := hexS_size i hlt
        have hks := kidsM_size d l p i
        have hn := nodeM_size d l (kid p i)
        have hr := ih (underM l p) (kid p i) (by omega) (Nat.le_trans (underM_len _ _) hl) (under_dig hd _)
        rw [node_kid] at hr
        simp only [impl_nodeOf.lp, enc_hex i hlt]
        simp only [if_pos (show p.size + (hexS i).size ≤ 9223372036854775807 by omega)]
        refine Ev.bind hr ?_
        simp only [if_pos (show (joinM (kidsM d l p i)).size + (nodeM d l (kid p i)).size ≤ 9223372036854775807 by omega)]
        rw [← kidsM_succ]
        exact ihn (i + 1) (by omega)
    exact key 16 0 rfl
/-- What the one list has and the other has not. -/
def lessM (l m : List ByteArray) : List ByteArray := l.filter (fun d => decide (¬ d ∈ m))
theorem spec_less (l m : List ByteArray) (hl : l.length ≤ 2097152) (hm : m.length ≤ 2097152) : Ev (fun k => spec_l7Less.f k l m) (lessM l m) := by
  unfold spec_l7Less.f lessM
  refine fold_loop (n := l.length) (F := fun k acc i => spec_l7Less.l0 k l m acc i) (st := fun i => (l.take i).filter (fun d => decide (¬ d ∈ m))) (fun i hi hr => ?_) (Ev.step (f := fun _ => some (l.filter (fun d => decide (¬ d ∈ m)))) (fun k => ?_) (Ev.now _))
  · have hfl : ((l.take i).filter (fun d => decide (¬ d ∈ m))).length ≤ i := Nat.le_trans (List.length_filter_le _ _) (by rw [List.length_take]; omega)
    refine Ev.step (f := fun k => (spec_l1Has.f k m l[i]).bind fun t => if t = true then spec_l7Less.l0 k l m ((l.take i).filter (fun d => decide (¬ d ∈ m))) ((i + 1 : Nat) : Int) else spec_l7Less.l0 k l m ((l.take i).filter (fun d => decide (¬ d ∈ m)) ++ [l[i]]) ((i + 1 : Nat) : Int)) (fun k => ?_) (Ev.bind (spec_has m _ hm) ?_)
    · simp only [spec_l7Less.l0]
      rw [if_pos (by omega), if_pos (by omega), rdS l i hi, wrap_nat i (by omega), if_pos (by omega)]
    · rw [filter_take_succ _ l i hi] at hr
      by_cases hs : l[i] ∈ m
      · simp only [decide_eq_true hs, if_true]
        rw [if_neg (show ¬ decide (¬ l[i] ∈ m) = true by rw [decide_eq_true_eq]; exact fun h => h hs)] at hr; exact hr
      · simp only [decide_eq_false hs, Bool.false_eq_true, if_false]
        rw [if_pos (show decide (¬ l[i] ∈ m) = true from decide_eq_true hs)] at hr; exact hr
  · simp only [spec_l7Less.l0]; rw [if_neg (by omega), List.take_length]
theorem spec_loop (a b : List ByteArray) (ha : setOk a = true) (hb : setOk b = true) : ∀ (n : Nat) (qs ms ls : List ByteArray) (i : Nat), Run a b qs ms ls i n → Ev (fun k => spec_Steps.l0 k a b qs ms ls (i : Int)) ((stepsM a b n qs ms ls i).1, (stepsM a b n qs ms ls i).2.1, (stepsM a b n qs ms ls i).2.2, true) := by
  have hla := setOk_len ha
  have hlb := setOk_len hb
  have hda := setOk_dig ha
  have hdb := setOk_dig hb
  intro n
  induction n with
  | zero =>
    intro qs ms ls i h
    have h1 := meas_len (qs.drop i)
    rw [List.length_drop] at h1
    have h2 := h.left
    have h3 := h.le
    exact Ev.step (f := fun _ => some (qs, ms, ls, true)) (fun k => by simp only [spec_Steps.l0]; rw [if_neg (by omega)]) (Ev.now _)
  | succ n ih =>
    intro qs ms ls i h
    rw [stepsM]
    by_cases hi : i < qs.length
    · simp only [if_pos hi]
      have hlen := h.len
      have hp2 := h.small _ (List.getElem_mem hi)
      have hrd : rdOf ByteArray.empty qs (i : Int) = atS qs i := by rw [rdS qs i hi, atS_is qs i hi]
      have hml := h.ml
      have hll := h.ll
      have hmost := h.most
      have hon := h.on hi
      have hmore := h.more hi
      rw [← atS_is qs i hi] at hp2
      generalize atS qs i = p at hrd hp2 hmore
      have hu1 := spec_under a p (by omega) hda hp2
      have hu2 := spec_under b p (by omega) hdb hp2
      have hn1 := spec_node (2 - p.size) (underM a p) p (by omega) (Nat.le_trans (underM_len _ _) hla) (under_dig hda _)
      have hn2 := spec_node (2 - p.size) (underM b p) p (by omega) (Nat.le_trans (underM_len _ _) hlb) (under_dig hdb _)
      rw [node_self] at hn1 hn2
      refine Ev.step (f := fun k => (spec_l7Under.f k a p).bind fun t265 => ((spec_l7Under.f k b p).bind fun t268 => ((spec_l7Node.f k t265 p).bind fun t271 => ((spec_l7Node.f k t268 p).bind fun t272 => (if t271.toList = t272.toList then (spec_Steps.l0 k a b qs ms ls ((i + 1 : Nat) : Int)) else (if (p.size : Int) < 2 then ((spec_l7Below.f k p).bind fun t273 => (if qs.length + t273.length < 8796093022208 then (spec_Steps.l0 k a b (qs ++ t273) ms ls ((i + 1 : Nat) : Int)) else none)) else ((spec_l7Less.f k t265 t268).bind fun t279 => (if ms.length + t279.length < 8796093022208 then ((spec_l7Less.f k t268 t265).bind fun t285 => (if ls.length + t285.length < 8796093022208 then (spec_Steps.l0 k a b qs (ms ++ t279) (ls ++ t285) ((i + 1 : Nat) : Int)) else none)) else none))))))) ) (fun k => ?_) (Ev.bind hu1 (Ev.bind hu2 (Ev.bind hn1 (Ev.bind hn2 ?_))))
      · simp only [spec_Steps.l0]
        rw [if_pos (by omega), if_pos (by omega), hrd, wrap_nat i (by omega)]
      · show Ev (fun k => if (nodeE a p).toList = (nodeE b p).toList then _ else _) _
        by_cases hnn : nodeE a p = nodeE b p
        · simp only [if_pos hnn, hnn, if_true]
          exact ih _ _ _ _ (hon ms ls (by omega) (by omega))
        · have hnl : ¬ (nodeE a p).toList = (nodeE b p).toList := fun e => hnn ((same_is _ _).1 e)
          simp only [if_neg hnn, if_neg hnl]
          by_cases hp : p.size < 2
          · simp only [if_pos hp, if_pos (show (p.size : Int) < 2 by omega)]
            refine Ev.bind (spec_below p (by omega)) ?_
            have hkl := kidsOf_len p
            unfold kidsOf at hkl
            simp only [if_pos (show qs.length + ((List.range 16).map (kid p)).length < 8796093022208 by omega)]
            exact ih _ _ _ _ (hmore hp)
          · simp only [if_neg hp, if_neg (show ¬ (p.size : Int) < 2 by omega)]
            have e1 := lessU_len a b p
            have e2 := lessU_len b a p
            have ul1 := underM_len a p
            have ul2 := underM_len b p
            refine Ev.bind (a := lessU a b p) (spec_less _ _ (by omega) (by omega)) ?_
            simp only [if_pos (show ms.length + (lessU a b p).length < 8796093022208 by omega)]
            refine Ev.bind (a := lessU b a p) (spec_less _ _ (by omega) (by omega)) ?_
            simp only [if_pos (show ls.length + (lessU b a p).length < 8796093022208 by omega)]
            exact ih _ _ _ _ (hon _ _ (by rw [List.length_append]; omega) (by rw [List.length_append]; omega))
    · simp only [if_neg hi]
      exact Ev.step (f := fun _ => some (qs, ms, ls, true)) (fun k => by simp only [spec_Steps.l0]; rw [if_neg (by omega)]) (Ev.now _)
theorem spec_steps (n : Nat) (a b : List ByteArray) (hn : Run a b [⟨#[]⟩] [] [] 0 n) (ha : a.length ≤ 1048576) (hb : b.length ≤ 1048576) : Ev (fun k => spec_Steps.f k a b) (StepsN n a b) := by
  have j0t : Ev (fun k => spec_Steps.j0 k a b [] [] [] true) ([], [], [], false) := Ev.step (f := fun _ => some ([], [], [], false)) (fun k => by simp only [spec_Steps.j0, if_true]) (Ev.now _)
  unfold spec_Steps.f StepsN
  refine Ev.bind (Ev.now []) (Ev.bind (Ev.now []) (Ev.bind (Ev.now []) (Ev.bind (spec_set a (by omega)) ?_)))
  cases hs : setOk a with
  | false => simp only [Bool.false_eq_true, if_false]; exact j0t
  | true =>
    simp only [if_true]
    refine Ev.bind (spec_set b (by omega)) ?_
    cases hq : setOk b with
    | false => simp only [Bool.false_eq_true, if_false, Bool.not_false]; exact j0t
    | true =>
      simp only [if_true, Bool.not_true]
      refine Ev.step (f := fun k => spec_Steps.l0 k a b [⟨#[]⟩] [] [] ((0 : Nat) : Int)) (fun k => ?_) (spec_loop a b hs hq n _ _ _ 0 hn)
      simp only [spec_Steps.j0, Bool.false_eq_true, if_false]
      rw [if_pos (by simp)]
      rfl
theorem inB_is (l : List ByteArray) (x : ByteArray) : impl_missing.inB l x = decide (x ∈ l) := by
  unfold impl_missing.inB
  rw [Bool.eq_iff_iff, List.any_eq_true, decide_eq_true_eq]
  constructor
  · rintro ⟨y, hy, he⟩
    rw [(same_is x y).1 (beq_iff_eq.1 he)]
    exact hy
  · intro h
    exact ⟨x, h, beq_self_eq_true _⟩
theorem impl_miss (l m : List ByteArray) (hl : l.length ≤ 2097152) (hm : m.length ≤ 2097152) : impl_missing.f l m = some (l.filter (fun d => decide (¬ d ∈ m))) := by
  unfold impl_missing.f
  rw [if_pos ⟨by omega, by omega⟩]
  congr 1
  refine List.filter_congr (fun d _ => ?_)
  rw [inB_is]
  by_cases h : d ∈ m <;> simp [h]
theorem lp_is (p : ByteArray) (hp : p.size < 2) (qs : List ByteArray) (ha : qs.length ≤ 1048576) : impl_Steps.lp p 16 0 qs = some (qs ++ kidsOf p) := by
  have key : ∀ n i : Nat, i + n = 16 → impl_Steps.lp p n i (qs ++ (List.range i).map (kid p)) = some (qs ++ kidsOf p) := by
    intro n
    induction n with
    | zero => intro i hi; obtain rfl : i = 16 := by omega
              rfl
    | succ n ih =>
      intro i hi
      have hz := hexS_size i (by omega)
      rw [impl_Steps.lp, enc_hex i (by omega), if_pos (by omega), if_pos (by simp; omega)]
      have := ih (i + 1) (by omega)
      rw [List.range_succ, List.map_append, ← List.append_assoc] at this
      exact this
  have := key 16 0 rfl
  simpa using this
theorem impl_loop (a b : List ByteArray) (ha : setOk a = true) (hb : setOk b = true) : ∀ (n : Nat) (qs ms ls : List ByteArray) (i : Nat), Run a b qs ms ls i n → Ev (fun k => impl_Steps.l0 k a b qs ms ls (i : Int)) ((stepsM a b n qs ms ls i).1, (stepsM a b n qs ms ls i).2.1, (stepsM a b n qs ms ls i).2.2, true) := by
  have hla := setOk_len ha
  have hlb := setOk_len hb
  have hda := setOk_dig ha
  have hdb := setOk_dig hb
  intro n
  induction n with
  | zero =>
    intro qs ms ls i h
    have h1 := meas_len (qs.drop i)
    rw [List.length_drop] at h1
    have h2 := h.left
    have h3 := h.le
    exact Ev.step (f := fun _ => some (qs, ms, ls, true)) (fun k => by simp only [impl_Steps.l0]; rw [if_neg (by omega)]) (Ev.now _)
  | succ n ih =>
    intro qs ms ls i h
    rw [stepsM]
    by_cases hi : i < qs.length
    · simp only [if_pos hi]
      have hlen := h.len
      have hp2 := h.small _ (List.getElem_mem hi)
      have hrd : rdOf ByteArray.empty qs (i : Int) = atS qs i := by rw [rdS qs i hi, atS_is qs i hi]
      have hml := h.ml
      have hll := h.ll
      have hmost := h.most
      have hon := h.on hi
      have hmore := h.more hi
      rw [← atS_is qs i hi] at hp2
      generalize atS qs i = p at hrd hp2 hmore
      have hu1 := impl_under_ a p (by omega) hda hp2
      have hu2 := impl_under_ b p (by omega) hdb hp2
      have hn1 := impl_node (2 - p.size) a p (by omega) hla hda
      have hn2 := impl_node (2 - p.size) b p (by omega) hlb hdb
      refine Ev.step (f := fun k => (impl_nodeOf.f k a p).bind fun n0 => ((impl_nodeOf.f k b p).bind fun n1 => (if n0.toList = n1.toList then (impl_Steps.l0 k a b qs ms ls ((i + 1 : Nat) : Int)) else (if (p.size : Int) < 2 then ((impl_Steps.lp p 16 0 qs).bind fun y => impl_Steps.l0 k a b y ms ls ((i + 1 : Nat) : Int)) else ((impl_under.f k a p).bind fun one => ((impl_under.f k b p).bind fun two => ((impl_missing.f one two).bind fun m1 => (if ms.length + m1.length < 8796093022208 then ((impl_missing.f two one).bind fun m2 => (if ls.length + m2.length < 8796093022208 then impl_Steps.l0 k a b qs (ms ++ m1) (ls ++ m2) ((i + 1 : Nat) : Int) else none)) else none)))))))) (fun k => ?_) (Ev.bind hn1 (Ev.bind hn2 ?_))
      · simp only [impl_Steps.l0]
        rw [if_pos (by omega), if_pos (by omega), hrd, wrap_nat i (by omega)]
      · show Ev (fun k => if (nodeE a p).toList = (nodeE b p).toList then _ else _) _
        by_cases hnn : nodeE a p = nodeE b p
        · simp only [if_pos hnn, hnn, if_true]
          exact ih _ _ _ _ (hon ms ls (by omega) (by omega))
        · have hnl : ¬ (nodeE a p).toList = (nodeE b p).toList := fun e => hnn ((same_is _ _).1 e)
          simp only [if_neg hnn, if_neg hnl]
          by_cases hp : p.size < 2
          · simp only [if_pos hp, if_pos (show (p.size : Int) < 2 by omega)]
            refine Ev.bind (Ev.is (lp_is p hp qs (by omega))) ?_
            exact ih _ _ _ _ (hmore hp)
          · simp only [if_neg hp, if_neg (show ¬ (p.size : Int) < 2 by omega)]
            have e1 := lessU_len a b p
            have e2 := lessU_len b a p
            have ul1 := underM_len a p
            have ul2 := underM_len b p
            refine Ev.bind hu1 (Ev.bind hu2 (Ev.bind (a := lessU a b p) (Ev.is (impl_miss _ _ (by omega) (by omega))) ?_))
            simp only [if_pos (show ms.length + (lessU a b p).length < 8796093022208 by omega)]
            refine Ev.bind (a := lessU b a p) (Ev.is (impl_miss _ _ (by omega) (by omega))) ?_
            simp only [if_pos (show ls.length + (lessU b a p).length < 8796093022208 by omega)]
            exact ih _ _ _ _ (hon _ _ (by rw [List.length_append]; omega) (by rw [List.length_append]; omega))
    · simp only [if_neg hi]
      exact Ev.step (f := fun _ => some (qs, ms, ls, true)) (fun k => by simp only [impl_Steps.l0]; rw [if_neg (by omega)]) (Ev.now _)
theorem impl_steps (n : Nat) (a b : List ByteArray) (hn : Run a b [⟨#[]⟩] [] [] 0 n) (ha : a.length ≤ 1048576) (hb : b.length ≤ 1048576) (hxa : ∀ x ∈ a, x.size ≤ 140737488351232) (hxb : ∀ x ∈ b, x.size ≤ 140737488351232) : Ev (fun k => impl_Steps.f k a b) (StepsN n a b) := by
  unfold impl_Steps.f StepsN
  refine Ev.bind (impl_set a (by omega) hxa) ?_
  cases hs : setOk a with
  | false => simp only [Bool.false_eq_true, if_false]; exact Ev.now _
  | true =>
    simp only [if_true]
    refine Ev.bind (impl_set b (by omega) hxb) ?_
    cases hq : setOk b with
    | false => simp only [Bool.false_eq_true, if_false]; exact Ev.now _
    | true =>
      simp only [if_true]
      exact impl_loop a b hs hq n _ _ _ 0 hn
theorem hasT (l : List ByteArray) (x : ByteArray) (hl : l.length ≤ 2097152) : Ev (fun k => laws_hasText.f k l x) (decide (x ∈ l)) := by
  unfold laws_hasText.f
  have key : ∀ d i : Nat, i + d = l.length → Ev (fun k => laws_hasText.l0 k l x (i : Int)) (decide (x ∈ l.drop i)) := by
    intro d
    induction d with
    | zero =>
      intro i hi
      rw [List.drop_eq_nil_of_le (by omega)]
      exact Ev.step (f := fun _ => some (decide (x ∈ ([] : List ByteArray)))) (fun k => by simp only [laws_hasText.l0]; rw [if_neg (by omega)]; simp) (Ev.now _)
    | succ d ih =>
      intro i hi
      have hlt : i < l.length := by omega
      rw [List.drop_eq_getElem_cons hlt]
      by_cases h : l[i] = x
      · rw [decide_eq_true (by rw [h]; exact List.mem_cons_self)]
        exact Ev.step (f := fun _ => some true) (fun k => by simp only [laws_hasText.l0]; rw [if_pos (by omega), if_pos (by omega), rdS l i hlt, if_pos (by rw [h])]) (Ev.now _)
      · have : decide (x ∈ l[i] :: l.drop (i + 1)) = decide (x ∈ l.drop (i + 1)) := by
          rw [decide_eq_decide, List.mem_cons]
          exact ⟨fun hh => hh.resolve_left (fun e => h e.symm), .inr⟩
        rw [this]
        exact Ev.step (fun k => by simp only [laws_hasText.l0]; rw [if_pos (by omega), if_pos (by omega), rdS l i hlt, if_neg (fun e => h ((same_is _ _).1 e)), wrap_nat i (by omega)]) (ih (i + 1) (by omega))
  exact key l.length 0 (by omega)
theorem sameT_refl (l : List ByteArray) (hl : l.length ≤ 2097152) : Ev (fun k => laws_sameTexts.f k l l) true := by
  unfold laws_sameTexts.f
  simp only [if_true]
  refine on_loop (n := l.length) (F := fun k i => laws_sameTexts.l0 k l l i) (fun i hi k => ?_) (Ev.step (f := fun _ => some true) (fun k => ?_) (Ev.now _))
  · simp only [laws_sameTexts.l0]; rw [if_pos (by omega), if_pos (by omega), if_pos (by omega), if_pos trivial, wrap_nat i (by omega)]
  · simp only [laws_sameTexts.l0]; rw [if_neg (by omega)]
theorem sameT (l m : List ByteArray) (hl : l.length ≤ 2097152) : Ev (fun k => laws_sameTexts.f k l m) (decide (l = m)) := by
  unfold laws_sameTexts.f
  by_cases he : (l.length : Int) = (m.length : Int)
  · simp only [if_pos he]
    have key : ∀ d i : Nat, i + d = l.length → Ev (fun k => laws_sameTexts.l0 k l m (i : Int)) (decide (l.drop i = m.drop i)) := by
      intro d
      induction d with
      | zero =>
        intro i hi
        rw [List.drop_eq_nil_of_le (by omega), List.drop_eq_nil_of_le (by omega)]
        exact Ev.step (f := fun _ => some (decide (([] : List ByteArray) = []))) (fun k => by simp only [laws_sameTexts.l0]; rw [if_neg (by omega)]; simp) (Ev.now _)
      | succ d ih =>
        intro i hi
        have h1 : i < l.length := by omega
        have h2 : i < m.length := by omega
        rw [List.drop_eq_getElem_cons h1, List.drop_eq_getElem_cons h2]
        by_cases h : l[i] = m[i]
        · have e : decide (l[i] :: l.drop (i + 1) = m[i] :: m.drop (i + 1)) = decide (l.drop (i + 1) = m.drop (i + 1)) := by rw [h, decide_eq_decide]; exact ⟨fun e => (List.cons.inj e).2, fun e => by rw [e]⟩
          rw [e]
          exact Ev.step (fun k => by simp only [laws_sameTexts.l0]; rw [if_pos (by omega), if_pos (by omega), if_pos (by omega), rdS l i h1, rdS m i h2, if_pos (by rw [h]), wrap_nat i (by omega)]) (ih (i + 1) (by omega))
        · have e : decide (l[i] :: l.drop (i + 1) = m[i] :: m.drop (i + 1)) = false := decide_eq_false (fun e => h (List.cons.inj e).1)
          rw [e]
          exact Ev.step (f := fun _ => some false) (fun k => by simp only [laws_sameTexts.l0]; rw [if_pos (by omega), if_pos (by omega), if_pos (by omega), rdS l i h1, rdS m i h2, if_neg (fun e => h ((same_is _ _).1 e))]) (Ev.now _)
    exact key l.length 0 (by omega)
  · simp only [if_neg he]
    rw [decide_eq_false (fun e => he (by rw [e]))]
    exact Ev.now _
theorem specU (l : List ByteArray) (p : ByteArray) (hs : setOk l = true) (hp : prefOk p = true) : Ev (fun k => spec_Under.f k l p) (underM l p) := by
  have h2 := prefOk_size hp
  have hl := setOk_len hs
  unfold spec_Under.f
  refine Ev.bind (spec_set l (by omega)) ?_
  rw [hs]
  simp only [if_true]
  refine Ev.bind (spec_pref p (by omega)) ?_
  rw [hp]
  simp only [if_true]
  exact Ev.bind (spec_under l p (by omega) (setOk_dig hs) h2) (Ev.now _)
theorem specN (l : List ByteArray) (p : ByteArray) (hs : setOk l = true) (hp : prefOk p = true) : Ev (fun k => spec_NodeOf.f k l p) (nodeE l p, true) := by
  have h2 := prefOk_size hp
  have hl := setOk_len hs
  unfold spec_NodeOf.f
  refine Ev.bind (spec_set l (by omega)) ?_
  rw [hs]
  simp only [if_true]
  refine Ev.bind (spec_pref p (by omega)) ?_
  rw [hp]
  simp only [if_true]
  exact Ev.bind (spec_node (2 - p.size) l p (by omega) hl (setOk_dig hs)) (Ev.now _)
theorem implN (l : List ByteArray) (p : ByteArray) (hs : setOk l = true) (hp : prefOk p = true) : Ev (fun k => impl_NodeOf.f k l p) (nodeE l p, true) := by
  have h2 := prefOk_size hp
  have hl := setOk_len hs
  have hd := setOk_dig hs
  unfold impl_NodeOf.f
  refine Ev.bind (impl_set l (by omega) (fun x h => by have := digestOk_size (hd x h); omega)) ?_
  rw [hs]
  simp only [if_true]
  rw [impl_pref p (by omega), hp]
  simp only [bindS, if_true]
  exact Ev.bind (impl_node (2 - p.size) l p (by omega) hl hd) (Ev.now _)
theorem clash_l1 (a b qs : List ByteArray) (i : Nat) (hi : i < 1000) (hq : qs.length ≤ 273) (p : ByteArray) (hp : p.size ≤ 2) (r : Bool) (h : Ev (fun k => laws_clash.l0 k a b (if p.size < 2 then qs ++ kidsOf p else qs) ((i + 1 : Nat) : Int)) r) : Ev (fun k => laws_clash.l1 k a b qs (i : Int) p 0) r := by
  by_cases hz : p.size < 2
  · rw [if_pos hz] at h
    have := fold_loop (n := 16) (r := r) (F := fun k acc t => laws_clash.l1 k a b acc (i : Int) p t) (st := fun t => qs ++ (List.range t).map (kid p)) (fun t ht hr => ?_) (Ev.step (f := fun k => laws_clash.l0 k a b (qs ++ kidsOf p) ((i + 1 : Nat) : Int)) (fun k => ?_) h)
    · simpa using this
    · refine Ev.step (fun k => ?_) hr
      have hs := hexS_size t ht
      simp only [laws_clash.l1]
      rw [if_pos (by omega), if_pos (by omega), if_pos (by omega), wrap_nat t (by omega), if_pos (by omega), if_pos (by omega), Int.toNat_natCast, Int.toNat_natCast]
      rw [show (⟨#[48, 49, 50, 51, 52, 53, 54, 55, 56, 57, 97, 98, 99, 100, 101, 102]⟩ : ByteArray).extract t (t + 1) = hexS t from rfl, if_pos (by omega), if_pos (by simp; omega), List.range_succ, List.map_append, ← List.append_assoc]
      rfl
    · simp only [laws_clash.l1]
      rw [if_pos (by omega), if_neg (by omega), wrap_nat i (by omega)]
      rfl
  · rw [if_neg hz] at h
    exact Ev.step (f := fun k => laws_clash.l0 k a b qs ((i + 1 : Nat) : Int)) (fun k => by simp only [laws_clash.l1]; rw [if_neg (by omega), wrap_nat i (by omega)]) h
theorem clash_l0 (a b : List ByteArray) (ha : setOk a = true) (hb : setOk b = true) : ∀ (n : Nat) (qs : List ByteArray) (i : Nat), Run a b qs [] [] i n → (∀ q ∈ qs, prefOk q = true) → Ev (fun k => laws_clash.l0 k a b qs (i : Int)) (clashM a b n qs i) := by
  have hla := setOk_len ha
  have hlb := setOk_len hb
  intro n
  induction n with
  | zero =>
    intro qs i h _
    have h1 := meas_len (qs.drop i)
    rw [List.length_drop] at h1
    have h2 := h.left
    have h3 := h.le
    exact Ev.step (f := fun _ => some false) (fun k => by simp only [laws_clash.l0]; rw [if_neg (by omega)]) (Ev.now _)
  | succ n ih =>
    intro qs i h hpq
    rw [clashM]
    by_cases hi : i < qs.length
    · rw [if_pos hi]
      have hlen := h.len
      have hp := hpq _ (List.getElem_mem hi)
      have hrd : rdOf ByteArray.empty qs (i : Int) = atS qs i := by rw [rdS qs i hi, atS_is qs i hi]
      have hon := h.on hi [] [] (by simp) (by simp)
      have hmore := h.more hi
      rw [← atS_is qs i hi] at hp
      generalize atS qs i = p at hrd hp hmore
      have hp2 := prefOk_size hp
      have hul := underM_len a p
      refine Ev.step (f := fun k => (spec_Under.f k a p).bind fun t447 => ((spec_Under.f k b p).bind fun t450 => ((laws_sameTexts.f k t447 t450).bind fun t453 => (if t453 = true then (laws_clash.l0 k a b qs ((i + 1 : Nat) : Int)) else ((spec_NodeOf.f k a p).bind fun bt454 => ((spec_NodeOf.f k b p).bind fun bt456 => (if bt454.1.toList = bt456.1.toList then (some true) else (laws_clash.l1 k a b qs (i : Int) p 0)))))))) (fun k => ?_) ?_
      · simp only [laws_clash.l0]
        rw [if_pos (by omega), if_pos (by omega), hrd, wrap_nat i (by omega)]
      · refine Ev.bind (specU a p ha hp) (Ev.bind (specU b p hb hp) (Ev.bind (sameT _ _ (by omega)) ?_))
        by_cases hu : underM a p = underM b p
        · rw [if_pos hu, decide_eq_true hu]
          simp only [if_true]
          exact ih _ _ hon hpq
        · rw [if_neg hu, decide_eq_false hu]
          simp only [Bool.false_eq_true, if_false]
          refine Ev.bind (specN a p ha hp) (Ev.bind (specN b p hb hp) ?_)
          by_cases hn : nodeE a p = nodeE b p
          · simp only [if_pos hn, hn, if_true]; exact Ev.now _
          · have hnl : ¬ (nodeE a p).toList = (nodeE b p).toList := fun e => hn ((same_is _ _).1 e)
            simp only [if_neg hn, if_neg hnl]
            refine clash_l1 a b qs i (by omega) hlen p hp2 _ ?_
            by_cases hz : p.size < 2
            · rw [if_pos hz]
              refine ih _ _ (hmore hz) (fun q hq => ?_)
              rcases List.mem_append.1 hq with hq | hq
              · exact hpq q hq
              · obtain ⟨t, ht, rfl⟩ := List.mem_map.1 hq
                exact pref_kid hp hz t (List.mem_range.1 ht)
            · rw [if_neg hz]
              exact ih _ _ hon hpq
    · rw [if_neg hi]
      exact Ev.step (f := fun _ => some false) (fun k => by simp only [laws_clash.l0]; rw [if_neg (by omega)]) (Ev.now _)
theorem pref_none : prefOk (⟨#[]⟩ : ByteArray) = true := by decide
theorem diff_l1 (a b A M L : List ByteArray) (ha : setOk a = true) (hb : setOk b = true) (hF : FoundD a b (A, M, L)) : ∀ d i : Nat, i + d = b.length → Ev (fun k => laws_FnDiff.l1 k a b A M L (i : Int)) true := by
  have hla := setOk_len ha
  have hlb := setOk_len hb
  have hml : M.length ≤ a.length := hF.ml
  have hll : L.length ≤ b.length := hF.ll
  intro d
  induction d with
  | zero =>
    intro i hi
    refine Ev.step (f := fun k => (impl_NodeOf.f k a (⟨#[]⟩ : ByteArray)).bind fun bt494 => ((impl_NodeOf.f k b (⟨#[]⟩ : ByteArray)).bind fun bt496 => (if bt494.2 = true then (if bt496.2 = true then ((laws_sameTexts.f k a b).bind fun t498 => (if ((bt494.1.toList == bt496.1.toList) == t498) = true then (if ((bt494.1.toList == bt496.1.toList) == ((A.length : Int) == 1)) = true then (if (M.length : Int) ≤ (a.length : Int) then (some (decide ((L.length : Int) ≤ (b.length : Int)))) else (some false)) else (some false)) else (some false))) else (some false)) else (some false)))) (fun k => by simp only [laws_FnDiff.l1]; rw [if_neg (by omega)]) ?_
    refine Ev.bind (implN a _ ha pref_none) (Ev.bind (implN b _ hb pref_none) ?_)
    simp only [if_true]
    refine Ev.bind (sameT a b (by omega)) ?_
    have e1 : ((nodeE a (⟨#[]⟩ : ByteArray)).toList == (nodeE b (⟨#[]⟩ : ByteArray)).toList) = decide (a = b) := by
      by_cases h : a = b
      · rw [decide_eq_true h, hF.root.2 h]; exact beq_self_eq_true _
      · rw [decide_eq_false h]; exact beq_eq_false_iff_ne.2 (fun e => h (hF.root.1 ((same_is _ _).1 e)))
    have e2 : ((A.length : Int) == 1) = decide (a = b) := by
      have h1 : A.length = 1 ↔ a = b := hF.one
      by_cases h : a = b
      · rw [decide_eq_true h]; have := h1.2 h; exact beq_iff_eq.2 (by omega)
      · rw [decide_eq_false h]; exact beq_eq_false_iff_ne.2 (fun e => h (h1.1 (by omega)))
    simp only [e1, e2, beq_self_eq_true, if_true, if_pos (show (M.length : Int) ≤ (a.length : Int) by omega), decide_eq_true (show (L.length : Int) ≤ (b.length : Int) by omega)]
    exact Ev.now _
  | succ d ih =>
    intro i hi
    have hlt : i < b.length := by omega
    have hm := List.getElem_mem hlt
    have hx := hF.less _ hm
    refine Ev.step (f := fun k => (laws_hasText.f k L b[i]).bind fun t500 => ((laws_hasText.f k a b[i]).bind fun t502 => (if (t500 == t502) = true then (some false) else (laws_FnDiff.l1 k a b A M L ((i + 1 : Nat) : Int))))) (fun k => ?_) ?_
    · simp only [laws_FnDiff.l1]
      rw [if_pos (by omega), if_pos (by omega), rdS b i hlt, wrap_nat i (by omega)]
    · refine Ev.bind (hasT L _ (by omega)) (Ev.bind (hasT a _ (by omega)) ?_)
      have hne : ¬ (decide (b[i] ∈ L) == decide (b[i] ∈ a)) = true := by
        rw [beq_iff_eq, decide_eq_decide]
        have hx2 : b[i] ∈ L ↔ ¬ b[i] ∈ a := hx
        intro e
        by_cases h : b[i] ∈ a
        · exact hx2.1 (e.2 h) h
        · exact h (e.1 (hx2.2 h))
      simp only [if_neg hne]
      exact ih (i + 1) (by omega)
theorem diff_l0 (a b A M L : List ByteArray) (ha : setOk a = true) (hb : setOk b = true) (hF : FoundD a b (A, M, L)) : ∀ d i : Nat, i + d = a.length → Ev (fun k => laws_FnDiff.l0 k a b A M L (i : Int)) true := by
  have hla := setOk_len ha
  have hlb := setOk_len hb
  have hml : M.length ≤ a.length := hF.ml
  intro d
  induction d with
  | zero =>
    intro i hi
    exact Ev.step (f := fun k => laws_FnDiff.l1 k a b A M L ((0 : Nat) : Int)) (fun k => by simp only [laws_FnDiff.l0]; rw [if_neg (by omega)]; rfl) (diff_l1 a b A M L ha hb hF b.length 0 (by omega))
  | succ d ih =>
    intro i hi
    have hlt : i < a.length := by omega
    have hm := List.getElem_mem hlt
    have hx := hF.more _ hm
    refine Ev.step (f := fun k => (laws_hasText.f k M a[i]).bind fun t491 => ((laws_hasText.f k b a[i]).bind fun t493 => (if (t491 == t493) = true then (some false) else (laws_FnDiff.l0 k a b A M L ((i + 1 : Nat) : Int))))) (fun k => ?_) ?_
    · simp only [laws_FnDiff.l0]
      rw [if_pos (by omega), if_pos (by omega), rdS a i hlt, wrap_nat i (by omega)]
    · refine Ev.bind (hasT M _ (by omega)) (Ev.bind (hasT b _ (by omega)) ?_)
      have hne : ¬ (decide (a[i] ∈ M) == decide (a[i] ∈ b)) = true := by
        rw [beq_iff_eq, decide_eq_decide]
        have hx2 : a[i] ∈ M ↔ ¬ a[i] ∈ b := hx
        intro e
        by_cases h : a[i] ∈ b
        · exact hx2.1 (e.2 h) h
        · exact h (e.1 (hx2.2 h))
      simp only [if_neg hne]
      exact ih (i + 1) (by omega)
end DiffO
open DiffO

theorem FnDiff : laws_FnDiff.Pure := by
  intro l _ hl2 hb
  have hm : l.length ≤ 140737488351232 := by omega
  refine Ev.rounds (g := fun k => laws_FnDiff.f k l) ?_
  unfold laws_FnDiff.f laws_big.f
  simp only [bindS]
  by_cases hbig : (l.length : Int) > 1048576
  · simp only [decide_eq_true hbig, if_true]; exact Ev.now _
  simp only [decide_eq_false hbig, Bool.false_eq_true, if_false]
  obtain ⟨a, b, hdraw, hla, hlb, hsa, hsb⟩ := drawSteps_ok hb hm
  obtain ⟨n, hrun⟩ : ∃ n, Run a b [⟨#[]⟩] [] [] 0 n := ⟨273, Run.start a b⟩
  refine Ev.bind hdraw (Ev.bind (spec_steps n a b hrun (by omega) (by omega)) (Ev.bind (impl_steps n a b hrun (by omega) (by omega) (fun x h => by have := hsa x h; omega) (fun x h => by have := hsb x h; omega)) ?_))
  simp only [bne_self_eq_false, Bool.false_eq_true, if_false]
  unfold StepsN
  cases ha : setOk a with
  | false => simp only [Bool.false_eq_true, if_false]; exact Ev.now _
  | true =>
    cases hq : setOk b with
    | false => simp only [Bool.false_eq_true, if_false, if_true]; exact Ev.now _
    | true =>
      simp only [if_true]
      have hcl : Ev (fun k => laws_clash.f k a b) (clashM a b n [⟨#[]⟩] 0) := by
        unfold laws_clash.f
        exact clash_l0 a b ha hq n _ 0 hrun (fun q h => by rw [List.mem_singleton] at h; rw [h]; exact pref_none)
      refine Ev.bind hcl ?_
      cases hc : clashM a b n [⟨#[]⟩] 0 with
      | true => simp only [if_true]; exact Ev.now _
      | false =>
        simp only [Bool.false_eq_true, if_false]
        have hF := found a b ha hq n hrun hc
        generalize stepsM a b n [⟨#[]⟩] [] [] 0 = R at hF
        obtain ⟨A, M, L⟩ := R
        exact diff_l0 a b A M L ha hq hF a.length 0 (by omega)

end Go.Proofs.YtoeomljkhabifaaDoor.Pure
