/- For all drawn references and texts: a reference comes back from its text, and what is read has just the text that it was read from. No condition but the sizes that the model lets a draw have. -/
import Derived.Test.YtldpdaifajjaeaaDoorQFnRefsx
import Derived.Test.YtldpdaifajjaeaaDoorRepoFnRefs
import Derived.Test.YtldpdaifajjaeaaDoorDigestFnRefs
namespace Go.Proofs.YtldpdaifajjaeaaDoor.Pure
open Go.RowKit Go.Proofs.YtldpdaifajjaeaaDoor.QFnRefs Go.Proofs.YtldpdaifajjaeaaDoorW.PrintWords Go.Proofs.YtldpdaifajjaeaaDoorW.PrintLast Go.Proofs.YtldpdaifajjaeaaDoorW.PrintMore Go.Proofs.YtldpdaifajjaeaaDoor.Bits Go.Proofs.YtldpdaifajjaeaaDoor.Num Go.Proofs.YtldpdaifajjaeaaDoor.Dig Go.Proofs.YtldpdaifajjaeaaDoor.Loops Go.Proofs.YtldpdaifajjaeaaDoor.Pieces Go.Proofs.YtldpdaifajjaeaaDoor.Repo Go.Proofs.YtldpdaifajjaeaaDoor.Sha Go.Proofs.YtldpdaifajjaeaaDoor.FrameRead Go.Proofs.YtldpdaifajjaeaaDoor.Digest
set_option linter.unusedSimpArgs false
set_option linter.unusedVariables false
namespace RefsOf
theorem rdS (xs : List ByteArray) (i : Nat) (h : i < xs.length) : rdOf ByteArray.empty xs (i : Int) = xs[i] := getD_at xs i _ h
theorem spec_cut (s : ByteArray) (c : UInt8) (hs : s.size ≤ 2097152) : Ev (fun k => spec_l3Cut.f k s (c.toNat : Int)) (pieces c s) := by
  unfold spec_l3Cut.f
  have key : ∀ d i j : Nat, ∀ acc : List ByteArray, i + d = s.size → j ≤ i → acc.length ≤ i → Ev (fun k => spec_l3Cut.l0 k s (c.toNat : Int) acc (j : Int) (i : Int)) (acc ++ (addH ((s.data.toList.drop j).take (i - j)) (cutL c (s.data.toList.drop i))).map mkB) := by
    intro d
    induction d with
    | zero =>
      intro i j acc hi hj ha
      obtain rfl : i = s.size := by omega
      refine Ev.step (f := fun k => spec_l3Cut.l0 k s (c.toNat : Int) (acc ++ [s.extract j s.size]) ((s.size + 1 : Nat) : Int) ((s.size + 1 : Nat) : Int)) (fun k => ?_) (Ev.step (f := fun _ => some (acc ++ [s.extract j s.size])) (fun k => ?_) ?_)
      · simp only [spec_l3Cut.l0]
        rw [if_pos (by omega), if_pos trivial, if_pos (by omega), if_pos (by omega), if_pos (by omega), wrap_nat s.size (by omega), Int.toNat_natCast, Int.toNat_natCast]
      · simp only [spec_l3Cut.l0]; rw [if_neg (by omega)]
      · rw [extract_mkB, List.drop_eq_nil_of_le (show s.data.toList.length ≤ s.size by rw [size_list]; exact Nat.le_refl _)]
        simp only [cutL, addH, List.append_nil, List.map_cons, List.map_nil]
        exact Ev.now _
    | succ d ih =>
      intro i j acc hi hj ha
      have hlt : i < s.size := by omega
      have hl : i < s.data.toList.length := by rw [size_list]; exact hlt
      have hb := bt_byte s i hlt
      rw [List.drop_eq_getElem_cons hl, cutL]
      by_cases h : s.data.toList[i] = c
      · rw [if_pos h]
        have hn := ih (i + 1) (i + 1) (acc ++ [s.extract j i]) (by omega) (Nat.le_refl _) (by simp; omega)
        rw [Nat.sub_self, List.take_zero, addH_nil _ (cutL_ne _ _)] at hn
        refine Ev.step (f := fun k => spec_l3Cut.l0 k s (c.toNat : Int) (acc ++ [s.extract j i]) ((i + 1 : Nat) : Int) ((i + 1 : Nat) : Int)) (fun k => ?_) ?_
        · simp only [spec_l3Cut.l0]
          rw [if_pos (by omega), if_neg (by omega), if_pos (by omega), if_pos (by omega), hb, h, if_pos rfl, if_pos (by omega), if_pos (by omega), if_pos (by omega), wrap_nat i (by omega), Int.toNat_natCast, Int.toNat_natCast]
        · simp only [addH, List.append_nil, List.map_cons]
          rw [extract_mkB] at hn ⊢
          rw [List.append_assoc] at hn
          exact hn
      · rw [if_neg h, addH_addH]
        have hn := ih (i + 1) j acc (by omega) (by omega) (by omega)
        refine Ev.step (f := fun k => spec_l3Cut.l0 k s (c.toNat : Int) acc (j : Int) ((i + 1 : Nat) : Int)) (fun k => ?_) ?_
        · simp only [spec_l3Cut.l0]
          rw [if_pos (by omega), if_neg (by omega), if_pos (by omega), if_pos (by omega), hb, if_neg (fun e => h ((byte_eq _ _).1 e)), wrap_nat i (by omega)]
        · have e : (s.data.toList.drop j).take (i + 1 - j) = (s.data.toList.drop j).take (i - j) ++ [s.data.toList[i]] := by
            rw [show i + 1 - j = (i - j) + 1 by omega, List.take_succ_eq_append_getElem (by rw [List.length_drop]; omega), List.getElem_drop]
            congr 3
            omega
          rw [e] at hn
          exact hn
  have h := key s.size 0 0 [] (by omega) (Nat.le_refl _) (Nat.zero_le _)
  rw [Nat.sub_self, List.take_zero, List.drop_zero, addH_nil _ (cutL_ne _ _), List.nil_append] at h
  exact h
theorem impl_split (s : ByteArray) (c : UInt8) (hs : s.size ≤ 2097152) : strings_Split.f s (⟨#[c]⟩ : ByteArray) = some (pieces c s) := by
  unfold strings_Split.f strings_genSplit.f
  rw [if_pos ⟨by omega, rfl, rfl, rfl⟩, bindS, split_pieces]
theorem lowS_eq (c : Int) : spec_l3Low.f c = some (lowByte c) := by
  unfold spec_l3Low.f spec_l1Digit.f lowByte
  by_cases h1 : c ≥ 48 <;> by_cases h2 : c ≤ 57 <;> by_cases h3 : c ≥ 97 <;> by_cases h4 : c ≤ 122 <;> simp [h1, h2, h3, h4] <;> omega
theorem spec_mark (s : ByteArray) (hs : s.size ≤ 1048576) : Ev (fun k => spec_l3Mark.f k s) (markM (bytesOf s)) := by
  have hl := bytesOf_length s
  have lp : ∀ d i : Nat, i + d = s.size → Ev (fun k => spec_l3Mark.l0 k s (i : Int)) (((bytesOf s).drop i).all (· == 45) && decide (0 < s.size)) := by
    intro d
    induction d with
    | zero =>
      intro i hi
      rw [List.drop_eq_nil_of_le (by omega), List.all_nil, Bool.true_and]
      refine Ev.step (f := fun _ => some (decide (0 < s.size))) (fun k => ?_) (Ev.now _)
      simp only [spec_l3Mark.l0]
      rw [if_neg (by omega)]
      congr 1
      rw [decide_eq_decide]
      omega
    | succ d ih =>
      intro i hi
      rw [drop_bytes s i (by omega), List.all_cons]
      by_cases h : bt s (i : Int) = 45
      · rw [beq_iff_eq.2 h, Bool.true_and]
        refine Ev.step (fun k => ?_) (ih (i + 1) (by omega))
        simp only [spec_l3Mark.l0]
        rw [if_pos (by omega), if_pos (by omega), if_pos h, wrap_nat i (by omega)]
      · rw [beq_eq_false_iff_ne.2 h, Bool.false_and, Bool.false_and]
        refine Ev.step (f := fun _ => some false) (fun k => ?_) (Ev.now _)
        simp only [spec_l3Mark.l0]
        rw [if_pos (by omega), if_pos (by omega), if_neg h]
  have j0 : ∀ b : Bool, Ev (fun k => spec_l3Mark.j0 k s b) (b || ((bytesOf s).all (· == 45) && decide (0 < s.size))) := by
    intro b
    cases b with
    | true => exact Ev.step (f := fun _ => some true) (fun k => by simp only [spec_l3Mark.j0, if_true]) (Ev.now _)
    | false =>
      refine Ev.step (f := fun k => spec_l3Mark.l0 k s 0) (fun k => by simp only [spec_l3Mark.j0, Bool.false_eq_true, if_false]) ?_
      exact lp s.size 0 (by omega)
  have e46 := list_bytes s [46]
  have e95 := list_bytes s [95]
  have e99 := list_bytes s [95, 95]
  rw [show [46].map (fun b : UInt8 => (b.toNat : Int)) = [46] from rfl] at e46
  rw [show [95].map (fun b : UInt8 => (b.toNat : Int)) = [95] from rfl] at e95
  rw [show [95, 95].map (fun b : UInt8 => (b.toNat : Int)) = [95, 95] from rfl] at e99
  unfold spec_l3Mark.f markM
  rw [hl]
  by_cases h1 : s.toList = [46]
  · simp only [if_pos h1, beq_iff_eq.2 (e46.1 h1), Bool.true_or]
    exact j0 true
  · simp only [if_neg h1, beq_eq_false_iff_ne.2 (fun h => h1 (e46.2 h)), Bool.false_or]
    by_cases h2 : s.toList = [95]
    · simp only [if_pos h2, beq_iff_eq.2 (e95.1 h2), Bool.true_or]
      exact j0 true
    · simp only [if_neg h2, beq_eq_false_iff_ne.2 (fun h => h2 (e95.2 h)), Bool.false_or]
      rw [show (bytesOf s == [95, 95]) = (s.toList == [95, 95]) by rw [Bool.eq_iff_iff, beq_iff_eq, beq_iff_eq]; exact e99.symm, Bool.and_comm (decide (0 < s.size))]
      exact j0 _
theorem spec_part (s : ByteArray) (hs : s.size ≤ 1048576) : Ev (fun k => spec_l3Part.f k s) (partOk s) := by
  have hl := bytesOf_length s
  have main : lowByte (bt s ((s.size - 1 : Nat) : Int)) = true → ∀ n i : Nat, s.size - i ≤ n → i ≤ s.size → Ev (fun k => spec_l3Part.l0 k s (i : Int)) (partA 1 ((bytesOf s).drop i)) := by
    intro hlast n
    induction n with
    | zero =>
      intro i hn hi
      rw [List.drop_eq_nil_of_le (by omega)]
      exact Ev.step (f := fun _ => some true) (fun k => by simp only [spec_l3Part.l0]; rw [if_neg (by omega)]) (Ev.now _)
    | succ n ih =>
      intro i hn hi
      by_cases hlt : i < s.size
      · have scan : ∀ e d : Nat, i + d + e = s.size → (∀ t, t < d → ¬ lowByte (bt s ((i + t : Nat) : Int)) = true) → Ev (fun k => spec_l3Part.l1 k s (i : Int) ((i + d : Nat) : Int)) (partA 1 ((bytesOf s).drop i)) := by
          intro e
          induction e with
          | zero =>
            intro d hd hno
            exact absurd (by rw [show s.size - 1 = i + (d - 1) by omega] at hlast; exact hlast) (hno (d - 1) (by omega))
          | succ e ih2 =>
            intro d hd hno
            by_cases hlow : lowByte (bt s ((i + d : Nat) : Int)) = true
            · have hrun := drop_run s i d (by omega)
              rw [drop_bytes s (i + d) (by omega)] at hrun
              have hnext := ih (i + d + 1) (by omega) (by omega)
              by_cases hd0 : d = 0
              · subst hd0
                rw [hrun, List.range_zero, List.map_nil, List.nil_append, partA_low _ _ _ hlow]
                refine Ev.step (f := fun k => spec_l3Part.l0 k s ((i + 0 + 1 : Nat) : Int)) (fun k => ?_) hnext
                simp only [spec_l3Part.l1]
                rw [if_pos (by omega), if_pos (by omega), lowS_eq, bindS, if_pos hlow, if_neg (by omega), wrap_nat (i + 0) (by omega)]
              · have hmk := spec_mark (s.extract i (i + d)) (by rw [ByteArray.size_extract]; omega)
                rw [run_bytes s i d (by omega)] at hmk
                rw [hrun, part_mark _ hlow _ _ (fun x hx => by
                  simp only [List.mem_map, List.mem_range] at hx
                  obtain ⟨t, ht, rfl⟩ := hx
                  exact hno t ht) (fun h => hd0 (run_nil s i d h))]
                refine Ev.step (f := fun k => (spec_l3Mark.f k (s.extract i (i + d))).bind fun t => if t = true then spec_l3Part.l0 k s ((i + d + 1 : Nat) : Int) else some false) (fun k => ?_) (Ev.bind hmk ?_)
                · simp only [spec_l3Part.l1]
                  rw [if_pos (by omega), if_pos (by omega), lowS_eq, bindS, if_pos hlow, if_pos (by omega), if_pos (by omega), if_pos (by omega), if_pos (by omega), wrap_nat (i + d) (by omega), Int.toNat_natCast, Int.toNat_natCast]
                · cases markM ((List.range d).map (fun t => bt s ((i + t : Nat) : Int))) with
                  | true => simp only [if_true, Bool.true_and]; exact hnext
                  | false => simp only [Bool.false_eq_true, if_false, Bool.false_and]; exact Ev.now _
            · refine Ev.step (f := fun k => spec_l3Part.l1 k s (i : Int) ((i + d + 1 : Nat) : Int)) (fun k => ?_) (ih2 (d + 1) (by omega) (fun t ht => by
                rcases Nat.lt_or_ge t d with h | h
                · exact hno t h
                · obtain rfl : t = d := by omega
                  exact hlow))
              simp only [spec_l3Part.l1]
              rw [if_pos (by omega), if_pos (by omega), lowS_eq, bindS, if_neg hlow, wrap_nat (i + d) (by omega)]
        refine Ev.step (f := fun k => spec_l3Part.l1 k s (i : Int) (i : Int)) (fun k => by simp only [spec_l3Part.l0]; rw [if_pos (by omega)]) ?_
        exact scan (s.size - i) 0 (by omega) (fun t ht => absurd ht (Nat.not_lt_zero _))
      · rw [List.drop_eq_nil_of_le (by omega)]
        exact Ev.step (f := fun _ => some true) (fun k => by simp only [spec_l3Part.l0]; rw [if_neg (by omega)]) (Ev.now _)
  have j0t : Ev (fun k => spec_l3Part.j0 k s true) false := Ev.step (f := fun _ => some false) (fun k => by simp only [spec_l3Part.j0, if_true]) (Ev.now _)
  have enil := list_bytes s []
  rw [List.map_nil] at enil
  unfold spec_l3Part.f partOk
  by_cases h0 : s.toList = []
  · simp only [if_pos h0, enil.1 h0]
    exact j0t
  · have hpos : 0 < s.size := by
      rcases Nat.eq_zero_or_pos s.size with h | h
      · exact absurd (enil.2 (List.length_eq_zero_iff.1 (by omega))) h0
      · exact h
    have hd0 := drop_bytes s 0 hpos
    rw [List.drop_zero] at hd0
    have ew : wrap64 ((s.size : Int) - 1) = ((s.size - 1 : Nat) : Int) := by unfold wrap64; omega
    simp only [if_neg h0, if_pos (show 0 < (s.size : Int) by omega), lowS_eq, Option.bind_some, ew, if_pos (show (0 : Int) ≤ ((s.size - 1 : Nat) : Int) by omega), if_pos (show ((s.size - 1 : Nat) : Int) < (s.size : Int) by omega)]
    by_cases h1 : lowByte (bt s 0) = true
    · simp only [if_pos h1]
      cases h2 : lowByte (bt s ((s.size - 1 : Nat) : Int)) with
      | true =>
        simp only [Bool.not_true]
        refine Ev.step (f := fun k => spec_l3Part.l0 k s 0) (fun k => by simp only [spec_l3Part.j0, Bool.false_eq_true, if_false]) ?_
        have := main h2 s.size 0 (by omega) (by omega)
        rw [List.drop_zero] at this
        rw [hd0] at this ⊢
        have h1' : lowByte (bt s ((0 : Nat) : Int)) = true := h1
        rw [partA_low _ _ _ h1'] at this ⊢
        exact this
      | false =>
        simp only [Bool.not_false]
        have hf : partA 0 (bytesOf s) = false := by
          rw [Bool.eq_false_iff]
          intro h
          have hr := drop_run s 0 (s.size - 1) (by omega)
          have e9 : (bytesOf s).drop (0 + (s.size - 1) + 1) = [] := List.drop_eq_nil_of_le (by omega)
          rw [drop_bytes s (0 + (s.size - 1)) (by omega), e9, List.drop_zero, Nat.zero_add] at hr
          rw [hr] at h
          rw [partA_last _ _ _ h] at h2
          cases h2
        rw [hf]
        exact j0t
    · simp only [if_neg h1]
      have h1' : ¬ lowByte (bt s ((0 : Nat) : Int)) = true := h1
      rw [hd0, partA, if_neg h1', if_neg (by decide), if_neg (by decide), if_neg (by decide)]
      exact j0t
theorem spec_repo (s : ByteArray) (hs : s.size ≤ 140737488351232) : Ev (fun k => spec_RepoOk.f k s) (repoOk s) := by
  unfold spec_RepoOk.f repoOk
  by_cases h0 : (s.size : Int) > 100
  · simp only [if_pos h0, decide_eq_false (show ¬ s.size ≤ 100 by omega), Bool.false_and]; exact Ev.now _
  · simp only [if_neg h0, decide_eq_true (show s.size ≤ 100 by omega), Bool.true_and]
    have hc := spec_cut s 47 (by omega)
    rw [show (((47 : UInt8).toNat : Nat) : Int) = 47 from rfl] at hc
    refine Ev.bind hc ?_
    have hp := pieces_len 47 s
    have hx := pieces_size 47 s
    generalize pieces 47 s = P at hp hx
    have key : ∀ d i : Nat, i + d = P.length → Ev (fun k => spec_RepoOk.l0 k P (i : Int)) ((P.drop i).all partOk) := by
      intro d
      induction d with
      | zero =>
        intro i hi
        rw [List.drop_eq_nil_of_le (by omega)]
        exact Ev.step (f := fun _ => some true) (fun k => by simp only [spec_RepoOk.l0]; rw [if_neg (by omega)]) (Ev.now _)
      | succ d ih =>
        intro i hi
        have hlt : i < P.length := by omega
        have hxs := hx _ (List.getElem_mem hlt)
        rw [List.drop_eq_getElem_cons hlt, List.all_cons]
        refine Ev.step (f := fun k => (spec_l3Part.f k P[i]).bind fun t => if t = true then spec_RepoOk.l0 k P ((i + 1 : Nat) : Int) else some false) (fun k => ?_) (Ev.bind (spec_part P[i] (by omega)) ?_)
        · simp only [spec_RepoOk.l0]; rw [if_pos (by omega), if_pos (by omega), rdS P i hlt, wrap_nat i (by omega)]
        · cases partOk P[i] with
          | true => simp only [if_true, Bool.true_and]; exact ih (i + 1) (by omega)
          | false => simp only [Bool.false_eq_true, if_false, Bool.false_and]; exact Ev.now _
    have := key P.length 0 (by omega)
    rw [List.drop_zero] at this
    exact this
theorem wordI_eq (c : Int) : impl_isWordByte.f c = some (lowByte c) := by
  unfold impl_isWordByte.f lowByte
  by_cases h1 : c ≥ 48 <;> by_cases h2 : c ≤ 57 <;> by_cases h3 : c ≥ 97 <;> by_cases h4 : c ≤ 122 <;> simp [h1, h2, h3, h4] <;> omega
theorem part_A : ∀ (l : List Int) (q : Nat), impl_isRepoPart.A q l = partA q l
  | [], q => rfl
  | c :: l, q => by
    rw [impl_isRepoPart.A, partA, wordI_eq]
    simp only [Option.some.injEq, part_A l]
theorem impl_part (s : ByteArray) (hs : s.size ≤ 100) : impl_isRepoPart.f s = some (partOk s) := by
  unfold impl_isRepoPart.f partOk
  rw [if_pos hs, part_A]
theorem impl_repo (s : ByteArray) (hs : s.size ≤ 140737488351232) : Ev (fun k => impl_isRepo.f k s) (repoOk s) := by
  unfold impl_isRepo.f repoOk
  by_cases h0 : (s.size : Int) > 100
  · simp only [if_pos h0, decide_eq_false (show ¬ s.size ≤ 100 by omega), Bool.false_and]; exact Ev.now _
  · simp only [if_neg h0, decide_eq_true (show s.size ≤ 100 by omega), Bool.true_and]
    refine Ev.bind (Ev.is (impl_split s 47 (by omega))) ?_
    have hp := pieces_len 47 s
    have hx := pieces_size 47 s
    generalize pieces 47 s = P at hp hx
    have key : ∀ d i : Nat, i + d = P.length → Ev (fun k => impl_isRepo.l0 k P (P.length : Int) (i : Int)) ((P.drop i).all partOk) := by
      intro d
      induction d with
      | zero =>
        intro i hi
        rw [List.drop_eq_nil_of_le (by omega)]
        exact Ev.step (f := fun _ => some true) (fun k => by simp only [impl_isRepo.l0]; rw [if_neg (by omega)]) (Ev.now _)
      | succ d ih =>
        intro i hi
        have hlt : i < P.length := by omega
        have hxs := hx _ (List.getElem_mem hlt)
        rw [List.drop_eq_getElem_cons hlt, List.all_cons]
        refine Ev.step (f := fun k => if partOk P[i] = true then impl_isRepo.l0 k P (P.length : Int) ((i + 1 : Nat) : Int) else some false) (fun k => ?_) ?_
        · simp only [impl_isRepo.l0]; rw [if_pos (by omega), if_pos (by omega), if_pos (by omega), rdS P i hlt, impl_part _ (by omega), bindS, wrap_nat i (by omega)]
        · cases partOk P[i] with
          | true => simp only [if_true, Bool.true_and]; exact ih (i + 1) (by omega)
          | false => simp only [Bool.false_eq_true, if_false, Bool.false_and]; exact Ev.now _
    have := key P.length 0 (by omega)
    rw [List.drop_zero] at this
    exact this
theorem l3Low_eq (c : Int) : spec_l3Low.f c = some (lowByte c) := by
  unfold spec_l3Low.f spec_l1Digit.f lowByte
  by_cases h1 : c ≥ 48 <;> by_cases h2 : c ≤ 57 <;> by_cases h3 : c ≥ 97 <;> by_cases h4 : c ≤ 122 <;> simp [h1, h2, h3, h4] <;> omega
theorem spec_tag_loop (s : ByteArray) (hs : s.size ≤ 140737488351232) (d : Nat) : ∀ i : Nat, i + d = s.size → Ev (fun k => spec_TagOk.l0 k s (i : Int)) (((bytesOf s).drop i).all tagByte) := by
  induction d with
  | zero =>
    intro i hi
    rw [List.drop_eq_nil_of_le (by rw [bytesOf_length]; omega)]
    refine Ev.step (f := fun _ => some true) (fun k => ?_) (Ev.now _)
    simp only [spec_TagOk.l0]; rw [if_neg (by omega)]
  | succ d ih =>
    intro i hi
    have hlt : i < s.size := by omega
    rw [drop_bytes s i hlt]
    refine Ev.step (f := fun k => if tagByte (bt s i) = true then spec_TagOk.l0 k s ((i + 1 : Nat) : Int) else some false) (fun k => ?_) ?_
    · simp only [spec_TagOk.l0]; rw [if_pos (by omega), if_pos (by omega), l3Low_eq]; simp only [Option.bind_some]
      rw [wrap_succ i _ hlt hs]; exact tag_ifs _ _ _
    · by_cases h : tagByte (bt s i) = true
      · simp only [if_pos h, List.all_cons, h, Bool.true_and]; exact ih (i + 1) (by omega)
      · simp only [if_neg h, List.all_cons, h, Bool.false_and]; exact Ev.now _
theorem spec_tag (s : ByteArray) (hs : s.size ≤ 140737488351232) : Ev (fun k => spec_TagOk.f k s) (tagOk s) := by
  have j1 : ∀ b : Bool, Ev (fun k => spec_TagOk.j0 k s b) (if b = true then false else (bytesOf s).all tagByte) := by
    intro b
    refine Ev.step (f := fun k => if b = true then some false else spec_TagOk.l0 k s 0) (fun k => by simp only [spec_TagOk.j0]) ?_
    cases b with
    | true => exact Ev.now _
    | false => exact spec_tag_loop s hs s.size 0 (by omega)
  unfold spec_TagOk.f tagOk
  by_cases h1 : (s.size : Int) < 1
  · simp only [if_pos h1, show ¬ (1 ≤ s.size) by omega, decide_false, Bool.false_and]; exact j1 true
  · simp only [if_neg h1, show (1 ≤ s.size) by omega, decide_true, Bool.true_and]
    by_cases h2 : (s.size : Int) > 128
    · simp only [if_pos h2, show ¬ (s.size ≤ 128) by omega, decide_false, Bool.false_and]; exact j1 true
    · simp only [if_neg h2, show (s.size ≤ 128) by omega, decide_true, Bool.true_and, show 0 < (s.size : Int) by omega, if_true]
      by_cases h3 : bt s 0 = 46
      · simp only [if_pos h3, h3, beq_self_eq_true, Bool.not_true, Bool.false_and]; exact j1 true
      · simp only [if_neg h3, show (bt s 0 == 46) = false by simpa using h3, Bool.not_false, Bool.true_and]
        have := j1 (bt s 0 == 45)
        by_cases h4 : (bt s 0 == 45) = true
        · simpa [h4] using this
        · simpa [h4] using this
theorem wordByte_eq (c : Int) : impl_isWordByte.f c = some (lowByte c) := by
  unfold impl_isWordByte.f lowByte
  by_cases h1 : c ≥ 48 <;> by_cases h2 : c ≤ 57 <;> by_cases h3 : c ≥ 97 <;> by_cases h4 : c ≤ 122 <;> simp [h1, h2, h3, h4] <;> omega
theorem impl_tag_loop (s : ByteArray) (hs : s.size ≤ 140737488351232) (d : Nat) : ∀ i : Nat, i + d = s.size → Ev (fun k => impl_isTag.l0 k s (s.size : Int) (i : Int)) (((bytesOf s).drop i).all tagByte) := by
  induction d with
  | zero =>
    intro i hi
    rw [List.drop_eq_nil_of_le (by rw [bytesOf_length]; omega)]
    refine Ev.step (f := fun _ => some true) (fun k => ?_) (Ev.now _)
    simp only [impl_isTag.l0]; rw [if_neg (by omega)]
  | succ d ih =>
    intro i hi
    have hlt : i < s.size := by omega
    rw [drop_bytes s i hlt]
    refine Ev.step (f := fun k => if tagByte (bt s i) = true then impl_isTag.l0 k s (s.size : Int) ((i + 1 : Nat) : Int) else some false) (fun k => ?_) ?_
    · simp only [impl_isTag.l0]; rw [if_pos (by omega), if_pos (by omega), if_pos (by omega), wordByte_eq]; simp only [Option.bind_some]
      rw [wrap_succ i _ hlt hs]; exact tag_ifs _ _ _
    · by_cases h : tagByte (bt s i) = true
      · simp only [if_pos h, List.all_cons, h, Bool.true_and]; exact ih (i + 1) (by omega)
      · simp only [if_neg h, List.all_cons, h, Bool.false_and]; exact Ev.now _
theorem impl_tag (s : ByteArray) (hs : s.size ≤ 140737488351232) : Ev (fun k => impl_isTag.f k s) (tagOk s) := by
  have j1 : ∀ b : Bool, Ev (fun k => impl_isTag.j0 k s b) (if b = true then false else (bytesOf s).all tagByte) := by
    intro b
    refine Ev.step (f := fun k => if b = true then some false else impl_isTag.l0 k s (s.size : Int) 0) (fun k => by simp only [impl_isTag.j0]) ?_
    cases b with
    | true => exact Ev.now _
    | false => exact impl_tag_loop s hs s.size 0 (by omega)
  unfold impl_isTag.f tagOk
  by_cases h1 : (s.size : Int) < 1
  · simp only [if_pos h1, show ¬ (1 ≤ s.size) by omega, decide_false, Bool.false_and]; exact j1 true
  · simp only [if_neg h1, show (1 ≤ s.size) by omega, decide_true, Bool.true_and]
    by_cases h2 : (s.size : Int) > 128
    · simp only [if_pos h2, show ¬ (s.size ≤ 128) by omega, decide_false, Bool.false_and]; exact j1 true
    · simp only [if_neg h2, show (s.size ≤ 128) by omega, decide_true, Bool.true_and, show 0 < (s.size : Int) by omega, if_true]
      by_cases h3 : bt s 0 = 46
      · simp only [if_pos h3, h3, beq_self_eq_true, Bool.not_true, Bool.false_and]; exact j1 true
      · simp only [if_neg h3, show (bt s 0 == 46) = false by simpa using h3, Bool.not_false, Bool.true_and]
        have := j1 (bt s 0 == 45)
        by_cases h4 : (bt s 0 == 45) = true
        · simpa [h4] using this
        · simpa [h4] using this
theorem l1Digit_eq (c : Int) : spec_l1Digit.f c = some (decide (48 ≤ c ∧ c ≤ 57)) := by
  unfold spec_l1Digit.f
  by_cases h1 : c ≥ 48 <;> by_cases h2 : c ≤ 57 <;> simp [h1, h2] <;> omega
theorem l1Hexit_eq (c : Int) (h0 : 0 ≤ c) (h1 : c ≤ 255) : spec_l1Hexit.f c = some (hexV c) := by
  unfold spec_l1Hexit.f
  rw [l1Digit_eq]
  simp only [Option.bind_some, decide_eq_true_eq, hexV]
  repeat' split
  all_goals first | rfl | (exfalso; omega) | (congr 1; omega)
theorem spec_dig_loop (s : ByteArray) (hs : s.size = 71) (d : Nat) : ∀ i : Nat, i + d = 71 → Ev (fun k => spec_DigestOk.l0 k s (i : Int)) (((bytesOf s).drop i).all hexB) := by
  induction d with
  | zero =>
    intro i hi
    rw [List.drop_eq_nil_of_le (by rw [bytesOf_length]; omega)]
    refine Ev.step (f := fun _ => some true) (fun k => ?_) (Ev.now _)
    simp only [spec_DigestOk.l0]; rw [if_neg (by omega)]
  | succ d ih =>
    intro i hi
    have hlt : i < s.size := by omega
    rw [drop_bytes s i hlt]
    have hb := bt_range s i
    refine Ev.step (f := fun k => if hexV (bt s i) < 0 then some false else spec_DigestOk.l0 k s ((i + 1 : Nat) : Int)) (fun k => ?_) ?_
    · simp only [spec_DigestOk.l0]; rw [if_pos (by omega), if_pos (by omega), if_pos (by omega), l1Hexit_eq _ hb.1 hb.2]; simp only [Option.bind_some]
      rw [wrap_succ i _ hlt (by omega)]
    · by_cases h : hexB (bt s i) = true
      · have hn : ¬ hexV (bt s i) < 0 := by rw [hexV_neg]; exact fun hh => hh h
        simp only [if_neg hn, List.all_cons, h, Bool.true_and]; exact ih (i + 1) (by omega)
      · have hn : hexV (bt s i) < 0 := by rw [hexV_neg]; exact h
        simp only [if_pos hn, List.all_cons, h, Bool.false_and]; exact Ev.now _
theorem spec_dig (s : ByteArray) : Ev (fun k => spec_DigestOk.f k s) (digestOk s) := by
  unfold spec_DigestOk.f digestOk
  by_cases h1 : (s.size : Int) = 71
  · have hs : s.size = 71 := by omega
    simp only [if_pos h1, show decide (s.size = 71) = true from decide_eq_true hs, Bool.true_and, show (0 : Nat) ≤ 7 by omega, show (7 : Int) ≤ (s.size : Int) by omega, if_true]
    refine Ev.step (f := fun k => if ((s.extract 0 7).toList != ([115, 104, 97, 50, 53, 54, 58] : List UInt8)) = true then some false else spec_DigestOk.l0 k s 7) (fun k => by simp only [spec_DigestOk.j0]) ?_
    cases h : ((s.extract 0 7).toList == digHead) with
    | true =>
      have h' : ((s.extract 0 7).toList != ([115, 104, 97, 50, 53, 54, 58] : List UInt8)) = false := by
        show (!((s.extract 0 7).toList == digHead)) = false; rw [h]; rfl
      simp only [h', Bool.false_eq_true, if_false, Bool.true_and]
      exact spec_dig_loop s hs 64 7 rfl
    | false =>
      have h' : ((s.extract 0 7).toList != ([115, 104, 97, 50, 53, 54, 58] : List UInt8)) = true := by
        show (!((s.extract 0 7).toList == digHead)) = true; rw [h]; rfl
      simp only [h', if_true, Bool.false_and]
      exact Ev.now _
  · have hs : ¬ s.size = 71 := by omega
    simp only [if_neg h1, hs, decide_false, Bool.false_and]
    refine Ev.step (f := fun k => some false) (fun k => by simp only [spec_DigestOk.j0, if_true]) (Ev.now _)
theorem head_size : (⟨#[115, 104, 97, 50, 53, 54, 58]⟩ : ByteArray).size = 7 := rfl
theorem head_list : (⟨#[115, 104, 97, 50, 53, 54, 58]⟩ : ByteArray).toList = digHead := toL _
theorem cutHead (s : ByteArray) : strings_CutPrefix.f s (⟨#[115, 104, 97, 50, 53, 54, 58]⟩ : ByteArray) = some (if (decide (7 ≤ s.size) && ((s.extract 0 7).toList == digHead)) = true then (s.extract 7 s.size, true) else (s, false)) := by
  unfold strings_CutPrefix.f stringslite_CutPrefix.f stringslite_HasPrefix.f
  rw [head_size, head_list]
  by_cases h : 7 ≤ s.size
  · have h2 : (s.size : Int) ≥ ((7 : Nat) : Int) := by omega
    simp only [if_pos h2, show (0 : Int) ≤ ((7 : Nat) : Int) by omega, show ((7 : Nat) : Int) ≤ (s.size : Int) from h2, if_true, Option.bind_some, h, decide_true, Bool.true_and, Int.toNat_natCast]
    cases hh : ((s.extract 0 7).toList == digHead) <;> simp
  · have h2 : ¬ (s.size : Int) ≥ ((7 : Nat) : Int) := by omega
    simp only [if_neg h2, Option.bind_some, h, decide_false, Bool.false_and, Bool.false_eq_true, if_false]
theorem trimHex (s : ByteArray) (hs : s.size ≤ 140737488351232) : ∃ t, strings_Trim.f s (⟨#[48, 49, 50, 51, 52, 53, 54, 55, 56, 57, 97, 98, 99, 100, 101, 102]⟩ : ByteArray) = some t ∧ (t.toList == ([] : List UInt8)) = (bytesOf s).all hexB := by
  unfold strings_Trim.f
  refine ⟨_, if_pos ⟨by omega, by decide, by decide⟩, ?_⟩
  rw [toL]
  show (Lib.trimS s.data.toList hexSet == []) = _
  rw [trimS_nil]
  have := all_bytes s hexB 0
  rw [List.drop_zero, List.drop_zero] at this
  rw [this]
  congr 1; funext b; exact hexSet_is b
theorem impl_dig (s : ByteArray) (hs : s.size ≤ 140737488351232) : impl_isDigest.f s = some (digestOk s) := by
  unfold impl_isDigest.f
  rw [cutHead]
  simp only [Option.bind_some]
  unfold digestOk
  by_cases h71 : s.size = 71
  · cases hh : ((s.extract 0 7).toList == digHead) with
    | true =>
      have hx : (s.extract 7 s.size).size = 64 := by rw [ByteArray.size_extract]; omega
      obtain ⟨t, ht, he⟩ := trimHex (s.extract 7 s.size) (by omega)
      rw [h71] at hx ht he ⊢
      simp only [show (7 : Nat) ≤ 71 by omega, decide_true, Bool.true_and, if_true, hx, show ((64 : Nat) : Int) = 64 from rfl, ht, Option.bind_some, he]
      rw [show (bytesOf (s.extract 7 71)) = (bytesOf s).drop 7 by
        simp only [bytesOf, extract_data, List.map_take, List.map_drop]
        rw [List.take_of_length_le]
        simp only [List.length_drop, List.length_map, Array.length_toList]
        have : s.data.size = 71 := h71
        omega]
    | false => simp
  · simp only [h71, decide_false, Bool.false_and]
    cases hh : (decide (7 ≤ s.size) && ((s.extract 0 7).toList == digHead)) with
    | true =>
      have h7 : 7 ≤ s.size := by simp only [Bool.and_eq_true, decide_eq_true_eq] at hh; exact hh.1
      have hx : ¬ ((s.extract 7 s.size).size : Int) = 64 := by rw [ByteArray.size_extract]; omega
      simp only [if_true, if_neg hx]
    | false => simp
def refOk (r t d : ByteArray) : Bool := repoOk r && ((t.toList == ([] : List UInt8) || tagOk t) && (d.toList == ([] : List UInt8) || digestOk d))
def refText (r t d : ByteArray) : ByteArray := if t.toList = ([] : List UInt8) then (if d.toList = ([] : List UInt8) then r else r ++ ((⟨#[64]⟩ : ByteArray) ++ d)) else (if d.toList = ([] : List UInt8) then r ++ ((⟨#[58]⟩ : ByteArray) ++ t) else (r ++ ((⟨#[58]⟩ : ByteArray) ++ t)) ++ ((⟨#[64]⟩ : ByteArray) ++ d))
def writeRef (r t d : ByteArray) : ByteArray := if refOk r t d = true then refText r t d else ⟨#[]⟩
theorem spec_ref (r t d : ByteArray) (hr : r.size ≤ 1048576) (ht : t.size ≤ 1048576) (hd : d.size ≤ 1048576) : Ev (fun k => spec_l3Ref.f k r t d) (refOk r t d) := by
  unfold spec_l3Ref.f refOk
  refine Ev.bind (spec_repo r (by omega)) ?_
  cases repoOk r with
  | false => simp only [Bool.false_eq_true, if_false, Bool.false_and]; exact Ev.now _
  | true =>
    simp only [if_true, Bool.true_and]
    by_cases h1 : t.toList = []
    · simp only [if_pos h1, beq_iff_eq.2 h1, Bool.true_or, Bool.true_and]
      by_cases h2 : d.toList = []
      · simp only [if_pos h2, beq_iff_eq.2 h2, Bool.true_or]; exact Ev.now _
      · simp only [if_neg h2, beq_eq_false_iff_ne.2 h2, Bool.false_or]; exact Ev.bind (spec_dig d) (Ev.now _)
    · simp only [if_neg h1, beq_eq_false_iff_ne.2 h1, Bool.false_or]
      refine Ev.bind (spec_tag t (by omega)) ?_
      cases tagOk t with
      | false => simp only [Bool.false_eq_true, if_false, Bool.false_and]; exact Ev.now _
      | true =>
        simp only [if_true, Bool.true_and]
        by_cases h2 : d.toList = []
        · simp only [if_pos h2, beq_iff_eq.2 h2, Bool.true_or]; exact Ev.now _
        · simp only [if_neg h2, beq_eq_false_iff_ne.2 h2, Bool.false_or]; exact Ev.bind (spec_dig d) (Ev.now _)
theorem spec_writeR (r t d : ByteArray) (hr : r.size ≤ 1048576) (ht : t.size ≤ 1048576) (hd : d.size ≤ 1048576) : Ev (fun k => spec_WriteRef.f k r t d) (writeRef r t d) := by
  unfold spec_WriteRef.f writeRef
  refine Ev.bind (spec_ref r t d hr ht hd) ?_
  cases refOk r t d with
  | false => simp only [Bool.false_eq_true, if_false]; exact Ev.now _
  | true =>
    simp only [if_true]
    unfold refText
    simp only [if_pos (show r.size + 1 ≤ 9223372036854775807 by omega), if_pos (show r.size + 1 + d.size ≤ 9223372036854775807 by omega), if_pos (show r.size + 1 + t.size ≤ 9223372036854775807 by omega), if_pos (show r.size + 1 + t.size + 1 ≤ 9223372036854775807 by omega), if_pos (show r.size + 1 + t.size + 1 + d.size ≤ 9223372036854775807 by omega)]
    by_cases h1 : t.toList = []
    · by_cases h2 : d.toList = []
      · simp only [if_pos h1, if_pos h2]; exact Ev.now _
      · simp only [if_pos h1, if_neg h2, ByteArray.append_assoc]; exact Ev.now _
    · by_cases h2 : d.toList = []
      · simp only [if_neg h1, if_pos h2, ByteArray.append_assoc]; exact Ev.now _
      · simp only [if_neg h1, if_neg h2, ByteArray.append_assoc]; exact Ev.now _
theorem impl_writeR (r t d : ByteArray) (hr : r.size ≤ 1048576) (ht : t.size ≤ 1048576) (hd : d.size ≤ 1048576) : Ev (fun k => impl_WriteRef.f k r t d) (writeRef r t d) := by
  have j0 : ∀ b : Bool, Ev (fun k => impl_WriteRef.j0 k b r t d) (if b = true then ⟨#[]⟩ else refText r t d) := by
    intro b
    cases b with
    | true => exact Ev.step (f := fun _ => some ⟨#[]⟩) (fun k => by simp only [impl_WriteRef.j0, if_true]) (Ev.now _)
    | false =>
      refine Ev.step (f := fun _ => some (refText r t d)) (fun k => ?_) (Ev.now _)
      unfold refText
      simp only [impl_WriteRef.j0, Bool.false_eq_true, if_false]
      simp only [if_pos (show 1 + d.size ≤ 9223372036854775807 by omega), if_pos (show 1 + t.size ≤ 9223372036854775807 by omega), if_pos (show r.size + 1 + d.size ≤ 9223372036854775807 by omega), if_pos (show r.size + 1 + t.size ≤ 9223372036854775807 by omega), if_pos (show r.size + (1 + t.size) + 1 + d.size ≤ 9223372036854775807 by omega)]
      by_cases h1 : t.toList = []
      · by_cases h2 : d.toList = []
        · simp only [if_pos h1, if_pos h2]
        · simp only [if_pos h1, if_neg h2]
      · by_cases h2 : d.toList = []
        · simp only [if_neg h1, if_pos h2]
        · simp only [if_neg h1, if_neg h2]
  unfold impl_WriteRef.f writeRef refOk
  refine Ev.bind (impl_repo r (by omega)) ?_
  cases repoOk r with
  | false => simp only [Bool.false_eq_true, if_false, Bool.false_and]; exact j0 true
  | true =>
    simp only [if_true, Bool.true_and]
    by_cases h1 : t.toList = []
    · simp only [if_pos h1, beq_iff_eq.2 h1, Bool.true_or, Bool.true_and]
      by_cases h2 : d.toList = []
      · simp only [if_pos h2, beq_iff_eq.2 h2, Bool.true_or, if_true]; exact j0 false
      · simp only [if_neg h2, beq_eq_false_iff_ne.2 h2, Bool.false_or]
        refine Ev.bind (Ev.is (impl_dig d (by omega))) ?_
        cases digestOk d with
        | true => simp only [Bool.not_true, if_true]; exact j0 false
        | false => simp only [Bool.not_false, Bool.false_eq_true, if_false]; exact j0 true
    · simp only [if_neg h1, beq_eq_false_iff_ne.2 h1, Bool.false_or]
      refine Ev.bind (impl_tag t (by omega)) ?_
      cases tagOk t with
      | false => simp only [Bool.false_eq_true, if_false, Bool.false_and]; exact j0 true
      | true =>
        simp only [if_true, Bool.true_and]
        by_cases h2 : d.toList = []
        · simp only [if_pos h2, beq_iff_eq.2 h2, Bool.true_or, if_true]; exact j0 false
        · simp only [if_neg h2, beq_eq_false_iff_ne.2 h2, Bool.false_or]
          refine Ev.bind (Ev.is (impl_dig d (by omega))) ?_
          cases digestOk d with
          | true => simp only [Bool.not_true, if_true]; exact j0 false
          | false => simp only [Bool.not_false, Bool.false_eq_true, if_false]; exact j0 true
def pos (p : UInt8 → Bool) : List UInt8 → Nat
  | [] => 0
  | b :: l => if p b = true then 0 else pos p l + 1
theorem pos_le (p : UInt8 → Bool) : ∀ l, pos p l ≤ l.length
  | [] => Nat.le_refl _
  | b :: l => by rw [pos]; have := pos_le p l; split <;> simp only [List.length_cons] <;> omega
theorem pos_hit (p : UInt8 → Bool) : ∀ l (h : pos p l < l.length), p (l[pos p l]'h) = true
  | [], h => absurd h (Nat.lt_irrefl _)
  | b :: l, h => by
    by_cases hb : p b = true
    · have e : pos p (b :: l) = 0 := by rw [pos, if_pos hb]
      simp only [e, List.getElem_cons_zero]; exact hb
    · have e : pos p (b :: l) = pos p l + 1 := by rw [pos, if_neg hb]
      rw [e, List.length_cons] at h
      simp only [e, List.getElem_cons_succ]; exact pos_hit p l (by omega)
theorem pos_two (p q : UInt8 → Bool) (hpq : ∀ b, q b = true → p b = true) : ∀ l, pos p l ≤ pos q l ∧ pos q (l.drop (pos p l)) = pos q l - pos p l
  | [] => ⟨Nat.le_refl _, rfl⟩
  | b :: l => by
    have ih := pos_two p q hpq l
    by_cases hb : p b = true
    · simp only [pos, if_pos hb, List.drop_zero, Nat.zero_le, Nat.sub_zero, and_self]
    · have hq : ¬ q b = true := fun h => hb (hpq b h)
      simp only [pos, if_neg hb, if_neg hq, List.drop_succ_cons]
      exact ⟨by omega, by rw [ih.2]; omega⟩
theorem pos_drop (p : UInt8 → Bool) (l : List UInt8) (i : Nat) (h : i < l.length) : pos p (l.drop i) = if p l[i] = true then 0 else pos p (l.drop (i + 1)) + 1 := by
  rw [List.drop_eq_getElem_cons h, pos]
def p2 : UInt8 → Bool := fun x => x == 58 || x == 64
def p1 : UInt8 → Bool := fun x => x == 64
theorem indexAny_pos : ∀ l : List UInt8, Lib.indexAny l [58, 64] = if pos p2 l = l.length then -1 else (pos p2 l : Int)
  | [] => rfl
  | b :: l => by
    have ih := indexAny_pos l
    have hc : ([58, 64] : List UInt8).contains b = p2 b := by
      simp only [List.contains_cons, List.contains_nil, Bool.or_false, p2]
    have hle := pos_le p2 l
    rw [Lib.indexAny, pos, hc, List.length_cons]
    cases p2 b with
    | true => simp only [if_true]; rw [if_neg (by omega)]; rfl
    | false =>
      simp only [Bool.false_eq_true, if_false, Nat.add_right_cancel_iff]
      rw [ih]
      by_cases h : pos p2 l = l.length
      · simp only [if_pos h]; rfl
      · simp only [if_neg h]
        rw [if_neg (by rw [beq_iff_eq]; omega)]; omega
theorem indexByte_pos : ∀ l : List UInt8, Lib.indexByte l 64 = if pos p1 l = l.length then -1 else (pos p1 l : Int)
  | [] => rfl
  | b :: l => by
    have ih := indexByte_pos l
    have hle := pos_le p1 l
    rw [Lib.indexByte, pos, List.length_cons]
    show (if p1 b = true then _ else _) = _
    cases p1 b with
    | true => simp only [if_true]; rw [if_neg (by omega)]; rfl
    | false =>
      simp only [Bool.false_eq_true, if_false, Nat.add_right_cancel_iff]
      rw [ih]
      by_cases h : pos p1 l = l.length
      · simp only [if_pos h]; rfl
      · simp only [if_neg h]
        rw [if_neg (by rw [beq_iff_eq]; omega)]; omega
theorem spec_find_loop (s : ByteArray) (a b : UInt8) (hs : s.size ≤ 1048576) (d : Nat) : ∀ i : Nat, i + d = s.size → Ev (fun k => spec_l3Find.l0 k s (a.toNat : Int) (b.toNat : Int) (i : Int)) ((i + pos (fun x => x == a || x == b) (s.data.toList.drop i) : Nat) : Int) := by
  induction d with
  | zero =>
    intro i hi
    have e : s.data.toList.drop i = [] := List.drop_eq_nil_of_le (by rw [size_list]; omega)
    rw [e]
    exact Ev.step (f := fun _ => some (s.size : Int)) (fun k => by simp only [spec_l3Find.l0, if_neg (show ¬ (i : Int) < (s.size : Int) by omega)]) (by rw [show i + pos (fun x => x == a || x == b) [] = s.size from hi]; exact Ev.now _)
  | succ d ih =>
    intro i hi
    have hlt : i < s.size := by omega
    have hl : i < s.data.toList.length := by rw [size_list]; exact hlt
    rw [pos_drop _ _ i hl]
    have hb := bt_byte s i hlt
    by_cases h1 : s.data.toList[i] = a
    · refine Ev.step (f := fun _ => some (i : Int)) (fun k => ?_) ?_
      · simp only [spec_l3Find.l0, if_pos (show (i : Int) < (s.size : Int) by omega), if_pos (Int.natCast_nonneg i), hb, if_pos ((byte_eq _ _).2 h1)]
      · simp only [beq_iff_eq.2 h1, Bool.true_or, if_true, Nat.add_zero]; exact Ev.now _
    · by_cases h2 : s.data.toList[i] = b
      · refine Ev.step (f := fun _ => some (i : Int)) (fun k => ?_) ?_
        · simp only [spec_l3Find.l0, if_pos (show (i : Int) < (s.size : Int) by omega), if_pos (Int.natCast_nonneg i), hb, if_neg (fun h => h1 ((byte_eq _ _).1 h)), if_pos ((byte_eq _ _).2 h2)]
        · simp only [beq_iff_eq.2 h2, Bool.or_true, if_true, Nat.add_zero]; exact Ev.now _
      · refine Ev.step (f := fun k => spec_l3Find.l0 k s (a.toNat : Int) (b.toNat : Int) ((i + 1 : Nat) : Int)) (fun k => ?_) ?_
        · simp only [spec_l3Find.l0, if_pos (show (i : Int) < (s.size : Int) by omega), if_pos (Int.natCast_nonneg i), hb, if_neg (fun h => h1 ((byte_eq _ _).1 h)), if_neg (fun h => h2 ((byte_eq _ _).1 h)), wrap_nat i (by omega)]
        · simp only [beq_eq_false_iff_ne.2 h1, beq_eq_false_iff_ne.2 h2, Bool.or_false, Bool.false_eq_true, if_false]
          have := ih (i + 1) (by omega)
          rwa [show i + 1 + pos (fun x => x == a || x == b) (s.data.toList.drop (i + 1)) = i + (pos (fun x => x == a || x == b) (s.data.toList.drop (i + 1)) + 1) from by omega] at this
theorem spec_find2 (s : ByteArray) (hs : s.size ≤ 1048576) : Ev (fun k => spec_l3Find.f k s 58 64) ((pos p2 s.data.toList : Nat) : Int) := by
  have := spec_find_loop s 58 64 hs s.size 0 (by omega)
  rw [Nat.zero_add, List.drop_zero] at this
  exact this
theorem spec_find1 (s : ByteArray) (hs : s.size ≤ 1048576) : Ev (fun k => spec_l3Find.f k s 64 64) ((pos p1 s.data.toList : Nat) : Int) := by
  have := spec_find_loop s 64 64 hs s.size 0 (by omega)
  rw [Nat.zero_add, List.drop_zero] at this
  simp only [Bool.or_self] at this
  exact this
theorem impl_any (s : ByteArray) (hs : s.size ≤ 1048576) : strings_IndexAny.f s (⟨#[58, 64]⟩ : ByteArray) = some (if pos p2 s.data.toList = s.size then -1 else (pos p2 s.data.toList : Int)) := by
  unfold strings_IndexAny.f
  rw [if_pos ⟨by omega, rfl⟩, indexAny_pos, size_list]
theorem impl_cut (s : ByteArray) (hs : s.size ≤ 1048576) : strings_Cut.f s (⟨#[64]⟩ : ByteArray) = some (if pos p1 s.data.toList = s.size then (s, ⟨#[]⟩, false) else (s.extract 0 (pos p1 s.data.toList), s.extract (pos p1 s.data.toList + 1) s.size, true)) := by
  unfold strings_Cut.f stringslite_Cut.f stringslite_Index.f
  rw [if_pos (show (⟨#[64]⟩ : ByteArray).size = 1 from rfl)]
  show (Option.bind (Option.bind (some (Lib.indexByte s.data.toList 64)) _) _) = _
  rw [indexByte_pos, size_list, bindS]
  have hle := pos_le p1 s.data.toList
  rw [size_list] at hle
  by_cases h : pos p1 s.data.toList = s.size
  · simp only [if_pos h, if_neg (show ¬ ((-1 : Int) ≥ 0) by omega), bindS]
  · simp only [if_neg h]
    generalize pos p1 s.data.toList = b at h hle
    have e : wrap64 ((b : Int) + ((⟨#[64]⟩ : ByteArray).size : Int)) = ((b + 1 : Nat) : Int) := wrap_nat b (by omega)
    simp only [e, ge_iff_le, if_pos (Int.natCast_nonneg b), if_pos (show (b : Int) ≤ (s.size : Int) by omega), if_pos (Int.natCast_nonneg (b + 1)), if_pos (show ((b + 1 : Nat) : Int) ≤ (s.size : Int) by omega), bindS, Int.toNat_natCast]
theorem nil_iff (s : ByteArray) : s.toList = ([] : List UInt8) ↔ s.size = 0 := by
  rw [toL, ← List.length_eq_zero_iff, size_list]
theorem bt_cut (s : ByteArray) (a b i : Nat) (h : a + i < b) (hb : b ≤ s.size) : bt (s.extract a b) (i : Int) = bt s ((a + i : Nat) : Int) := by
  rw [bt_byte _ i (by rw [ByteArray.size_extract]; omega), bt_byte s (a + i) (by omega)]
  simp only [extract_data, List.getElem_take, List.getElem_drop]
def e0 : ByteArray := ⟨#[]⟩
def tailRef (r t d : ByteArray) (f : Bool) : ByteArray × ByteArray × ByteArray × Int := if f = true then (if digestOk d = true then (r, t, d, 0) else (e0, e0, e0, 3)) else (r, t, e0, 0)
def readRef (s : ByteArray) : ByteArray × ByteArray × ByteArray × Int :=
  if repoOk (s.extract 0 (pos p2 s.data.toList)) = true then
    (if pos p2 s.data.toList < pos p1 s.data.toList then
      (if tagOk (s.extract (pos p2 s.data.toList + 1) (pos p1 s.data.toList)) = true then tailRef (s.extract 0 (pos p2 s.data.toList)) (s.extract (pos p2 s.data.toList + 1) (pos p1 s.data.toList)) (s.extract (pos p1 s.data.toList + 1) s.size) (decide (pos p1 s.data.toList < s.size)) else (e0, e0, e0, 2))
     else tailRef (s.extract 0 (pos p2 s.data.toList)) e0 (s.extract (pos p1 s.data.toList + 1) s.size) (decide (pos p1 s.data.toList < s.size)))
  else (e0, e0, e0, 1)
theorem posF (s : ByteArray) : pos p2 s.data.toList ≤ pos p1 s.data.toList ∧ pos p1 s.data.toList ≤ s.size ∧ pos p1 (s.extract (pos p2 s.data.toList) s.size).data.toList = pos p1 s.data.toList - pos p2 s.data.toList
    ∧ (pos p2 s.data.toList < s.size → (bt s (pos p2 s.data.toList : Int) = 58 ↔ pos p2 s.data.toList < pos p1 s.data.toList)) := by
  have h2 := pos_two p2 p1 (fun b h => by unfold p1 at h; unfold p2; rw [h, Bool.or_true]) s.data.toList
  have hle := pos_le p1 s.data.toList
  rw [size_list] at hle
  refine ⟨h2.1, hle, ?_, fun h => ?_⟩
  · rw [extract_data, List.take_of_length_le (by rw [List.length_drop, size_list]; omega)]
    exact h2.2
  · have hl : pos p2 s.data.toList < s.data.toList.length := by rw [size_list]; exact h
    have hit := pos_hit p2 s.data.toList hl
    have hd := pos_drop p1 s.data.toList _ hl
    rw [h2.2] at hd
    rw [bt_byte s _ h]
    generalize s.data.toList[pos p2 s.data.toList] = x at hit hd
    by_cases h64 : x = 64
    · subst h64
      rw [if_pos (show p1 64 = true from rfl)] at hd
      constructor
      · intro h; exact absurd h (by decide)
      · intro h; omega
    · have h58 : x = 58 := by
        unfold p2 at hit
        simp only [Bool.or_eq_true, beq_iff_eq] at hit
        exact hit.resolve_right h64
      subst h58
      rw [if_neg (by decide)] at hd
      exact ⟨fun _ => by omega, fun _ => rfl⟩
theorem spec_readR (s : ByteArray) (hs : s.size ≤ 1048576) : Ev (fun k => spec_ReadRef.f k s) (readRef s) := by
  have hF := posF s
  unfold spec_ReadRef.f readRef
  refine Ev.bind (spec_find2 s hs) ?_
  generalize hA : pos p2 s.data.toList = a at hF
  generalize hB : pos p1 s.data.toList = b at hF
  obtain ⟨h1, h2, h3, h4⟩ := hF
  clear hA hB
  simp only [if_pos (Int.natCast_nonneg a), if_pos (show (a : Int) ≤ (s.size : Int) by omega), Int.toNat_natCast]
  refine Ev.bind (spec_repo _ (by rw [ByteArray.size_extract]; omega)) ?_
  cases repoOk (s.extract 0 a) with
  | false => simp only [Bool.false_eq_true, if_false]; exact Ev.now _
  | true =>
    simp only [if_true]
    have hsz : (s.extract a s.size).size = s.size - a := by rw [ByteArray.size_extract]; omega
    have end_ : ∀ r t : ByteArray, Ev (fun k => spec_ReadRef.j1 k (s.extract b s.size) e0 e0 e0 r t e0) (tailRef r t (s.extract (b + 1) s.size) (decide (b < s.size))) := by
      intro r t
      have hz : (s.extract b s.size).size = s.size - b := by rw [ByteArray.size_extract]; omega
      by_cases hb : b < s.size
      · refine Ev.step (f := fun k => (spec_DigestOk.f k ((s.extract b s.size).extract 1 (s.extract b s.size).size)).bind fun t131 => (if t131 = true then (some (r, t, (s.extract b s.size).extract 1 (s.extract b s.size).size, 0)) else (some (e0, e0, e0, 3)))) (fun k => ?_) ?_
        · simp only [spec_ReadRef.j1]
          rw [if_neg (by rw [nil_iff, hz]; omega), if_pos (by rw [hz]; omega)]
        · have ee : (s.extract b s.size).extract 1 (s.extract b s.size).size = s.extract (b + 1) s.size := by rw [hz, ByteArray.extract_extract]; congr 1; omega
          rw [ee, tailRef, decide_eq_true hb, if_pos rfl]
          refine Ev.bind (spec_dig _) ?_
          cases digestOk (s.extract (b + 1) s.size) with
          | true => exact Ev.now _
          | false => exact Ev.now _
      · refine Ev.step (f := fun _ => some (r, t, e0, 0)) (fun k => ?_) ?_
        · simp only [spec_ReadRef.j1]
          rw [if_pos (by rw [nil_iff, hz]; omega)]
        · rw [tailRef, decide_eq_false hb]; exact Ev.now _
    have plain : a = b → Ev (fun k => spec_ReadRef.j0 k (s.extract a s.size) false e0 e0 e0 (s.extract 0 a) e0 e0) (tailRef (s.extract 0 a) e0 (s.extract (b + 1) s.size) (decide (b < s.size))) := by
      intro hab
      subst hab
      exact Ev.step (f := fun k => spec_ReadRef.j1 k (s.extract a s.size) e0 e0 e0 (s.extract 0 a) e0 e0) (fun k => by simp only [spec_ReadRef.j0, Bool.false_eq_true, if_false]) (end_ _ _)
    by_cases ha : a < s.size
    · have hbt : bt (s.extract a s.size) 0 = bt s (a : Int) := bt_cut s a s.size 0 (by omega) (Nat.le_refl _)
      rw [hbt]
      have hn : ¬ (s.extract a s.size).toList = ([] : List UInt8) := by rw [nil_iff, hsz]; omega
      simp only [if_neg hn, if_pos (show (0 : Int) < ((s.extract a s.size).size : Int) by rw [hsz]; omega)]
      by_cases hc : a < b
      · rw [beq_iff_eq.2 ((h4 ha).2 hc), if_pos hc]
        have ee : (s.extract a s.size).extract 1 (b - a) = s.extract (a + 1) b := by rw [ByteArray.extract_extract]; congr 1; omega
        have e2 : (s.extract a s.size).extract (b - a) (s.extract a s.size).size = s.extract b s.size := by rw [hsz, ByteArray.extract_extract]; congr 1 <;> omega
        refine Ev.step (f := fun k => (spec_l3Find.f k (s.extract a s.size) 64 64).bind fun t129 => (if 1 ≤ t129 then (if t129 ≤ ((s.extract a s.size).size : Int) then ((spec_TagOk.f k ((s.extract a s.size).extract 1 (t129 : Int).toNat)).bind fun t130 => (if t130 = true then (if 0 ≤ t129 then (spec_ReadRef.j1 k ((s.extract a s.size).extract (t129 : Int).toNat (s.extract a s.size).size) e0 e0 e0 (s.extract 0 a) ((s.extract a s.size).extract 1 (t129 : Int).toNat) e0) else (none)) else (some (e0, e0, e0, 2)))) else (none)) else (none))) (fun k => by simp only [spec_ReadRef.j0, if_true]; rfl) ?_
        refine Ev.bind (spec_find1 _ (by rw [hsz]; omega)) ?_
        rw [h3]
        simp only [if_pos (show (1 : Int) ≤ ((b - a : Nat) : Int) by omega), if_pos (show ((b - a : Nat) : Int) ≤ ((s.extract a s.size).size : Int) by rw [hsz]; omega), Int.toNat_natCast, ee, e2, if_pos (Int.natCast_nonneg (b - a))]
        refine Ev.bind (spec_tag _ (by rw [ByteArray.size_extract]; omega)) ?_
        cases tagOk (s.extract (a + 1) b) with
        | false => simp only [Bool.false_eq_true, if_false]; exact Ev.now _
        | true => simp only [if_true]; exact end_ _ _
      · rw [beq_eq_false_iff_ne.2 (fun h => hc ((h4 ha).1 h)), if_neg hc]
        exact plain (by omega)
    · rw [if_neg (show ¬ a < b by omega)]
      simp only [if_pos (show (s.extract a s.size).toList = ([] : List UInt8) by rw [nil_iff, hsz]; omega)]
      exact plain (by omega)
theorem impl_readR (s : ByteArray) (hs : s.size ≤ 1048576) : Ev (fun k => impl_ReadRef.f k s) (readRef s) := by
  have hF := posF s
  unfold impl_ReadRef.f readRef
  refine Ev.bind (Ev.is (impl_any s hs)) ?_
  have hcut := impl_cut s hs
  generalize hA : pos p2 s.data.toList = a at hF
  generalize hB : pos p1 s.data.toList = b at hF hcut
  obtain ⟨h1, h2, h3, h4⟩ := hF
  clear hA hB
  have main : Ev (fun k => impl_ReadRef.j0 k s (a : Int)) (if repoOk (s.extract 0 a) = true then (if a < b then (if tagOk (s.extract (a + 1) b) = true then tailRef (s.extract 0 a) (s.extract (a + 1) b) (s.extract (b + 1) s.size) (decide (b < s.size)) else (e0, e0, e0, 2)) else tailRef (s.extract 0 a) e0 (s.extract (b + 1) s.size) (decide (b < s.size))) else (e0, e0, e0, 1)) := by
    have hcut' : strings_Cut.f s (⟨#[64]⟩ : ByteArray) = some (s.extract 0 b, (if b < s.size then s.extract (b + 1) s.size else e0), decide (b < s.size)) := by
      rw [hcut]
      by_cases hb : b < s.size
      · rw [if_neg (by omega), if_pos hb, decide_eq_true hb]
      · have : b = s.size := by omega
        rw [if_pos this, if_neg hb, decide_eq_false hb, this, ByteArray.extract_zero_size]; rfl
    refine Ev.step (f := fun k => if 0 ≤ (a : Int) then (if (a : Int) ≤ (s.size : Int) then ((strings_Cut.f s (⟨#[64]⟩ : ByteArray)).bind fun bt154 => ((impl_isRepo.f k (s.extract 0 ((a : Int) : Int).toNat)).bind fun t157 => (if t157 = true then (if (a : Int) < (s.size : Int) then (impl_ReadRef.j1 k (a : Int) bt154.1 bt154.2.1 bt154.2.2 ((bt s (a : Int)) == 58) (s.extract 0 ((a : Int) : Int).toNat) (⟨#[]⟩ : ByteArray) (⟨#[]⟩ : ByteArray)) else (impl_ReadRef.j1 k (a : Int) bt154.1 bt154.2.1 bt154.2.2 false (s.extract 0 ((a : Int) : Int).toNat) (⟨#[]⟩ : ByteArray) (⟨#[]⟩ : ByteArray))) else (some ((⟨#[]⟩ : ByteArray), (⟨#[]⟩ : ByteArray), (⟨#[]⟩ : ByteArray), 1))))) else (none)) else (none)) (fun k => by simp only [impl_ReadRef.j0]) ?_
    rw [hcut']
    simp only [if_pos (Int.natCast_nonneg a), if_pos (show (a : Int) ≤ (s.size : Int) by omega), Int.toNat_natCast, bindS]
    refine Ev.bind (impl_repo _ (by rw [ByteArray.size_extract]; omega)) ?_
    cases repoOk (s.extract 0 a) with
    | false => simp only [Bool.false_eq_true, if_false]; exact Ev.now _
    | true =>
      simp only [if_true]
      have end_ : ∀ r t : ByteArray, Ev (fun k => impl_ReadRef.j2 k (if b < s.size then s.extract (b + 1) s.size else e0) (decide (b < s.size)) r t e0) (tailRef r t (s.extract (b + 1) s.size) (decide (b < s.size))) := by
        intro r t
        by_cases hb : b < s.size
        · rw [if_pos hb, decide_eq_true hb]
          refine Ev.step (f := fun _ => (impl_isDigest.f (s.extract (b + 1) s.size)).bind fun t159 => (if t159 = true then (some (r, t, s.extract (b + 1) s.size, 0)) else (some (e0, e0, e0, 3)))) (fun k => by simp only [impl_ReadRef.j2, if_true]; rfl) ?_
          refine Ev.bind (Ev.is (impl_dig _ (by rw [ByteArray.size_extract]; omega))) ?_
          rw [tailRef, if_pos rfl]
          cases digestOk (s.extract (b + 1) s.size) with
          | true => exact Ev.now _
          | false => exact Ev.now _
        · rw [if_neg hb, decide_eq_false hb]
          exact Ev.step (f := fun _ => some (r, t, e0, 0)) (fun k => by simp only [impl_ReadRef.j2, Bool.false_eq_true, if_false]) (Ev.now _)
      have plain : Ev (fun k => impl_ReadRef.j1 k (a : Int) (s.extract 0 b) (if b < s.size then s.extract (b + 1) s.size else e0) (decide (b < s.size)) false (s.extract 0 a) e0 e0) (tailRef (s.extract 0 a) e0 (s.extract (b + 1) s.size) (decide (b < s.size))) :=
        Ev.step (f := fun k => impl_ReadRef.j2 k (if b < s.size then s.extract (b + 1) s.size else e0) (decide (b < s.size)) (s.extract 0 a) e0 e0) (fun k => by simp only [impl_ReadRef.j1, Bool.false_eq_true, if_false]) (end_ _ _)
      by_cases ha : a < s.size
      · simp only [if_pos (show (a : Int) < (s.size : Int) by omega)]
        by_cases hc : a < b
        · rw [beq_iff_eq.2 ((h4 ha).2 hc), if_pos hc]
          have hz : (s.extract 0 b).size = b := by rw [ByteArray.size_extract]; omega
          have ee : (s.extract 0 b).extract (a + 1) (s.extract 0 b).size = s.extract (a + 1) b := by rw [hz, ByteArray.extract_extract]; congr 1 <;> omega
          refine Ev.step (f := fun k => (impl_isTag.f k (s.extract (a + 1) b)).bind fun t158 => (if t158 = true then (impl_ReadRef.j2 k (if b < s.size then s.extract (b + 1) s.size else e0) (decide (b < s.size)) (s.extract 0 a) (s.extract (a + 1) b) e0) else (some (e0, e0, e0, 2)))) (fun k => ?_) ?_
          · simp only [impl_ReadRef.j1, if_true, wrap_nat a (by omega), if_pos (Int.natCast_nonneg (a + 1)), if_pos (show ((a + 1 : Nat) : Int) ≤ ((s.extract 0 b).size : Int) by rw [hz]; omega), Int.toNat_natCast, ee]
            rfl
          · refine Ev.bind (impl_tag _ (by rw [ByteArray.size_extract]; omega)) ?_
            cases tagOk (s.extract (a + 1) b) with
            | false => simp only [Bool.false_eq_true, if_false]; exact Ev.now _
            | true => simp only [if_true]; exact end_ _ _
        · rw [beq_eq_false_iff_ne.2 (fun h => hc ((h4 ha).1 h)), if_neg hc]
          exact plain
      · simp only [if_neg (show ¬ (a : Int) < (s.size : Int) by omega)]
        rw [if_neg (show ¬ a < b by omega)]
        exact plain
  by_cases h : a = s.size
  · simp only [if_pos h, if_pos (show (-1 : Int) < 0 by omega)]; rw [← h]; rw [← h] at main; exact main
  · simp only [if_neg h, if_neg (show ¬ (a : Int) < 0 by omega)]; exact main
theorem noneR : ∀ (l : List Int) (q : Nat), partA q l = true → ∀ c ∈ l, c ≠ 58 ∧ c ≠ 64 := by
  intro l
  induction l with
  | nil => intro q _ c hc; cases hc
  | cons x l ih =>
    intro q h c hc
    rw [partA] at h
    have low : lowByte x = true → x ≠ 58 ∧ x ≠ 64 := fun hx => by
      unfold lowByte at hx
      have := of_decide_eq_true hx
      omega
    rcases List.mem_cons.1 hc with rfl | hc
    · by_cases h1 : lowByte c = true
      · exact low h1
      · rw [if_neg h1] at h
        by_cases e1 : c = 46
        · omega
        · by_cases e2 : c = 95
          · omega
          · by_cases e3 : c = 45
            · omega
            · simp only [if_neg e1, if_neg e2, if_neg e3, ite_self, Bool.false_eq_true] at h
    · by_cases h1 : lowByte x = true
      · rw [if_pos h1] at h; exact ih 1 h c hc
      · rw [if_neg h1] at h
        split at h
        · split at h
          · exact ih _ h c hc
          · split at h
            · exact ih _ h c hc
            · split at h
              · exact ih _ h c hc
              · cases h
        · split at h
          · split at h
            · exact ih _ h c hc
            · cases h
          · split at h
            · split at h
              · exact ih _ h c hc
              · cases h
            · cases h
theorem addH_mem (p : List UInt8) (L : List (List UInt8)) (b : UInt8) (h : b ∈ p ∨ ∃ q ∈ L, b ∈ q) : ∃ q ∈ addH p L, b ∈ q := by
  cases L with
  | nil =>
    rcases h with h | ⟨q, hq, _⟩
    · exact ⟨p, by simp [addH], h⟩
    · cases hq
  | cons x L =>
    rcases h with h | ⟨q, hq, h⟩
    · exact ⟨p ++ x, by simp [addH], by simp [h]⟩
    · rcases List.mem_cons.1 hq with rfl | hq
      · exact ⟨p ++ q, by simp [addH], by simp [h]⟩
      · exact ⟨q, by simp [addH, hq], h⟩
theorem cutL_mem (c b : UInt8) : ∀ l : List UInt8, b ∈ l → b = c ∨ ∃ q ∈ cutL c l, b ∈ q
  | [], h => by cases h
  | x :: l, h => by
    rw [cutL]
    rcases List.mem_cons.1 h with rfl | h
    · by_cases hx : b = c
      · exact .inl hx
      · refine .inr ?_
        rw [if_neg hx]
        exact addH_mem [b] _ b (.inl (by simp))
    · rcases cutL_mem c b l h with hb | ⟨q, hq, hb⟩
      · exact .inl hb
      · refine .inr ?_
        by_cases hx : x = c
        · rw [if_pos hx]; exact ⟨q, List.mem_cons_of_mem _ hq, hb⟩
        · rw [if_neg hx]; exact addH_mem [x] _ b (.inr ⟨q, hq, hb⟩)
theorem mem_bytes (s : ByteArray) (b : UInt8) (h : b ∈ s.data.toList) : (b.toNat : Int) ∈ bytesOf s := by
  rw [bytesOf]; exact List.mem_map.2 ⟨b, h, rfl⟩
theorem repo_none {r : ByteArray} (h : repoOk r = true) : ∀ b ∈ r.data.toList, p2 b = false := by
  intro b hb
  have hall : (pieces 47 r).all partOk = true := by
    unfold repoOk at h
    exact (Bool.and_eq_true_iff.1 h).2
  have key : b ≠ 58 ∧ b ≠ 64 := by
    rcases cutL_mem 47 b _ hb with rfl | ⟨q, hq, hbq⟩
    · exact ⟨by decide, by decide⟩
    · have h1 := List.all_eq_true.1 hall (mkB q) (List.mem_map.2 ⟨q, hq, rfl⟩)
      have h2 := noneR _ 0 h1 (b.toNat : Int) (mem_bytes _ b (by rw [data_mkB]; exact hbq))
      exact ⟨fun e => h2.1 (by rw [e]; rfl), fun e => h2.2 (by rw [e]; rfl)⟩
  unfold p2
  rw [beq_eq_false_iff_ne.2 key.1, beq_eq_false_iff_ne.2 key.2]; rfl
theorem tag_none {t : ByteArray} (h : tagOk t = true) : (∀ b ∈ t.data.toList, p1 b = false) ∧ 1 ≤ t.size := by
  unfold tagOk at h
  simp only [Bool.and_eq_true, decide_eq_true_eq] at h
  refine ⟨fun b hb => ?_, h.1.1.1.1⟩
  have h1 := List.all_eq_true.1 h.2 _ (mem_bytes t b hb)
  unfold tagByte at h1
  have h2 := of_decide_eq_true h1
  unfold p1
  refine beq_eq_false_iff_ne.2 (fun e => ?_)
  rw [e] at h2
  have e64 : ((64 : UInt8).toNat : Int) = 64 := rfl
  omega
theorem p12 {b : UInt8} (h : p2 b = false) : p1 b = false := by
  unfold p2 at h
  exact (Bool.or_eq_false_iff.1 h).2
theorem pos_at (p : UInt8 → Bool) (x : UInt8) (hx : p x = true) (B : List UInt8) : ∀ A : List UInt8, (∀ b ∈ A, p b = false) → pos p (A ++ x :: B) = A.length
  | [], _ => by rw [List.nil_append, pos, if_pos hx]; rfl
  | a :: A, h => by
    rw [List.cons_append, pos, if_neg (by rw [h a (by simp)]; decide), pos_at p x hx B A (fun b hb => h b (by simp [hb])), List.length_cons]
theorem pos_no (p : UInt8 → Bool) : ∀ A : List UInt8, (∀ b ∈ A, p b = false) → pos p A = A.length
  | [], _ => rfl
  | a :: A, h => by
    rw [pos, if_neg (by rw [h a (by simp)]; decide), pos_no p A (fun b hb => h b (by simp [hb])), List.length_cons]
theorem ext_of (s : ByteArray) (A B C : List UInt8) (h : s.data.toList = A ++ (B ++ C)) (i j : Nat) (hi : i = A.length) (hj : j = A.length + B.length) : s.extract i j = mkB B := by
  rw [extract_mkB, h, hi, hj, List.drop_left, Nat.add_sub_cancel_left, List.take_left]
theorem data_app (a b : ByteArray) : (a ++ b).data.toList = a.data.toList ++ b.data.toList := by rw [ByteArray.data_append, Array.toList_append]
theorem nil_e0 {t : ByteArray} (h : t.toList = ([] : List UInt8)) : t = e0 := by
  have h1 : t.data.toList = [] := by rw [← toL]; exact h
  rw [← mkB_data t, h1]; rfl
theorem refOk_parts {r t d : ByteArray} (h : refOk r t d = true) : repoOk r = true ∧ (t.toList = ([] : List UInt8) ∨ tagOk t = true) ∧ (d.toList = ([] : List UInt8) ∨ digestOk d = true) := by
  unfold refOk at h
  simp only [Bool.and_eq_true, Bool.or_eq_true, beq_iff_eq] at h
  exact h
theorem read_text (r t d : ByteArray) (h : refOk r t d = true) : readRef (refText r t d) = (r, t, d, 0) := by
  obtain ⟨hr, ht, hd⟩ := refOk_parts h
  clear h
  have hR := repo_none hr
  have hR1 : ∀ b ∈ r.data.toList, p1 b = false := fun b hb => p12 (hR b hb)
  unfold readRef
  by_cases h1 : t.toList = ([] : List UInt8)
  · obtain rfl := nil_e0 h1
    by_cases h2 : d.toList = ([] : List UInt8)
    · obtain rfl := nil_e0 h2
      have e : refText r e0 e0 = r := by rw [refText, if_pos h1, if_pos h2]
      rw [e, pos_no p2 _ hR, pos_no p1 _ hR1, size_list, ByteArray.extract_zero_size, hr]
      simp only [Nat.lt_irrefl, if_false, if_true, decide_false, tailRef, Bool.false_eq_true]
    · have hdg := hd.resolve_left h2
      have e : refText r e0 d = r ++ ((⟨#[64]⟩ : ByteArray) ++ d) := by rw [refText, if_pos h1, if_neg h2]
      rw [e]
      generalize hs : r ++ ((⟨#[64]⟩ : ByteArray) ++ d) = s
      have hl : s.data.toList = r.data.toList ++ 64 :: d.data.toList := by rw [← hs, data_app, data_app]; rfl
      have hz : s.size = r.size + 1 + d.size := by rw [← size_list, hl, List.length_append, List.length_cons, size_list, size_list]; omega
      have a2 : pos p2 s.data.toList = r.size := by rw [hl, pos_at p2 64 rfl _ _ hR, size_list]
      have a1 : pos p1 s.data.toList = r.size := by rw [hl, pos_at p1 64 rfl _ _ hR1, size_list]
      have x1 : s.extract 0 r.size = r := by rw [ext_of s [] r.data.toList (64 :: d.data.toList) (by rw [hl]; rfl) 0 r.size rfl (by rw [size_list]; simp), mkB_data]
      have x3 : s.extract (r.size + 1) s.size = d := by rw [ext_of s (r.data.toList ++ [64]) d.data.toList [] (by rw [hl]; simp) (r.size + 1) s.size (by simp [size_list]) (by simp [size_list, hz]), mkB_data]
      rw [a2, a1, x1, x3, hr, decide_eq_true (show r.size < s.size by omega)]
      simp only [Nat.lt_irrefl, if_false, if_true, tailRef, hdg]
  · have htg := ht.resolve_left h1
    obtain ⟨hT, hT1⟩ := tag_none htg
    by_cases h2 : d.toList = ([] : List UInt8)
    · obtain rfl := nil_e0 h2
      have e : refText r t e0 = r ++ ((⟨#[58]⟩ : ByteArray) ++ t) := by rw [refText, if_neg h1, if_pos h2]
      rw [e]
      generalize hs : r ++ ((⟨#[58]⟩ : ByteArray) ++ t) = s
      have hl : s.data.toList = r.data.toList ++ 58 :: t.data.toList := by rw [← hs, data_app, data_app]; rfl
      have hz : s.size = r.size + 1 + t.size := by rw [← size_list, hl, List.length_append, List.length_cons, size_list, size_list]; omega
      have a2 : pos p2 s.data.toList = r.size := by rw [hl, pos_at p2 58 rfl _ _ hR, size_list]
      have a1 : pos p1 s.data.toList = s.size := by
        rw [pos_no p1 _ (fun b hb => ?_), size_list]
        rw [hl] at hb
        rcases List.mem_append.1 hb with hb | hb
        · exact hR1 b hb
        · rcases List.mem_cons.1 hb with rfl | hb
          · rfl
          · exact hT b hb
      have x1 : s.extract 0 r.size = r := by rw [ext_of s [] r.data.toList (58 :: t.data.toList) (by rw [hl]; rfl) 0 r.size rfl (by rw [size_list]; simp), mkB_data]
      have x3 : s.extract (r.size + 1) s.size = t := by rw [ext_of s (r.data.toList ++ [58]) t.data.toList [] (by rw [hl]; simp) (r.size + 1) s.size (by simp [size_list]) (by simp [size_list, hz]), mkB_data]
      rw [a2, a1, x1, x3, hr, htg, decide_eq_false (show ¬ s.size < s.size by omega)]
      simp only [if_pos (show r.size < s.size by omega), if_true, tailRef, Bool.false_eq_true, if_false]
    · have hdg := hd.resolve_left h2
      have e : refText r t d = (r ++ ((⟨#[58]⟩ : ByteArray) ++ t)) ++ ((⟨#[64]⟩ : ByteArray) ++ d) := by rw [refText, if_neg h1, if_neg h2]
      rw [e]
      generalize hs : (r ++ ((⟨#[58]⟩ : ByteArray) ++ t)) ++ ((⟨#[64]⟩ : ByteArray) ++ d) = s
      have hl : s.data.toList = (r.data.toList ++ 58 :: t.data.toList) ++ 64 :: d.data.toList := by rw [← hs, data_app, data_app, data_app, data_app]; rfl
      have hz : s.size = r.size + 1 + t.size + 1 + d.size := by rw [← size_list, hl, List.length_append, List.length_append, List.length_cons, List.length_cons, size_list, size_list, size_list]; omega
      have a2 : pos p2 s.data.toList = r.size := by rw [hl, List.append_assoc, List.cons_append, pos_at p2 58 rfl _ _ hR, size_list]
      have a1 : pos p1 s.data.toList = r.size + 1 + t.size := by
        rw [hl, pos_at p1 64 rfl _ _ (fun b hb => ?_), List.length_append, List.length_cons, size_list, size_list]
        · omega
        · rcases List.mem_append.1 hb with hb | hb
          · exact hR1 b hb
          · rcases List.mem_cons.1 hb with rfl | hb
            · rfl
            · exact hT b hb
      have x1 : s.extract 0 r.size = r := by rw [ext_of s [] r.data.toList (58 :: t.data.toList ++ 64 :: d.data.toList) (by rw [hl]; simp) 0 r.size rfl (by rw [size_list]; simp), mkB_data]
      have x2 : s.extract (r.size + 1) (r.size + 1 + t.size) = t := by rw [ext_of s (r.data.toList ++ [58]) t.data.toList (64 :: d.data.toList) (by rw [hl]; simp) (r.size + 1) (r.size + 1 + t.size) (by simp [size_list]) (by simp [size_list]), mkB_data]
      have x3 : s.extract (r.size + 1 + t.size + 1) s.size = d := by rw [ext_of s (r.data.toList ++ 58 :: t.data.toList ++ [64]) d.data.toList [] (by rw [hl]; simp) (r.size + 1 + t.size + 1) s.size (by simp [size_list]; omega) (by simp [size_list, hz]; omega), mkB_data]
      rw [a2, a1, x1, x2, x3, hr, htg, decide_eq_true (show r.size + 1 + t.size < s.size by omega)]
      simp only [if_pos (show r.size < r.size + 1 + t.size by omega), if_true, tailRef, hdg]
theorem cut_mid (s : ByteArray) (i j : Nat) (x : UInt8) (h : i ≤ j) (hj : j < s.size) (hx : s.data.toList[j]'(by rw [size_list]; exact hj) = x) : s.extract i s.size = s.extract i j ++ ((⟨#[x]⟩ : ByteArray) ++ s.extract (j + 1) s.size) := by
  have hl : (s.extract i s.size).data.toList = (s.extract i j ++ ((⟨#[x]⟩ : ByteArray) ++ s.extract (j + 1) s.size)).data.toList := by
    rw [data_app, data_app, extract_data, extract_data, extract_data]
    have hjl : j < s.data.toList.length := by rw [size_list]; exact hj
    rw [List.take_of_length_le (by rw [List.length_drop, size_list]; omega), List.take_of_length_le (l := s.data.toList.drop (j + 1)) (by rw [List.length_drop, size_list]; omega)]
    have hd := List.drop_eq_getElem_cons hjl
    rw [hx] at hd
    show _ = _ ++ (x :: s.data.toList.drop (j + 1))
    rw [← hd]
    have h1 := List.take_append_drop (j - i) (s.data.toList.drop i)
    rw [List.drop_drop, show i + (j - i) = j from by omega] at h1
    exact h1.symm
  rw [← mkB_data (s.extract i s.size), hl, mkB_data]
theorem pos1_at (s : ByteArray) (h : pos p1 s.data.toList < s.size) : s.data.toList[pos p1 s.data.toList]'(by rw [size_list]; exact h) = 64 := by
  have := pos_hit p1 s.data.toList (by rw [size_list]; exact h)
  unfold p1 at this
  exact beq_iff_eq.1 this
theorem tail_back (s : ByteArray) (r t : ByteArray) (hr : repoOk r = true) (ht : t.toList = ([] : List UInt8) ∨ tagOk t = true) (hs : s = (if t.toList = ([] : List UInt8) then r else r ++ ((⟨#[58]⟩ : ByteArray) ++ t)) ++ (s.extract (pos p1 s.data.toList) s.size)) (hrz : r.size ≤ s.size) (htz : t.size ≤ s.size) :
    ((tailRef r t (s.extract (pos p1 s.data.toList + 1) s.size) (decide (pos p1 s.data.toList < s.size))).2.2.2 = 0 → writeRef (tailRef r t (s.extract (pos p1 s.data.toList + 1) s.size) (decide (pos p1 s.data.toList < s.size))).1 (tailRef r t (s.extract (pos p1 s.data.toList + 1) s.size) (decide (pos p1 s.data.toList < s.size))).2.1 (tailRef r t (s.extract (pos p1 s.data.toList + 1) s.size) (decide (pos p1 s.data.toList < s.size))).2.2.1 = s)
    ∧ ((tailRef r t (s.extract (pos p1 s.data.toList + 1) s.size) (decide (pos p1 s.data.toList < s.size))).2.2.2 ≠ 0 → tailRef r t (s.extract (pos p1 s.data.toList + 1) s.size) (decide (pos p1 s.data.toList < s.size)) = (e0, e0, e0, 3)) := by
  by_cases hb : pos p1 s.data.toList < s.size
  · have h64 := cut_mid s _ _ 64 (Nat.le_refl _) hb (pos1_at s hb)
    rw [decide_eq_true hb, tailRef, if_pos rfl]
    cases hd : digestOk (s.extract (pos p1 s.data.toList + 1) s.size) with
    | false => simp only [Bool.false_eq_true, if_false]; exact ⟨fun h => absurd h (by decide), fun _ => trivial⟩
    | true =>
      simp only [if_true]
      refine ⟨fun _ => ?_, fun h => absurd rfl h⟩
      have hn : ¬ (s.extract (pos p1 s.data.toList + 1) s.size).toList = ([] : List UInt8) := by rw [nil_iff, digestOk_size hd]; decide
      have hok : refOk r t (s.extract (pos p1 s.data.toList + 1) s.size) = true := by
        unfold refOk
        rw [hr, hd, Bool.or_true, Bool.and_true, Bool.true_and]
        rcases ht with ht | ht
        · rw [beq_iff_eq.2 ht]; rfl
        · rw [ht, Bool.or_true]
      rw [writeRef, if_pos hok, refText]
      have hz : (s.extract (pos p1 s.data.toList) (pos p1 s.data.toList)) = e0 := by
        refine nil_e0 ?_
        rw [nil_iff, ByteArray.size_extract]; omega
      rw [hz] at h64
      have h65 : s.extract (pos p1 s.data.toList) s.size = (⟨#[64]⟩ : ByteArray) ++ s.extract (pos p1 s.data.toList + 1) s.size := by
        rw [h64]; exact ByteArray.empty_append
      rw [h65] at hs
      by_cases h1 : t.toList = ([] : List UInt8)
      · rw [if_pos h1, if_neg hn]; rw [if_pos h1] at hs; exact hs.symm
      · rw [if_neg h1, if_neg hn]; rw [if_neg h1] at hs; exact hs.symm
  · rw [decide_eq_false hb, tailRef, if_neg (by decide)]
    refine ⟨fun _ => ?_, fun h => absurd rfl h⟩
    have hok : refOk r t e0 = true := by
      unfold refOk
      rw [hr, show (e0.toList == ([] : List UInt8)) = true from by rw [toL]; rfl, Bool.true_or, Bool.and_true, Bool.true_and]
      rcases ht with ht | ht
      · rw [beq_iff_eq.2 ht]; rfl
      · rw [ht, Bool.or_true]
    have hz : s.extract (pos p1 s.data.toList) s.size = e0 := by
      refine nil_e0 ?_
      rw [nil_iff, ByteArray.size_extract]; omega
    rw [hz] at hs
    have he : e0.toList = ([] : List UInt8) := by rw [toL]; rfl
    rw [writeRef, if_pos hok, refText]
    have hx : ∀ x : ByteArray, x ++ e0 = x := fun x => ByteArray.append_empty
    rw [hx] at hs
    by_cases h1 : t.toList = ([] : List UInt8)
    · rw [if_pos h1, if_pos he]; rw [if_pos h1] at hs; exact hs.symm
    · rw [if_neg h1, if_pos he]; rw [if_neg h1] at hs; exact hs.symm
theorem read_back (s : ByteArray) : ((readRef s).2.2.2 = 0 → writeRef (readRef s).1 (readRef s).2.1 (readRef s).2.2.1 = s) ∧ ((readRef s).2.2.2 ≠ 0 → (readRef s).1 = e0 ∧ (readRef s).2.1 = e0 ∧ (readRef s).2.2.1 = e0) := by
  obtain ⟨h1, h2, h3, h4⟩ := posF s
  clear h3
  have hz : ∀ i j, (s.extract i j).size ≤ s.size := fun i j => by rw [ByteArray.size_extract]; omega
  unfold readRef
  cases hr : repoOk (s.extract 0 (pos p2 s.data.toList)) with
  | false => simp only [Bool.false_eq_true, if_false]; exact ⟨fun h => absurd h (by decide), fun _ => by first | exact ⟨rfl, rfl, rfl⟩ | exact ⟨trivial, trivial, trivial⟩ | trivial⟩
  | true =>
    simp only [if_true]
    by_cases hc : pos p2 s.data.toList < pos p1 s.data.toList
    · simp only [if_pos hc]
      have ha : pos p2 s.data.toList < s.size := by omega
      have h58 := (h4 ha).2 hc
      rw [bt_byte s _ ha] at h58
      have h58 := (byte_eq _ 58).1 h58
      cases ht : tagOk (s.extract (pos p2 s.data.toList + 1) (pos p1 s.data.toList)) with
      | false => simp only [Bool.false_eq_true, if_false]; exact ⟨fun h => absurd h (by decide), fun _ => by first | exact ⟨rfl, rfl, rfl⟩ | exact ⟨trivial, trivial, trivial⟩ | trivial⟩
      | true =>
        simp only [if_true]
        have hn : ¬ (s.extract (pos p2 s.data.toList + 1) (pos p1 s.data.toList)).toList = ([] : List UInt8) := by
          rw [nil_iff]; have := (tag_none ht).2; omega
        have hs := cut_mid s 0 _ 58 (Nat.zero_le _) ha h58
        rw [ByteArray.extract_zero_size] at hs
        have hm : s.extract (pos p2 s.data.toList + 1) s.size = s.extract (pos p2 s.data.toList + 1) (pos p1 s.data.toList) ++ s.extract (pos p1 s.data.toList) s.size := by
          rw [ByteArray.extract_append_extract]; congr 1 <;> omega
        have hb := tail_back s _ _ hr (.inr ht) (by rw [if_neg hn, ByteArray.append_assoc, ByteArray.append_assoc, ← hm]; exact hs) (hz _ _) (hz _ _)
        exact ⟨hb.1, fun h => by rw [hb.2 h]; exact ⟨rfl, rfl, rfl⟩⟩
    · simp only [if_neg hc]
      have hab : pos p2 s.data.toList = pos p1 s.data.toList := by omega
      have hb := tail_back s _ e0 hr (.inl (by rw [toL]; rfl)) (by rw [if_pos (by rw [toL]; rfl), hab, ByteArray.extract_append_extract, show min 0 (pos p1 s.data.toList) = 0 from Nat.zero_min _, show max (pos p1 s.data.toList) s.size = s.size from by omega, ByteArray.extract_zero_size]) (hz _ _) (Nat.zero_le _)
      exact ⟨hb.1, fun h => by rw [hb.2 h]; exact ⟨rfl, rfl, rfl⟩⟩
theorem writeRef_size (r t d : ByteArray) : (writeRef r t d).size ≤ r.size + t.size + d.size + 2 := by
  have e1 : (⟨#[58]⟩ : ByteArray).size = 1 := rfl
  have e2 : (⟨#[64]⟩ : ByteArray).size = 1 := rfl
  unfold writeRef
  split
  · unfold refText
    split <;> split <;> (try simp only [ByteArray.size_append, e1, e2]) <;> omega
  · exact Nat.zero_le _
theorem tailRef_size (r t d : ByteArray) (f : Bool) (n : Nat) (hr : r.size ≤ n) (ht : t.size ≤ n) (hd : d.size ≤ n) : (tailRef r t d f).1.size ≤ n ∧ (tailRef r t d f).2.1.size ≤ n ∧ (tailRef r t d f).2.2.1.size ≤ n := by
  unfold tailRef
  split
  · split
    · exact ⟨hr, ht, hd⟩
    · exact ⟨Nat.zero_le _, Nat.zero_le _, Nat.zero_le _⟩
  · exact ⟨hr, ht, Nat.zero_le _⟩
theorem readRef_size (s : ByteArray) : (readRef s).1.size ≤ s.size ∧ (readRef s).2.1.size ≤ s.size ∧ (readRef s).2.2.1.size ≤ s.size := by
  have hz : ∀ i j, (s.extract i j).size ≤ s.size := fun i j => by rw [ByteArray.size_extract]; omega
  unfold readRef
  split
  · split
    · split
      · exact tailRef_size _ _ _ _ _ (hz _ _) (hz _ _) (hz _ _)
      · exact ⟨Nat.zero_le _, Nat.zero_le _, Nat.zero_le _⟩
    · exact tailRef_size _ _ _ _ _ (hz _ _) (Nat.zero_le _) (hz _ _)
  · exact ⟨Nat.zero_le _, Nat.zero_le _, Nat.zero_le _⟩
theorem spec_rot (x n : Int) (h0 : 0 ≤ x) (h1 : x < 4294967296) : spec_Rotate.f x n = some (rotr x (n % 32).toNat) := by
  have ht := Int.tmod_lt_of_pos n (show (0 : Int) < 32 by decide)
  have ht2 : -32 < Int.tmod n 32 := by have := Int.lt_tmod_of_pos n (show (0 : Int) < 32 by decide); omega
  have hm : (Int.tmod n 32) % 32 = n % 32 := by have := Int.tmod_add_mul_tdiv n 32; omega
  have hk : IntKind.u64.wrap (Int.tmod (wrap64 ((Int.tmod n 32) + 32)) 32) = n % 32 := by
    have e1 : wrap64 ((Int.tmod n 32) + 32) = (Int.tmod n 32) + 32 := by unfold wrap64; omega
    rw [e1, Int.tmod_eq_emod_of_nonneg (by omega), IntKind.wrap_u64]; omega
  have hk2 : IntKind.u64.wrap (32 - n % 32) = 32 - n % 32 := by rw [IntKind.wrap_u64]; omega
  unfold spec_Rotate.f
  rw [hk, if_pos (by omega), hk2, if_pos (by omega)]
  have e2 : (32 - n % 32).toNat = 32 - (n % 32).toNat := by omega
  unfold shr shl
  rw [show min (n % 32).toNat IntKind.u32.bits = (n % 32).toNat by simp [IntKind.bits]; omega, show min (32 - n % 32).toNat IntKind.u32.bits = (32 - n % 32).toNat by simp [IntKind.bits]; omega, e2, bits_or_comm, or_rotr x _ h0 h1 (by omega)]
theorem spec_rot1 (x : Int) (hx : 0 ≤ x ∧ x < 4294967296) (n : Int) (m : Nat) (hm : (n % 32).toNat = m) : spec_Rotate.f x n = some (rotr x m) := by rw [spec_rot x n hx.1 hx.2, hm]
theorem spec_words (h K b : List Int) (hb : b.length = 64) {r : List Int} (hend : Ev (fun k => spec_l1Block.l0 k h K b (wordsM b 64) 64) r) : Ev (fun k => spec_l1Block.l0 k h K b (List.replicate 64 0) 0) r := by
  refine fold_loop (n := 64) (F := fun k w i => spec_l1Block.l0 k h K b w i) (st := fun i => wordsM b i) (fun t ht hr => ?_) hend
  obtain ⟨hl, hR⟩ := wordsM_ok b t
  rw [wordsM_succ] at hr
  refine Ev.step (fun k => ?_) hr
  simp only [spec_l1Block.l0]
  rw [if_pos (by omega), wrap_nat t (by omega)]
  unfold stepW
  generalize wordsM b t = w at hl hR
  by_cases h16 : t < 16
  · have e0 : wrap64 (4 * (t : Int)) = ((4 * t : Nat) : Int) := by unfold wrap64; omega
    have e1 : wrap64 (((4 * t : Nat) : Int) + 1) = ((4 * t + 1 : Nat) : Int) := by unfold wrap64; omega
    have e2 : wrap64 (((4 * t : Nat) : Int) + 2) = ((4 * t + 2 : Nat) : Int) := by unfold wrap64; omega
    have e3 : wrap64 (((4 * t : Nat) : Int) + 3) = ((4 * t + 3 : Nat) : Int) := by unfold wrap64; omega
    rw [if_pos (by omega), e0, e1, e2, e3]
    repeat rw [if_pos (by omega)]
    rw [Int.toNat_natCast]; rfl
  · have e15 : wrap64 ((t : Int) - 15) = ((t - 15 : Nat) : Int) := by unfold wrap64; omega
    have e2 : wrap64 ((t : Int) - 2) = ((t - 2 : Nat) : Int) := by unfold wrap64; omega
    have e7 : wrap64 ((t : Int) - 7) = ((t - 7 : Nat) : Int) := by unfold wrap64; omega
    have e16 : wrap64 ((t : Int) - 16) = ((t - 16 : Nat) : Int) := by unfold wrap64; omega
    rw [if_neg (by omega), e15, e2, e7, e16]
    rw [if_pos (by omega), if_pos (by omega), if_pos (by omega), if_pos (by omega), spec_rot1 _ (hR.at _) 7 7 rfl, bindS, spec_rot1 _ (hR.at _) 18 18 rfl, bindS, spec_rot1 _ (hR.at _) 17 17 rfl, bindS, spec_rot1 _ (hR.at _) 19 19 rfl, bindS]
    rw [if_pos (by omega), if_pos (by omega), if_pos (by omega), if_pos (by omega), if_pos (by omega), if_pos (by omega), Int.toNat_natCast, if_neg h16]
    congr 2
    simp only [nextW, sml0, sml1]
    omega
theorem spec_rounds (h K b W : List Int) (hK : K.length = 64) (hW : W.length = 64) (hl : h.length = 8) (hr : R32 h) {r : List Int} (hend : Ev (fun k => spec_l1Block.l1 k h K W (roundsM K W h 64) 64) r) : Ev (fun k => spec_l1Block.l1 k h K W h 0) r := by
  refine fold_loop (n := 64) (F := fun k v i => spec_l1Block.l1 k h K W v i) (st := fun i => roundsM K W h i) (fun t ht hr' => ?_) hend
  obtain ⟨hvl, hR⟩ := roundsM_ok K W h hl hr t
  rw [roundsM_succ] at hr'
  refine Ev.step (fun k => ?_) hr'
  simp only [spec_l1Block.l1]
  generalize roundsM K W h t = v at hvl hR
  rw [if_pos (by omega), if_pos (by omega), if_pos (by omega), if_pos (by omega), spec_rot1 _ (hR.at _) 6 6 rfl, bindS, spec_rot1 _ (hR.at _) 11 11 rfl, bindS, spec_rot1 _ (hR.at _) 25 25 rfl, bindS]
  rw [if_pos (by omega), if_pos (by omega), if_pos (by omega), if_pos (by omega), if_pos (by omega), spec_rot1 _ (hR.at _) 2 2 rfl, bindS, spec_rot1 _ (hR.at _) 13 13 rfl, bindS, spec_rot1 _ (hR.at _) 22 22 rfl, bindS]
  rw [if_pos (by omega), if_pos (by omega), if_pos (by omega), wrap_nat t (by omega)]
  congr 1
  simp only [roundM, oneM, twoM, big0, big1, ch, maj]
  congr 1
  · omega
  · congr 4
    omega
theorem spec_add (h v : List Int) (hl : h.length = 8) (hvl : v.length = 8) : Ev (fun k => spec_l1Block.l2 k h v [] 0) (addM h v 8) := by
  refine fold_loop (n := 8) (F := fun k a i => spec_l1Block.l2 k h v a i) (st := fun i => addM h v i) (fun i hi hr => ?_) (Ev.step (f := fun _ => some (addM h v 8)) (fun k => ?_) (Ev.now _))
  · rw [addM_succ] at hr
    refine Ev.step (fun k => ?_) hr
    have := addM_len h v i
    simp only [spec_l1Block.l2]
    rw [if_pos (by omega), if_pos (by omega), if_pos (by omega), if_pos (by omega), if_pos (by omega), wrap_nat i (by omega)]
  · simp only [spec_l1Block.l2]; rw [if_neg (by omega)]
theorem spec_block (h K b : List Int) (hK : K.length = 64) (hb : b.length = 64) (hl : h.length = 8) (hr : R32 h) : Ev (fun k => spec_l1Block.f k h K b) (blockM h K b) := by
  unfold spec_l1Block.f blockM
  simp only [show (64 : Nat) ≤ 70368744177664 by omega, if_true]
  obtain ⟨hwl, _⟩ := wordsM_ok b 64
  refine spec_words h K b hb ?_
  generalize wordsM b 64 = W at hwl
  refine Ev.step (f := fun k => spec_l1Block.l1 k h K W h 0) (fun k => ?_) ?_
  · simp only [spec_l1Block.l0]
    rw [if_neg (by omega), bindS, if_pos (by simp; omega), List.nil_append]
  · refine spec_rounds h K b W hK hwl hl hr ?_
    obtain ⟨hvl, _⟩ := roundsM_ok K W h hl hr 64
    refine Ev.step (f := fun k => spec_l1Block.l2 k h (roundsM K W h 64) [] 0) (fun k => ?_) (spec_add h _ hl hvl)
    simp only [spec_l1Block.l1]
    rw [if_neg (by omega)]
theorem spec_runs (s : ByteArray) (p : List Int) (n : Nat) (hp : p.length = 64 * n) (hn : n ≤ 4611686018427387904 / 64) : Ev (fun k => spec_Sum.l2 k p kM hM 0) (runM p n) := by
  have key : ∀ d i : Nat, i + d = n → Ev (fun k => spec_Sum.l2 k p kM (runM p i) ((64 * i : Nat) : Int)) (runM p n) := by
    intro d
    induction d with
    | zero =>
      intro i hi
      obtain rfl : i = n := by omega
      refine Ev.step (f := fun _ => some (runM p i)) (fun k => ?_) (Ev.now _)
      simp only [spec_Sum.l2]; rw [if_neg (by omega)]
    | succ d ih =>
      intro i hi
      obtain ⟨hl, hr⟩ := runM_ok p i
      have hw : wrap64 (((64 * i : Nat) : Int) + 64) = ((64 * (i + 1) : Nat) : Int) := by unfold wrap64; omega
      have hbl : ((p.drop (64 * i)).take 64).length = 64 := by rw [List.length_take, List.length_drop]; omega
      have hcut : (p.take (64 * (i + 1))).drop (64 * i) = (p.drop (64 * i)).take 64 := by
        rw [List.drop_take]; congr 1; omega
      refine Ev.step (f := fun k => (spec_l1Block.f k (runM p i) kM ((p.drop (64 * i)).take 64)).bind fun t => spec_Sum.l2 k p kM t ((64 * (i + 1) : Nat) : Int)) (fun k => ?_) (Ev.bind (spec_block _ kM _ rfl hbl hl hr) ?_)
      · simp only [spec_Sum.l2]
        rw [if_pos (by omega), if_pos (by omega), hw, if_pos (by omega), if_pos (by omega), Int.toNat_natCast, Int.toNat_natCast, hcut]
      · rw [← runM_succ]; exact ih (i + 1) (by omega)
  exact key n 0 (by omega)
theorem spec_lens (s : ByteArray) (p0 : List Int) (n : Int) (hp : p0.length ≤ 4611686018427387904 / 64) {r : List Int} (hl : p0.length < 140737488355320) (hend : Ev (fun k => spec_Sum.l2 k (p0 ++ lenM n 8) kM hM 0) r) : Ev (fun k => spec_Sum.l1 k p0 n 7) r := by
  have key : ∀ d i : Nat, i + d = 8 → Ev (fun k => spec_Sum.l1 k (p0 ++ lenM n i) n (7 - (i : Int))) r := by
    intro d
    induction d with
    | zero =>
      intro i hi
      obtain rfl : i = 8 := by omega
      refine Ev.step (f := fun k => spec_Sum.l2 k (p0 ++ lenM n 8) kM hM 0) (fun k => ?_) hend
      simp only [spec_Sum.l1]
      rw [if_neg (by omega)]
      unfold spec_l1K.f
      rw [bindS]; rfl
    | succ d ih =>
      intro i hi
      have hi8 : i ≤ 7 := by omega
      have e7 : (7 - (i : Int)) = ((7 - i : Nat) : Int) := by omega
      have hw : wrap64 ((7 - (i : Int)) - 1) = 7 - ((i + 1 : Nat) : Int) := by unfold wrap64; omega
      have hnn : (0 : Int) ≤ IntKind.u64.wrap (wrap64 (8 * (7 - (i : Int)))) := by rw [IntKind.wrap_u64]; omega
      refine Ev.step (fun k => ?_) (ih (i + 1) (by omega))
      simp only [spec_Sum.l1]
      rw [if_pos (by omega), if_pos hnn, if_pos (by rw [List.length_append, lenM_len]; omega), hw, List.append_assoc]
      rw [lenM, ← e7]
  have := key 8 0 (by omega)
  simpa [lenM] using this
theorem spec_sum (s : ByteArray) (hs : s.size ≤ 70368744177664) : Ev (fun k => spec_Sum.f k s) (sumM s) := by
  unfold spec_Sum.f
  have hbl := bytesOf_length s
  simp only [if_pos (show (s.size : Int) ≤ 140737488351232 by omega)]
  refine Ev.bind (Ev.now _) ?_
  simp only [if_pos (show (bytesOf s).length < 140737488355328 by omega)]
  have key : ∀ d i : Nat, i + d = zerosM s.size → Ev (fun k => spec_Sum.l0 k s (bytesOf s ++ [128] ++ List.replicate i 0)) (sumM s) := by
    intro d
    induction d with
    | zero =>
      intro i hi
      obtain rfl : i = zerosM s.size := by omega
      have hz : zerosM s.size < 64 := by unfold zerosM; omega
      have h56 : ((bytesOf s ++ [128] ++ List.replicate (zerosM s.size) (0 : Int)).length : Int) % 64 = 56 := by
        simp only [List.length_append, List.length_replicate, List.length_singleton, hbl, zerosM]; omega
      have hlen : (bytesOf s ++ [128] ++ List.replicate (zerosM s.size) (0 : Int)).length = s.size + 1 + zerosM s.size := by simp [hbl]; omega
      refine Ev.step (f := fun k => spec_Sum.l1 k (bytesOf s ++ [128] ++ List.replicate (zerosM s.size) 0) (IntKind.u64.wrap ((IntKind.u64.wrap ((s.size : Int))) * 8)) 7) (fun k => ?_) ?_
      · simp only [spec_Sum.l0]; rw [if_pos h56]
      · refine spec_lens s _ _ (by omega) (by omega) ?_
        have hp := padM_len s
        unfold sumM
        exact spec_runs s (padM s) _ hp (by omega)
    | succ d ih =>
      intro i hi
      have hz : zerosM s.size < 64 := by unfold zerosM; omega
      have h56 : ¬ ((bytesOf s ++ [128] ++ List.replicate i (0 : Int)).length : Int) % 64 = 56 := by
        simp only [List.length_append, List.length_replicate, List.length_singleton, hbl]
        unfold zerosM at hi hz
        omega
      refine Ev.step (fun k => ?_) (ih (i + 1) (by omega))
      simp only [spec_Sum.l0]
      rw [if_neg h56, if_pos (by simp [hbl]; omega), List.append_assoc _ (List.replicate i 0), ← List.replicate_succ']
  have := key (zerosM s.size) 0 (by omega)
  simpa using this
theorem spec_hex (n : Int) (hn : 0 ≤ n ∧ n < 4294967296) : Ev (fun k => spec_l1Hex.f k n) (hexM n) := by
  unfold spec_l1Hex.f
  have key : ∀ d i : Nat, i + d = 8 → Ev (fun k => spec_l1Hex.l0 k n (hexL n i) (7 - (i : Int))) (hexM n) := by
    intro d
    induction d with
    | zero =>
      intro i hi
      obtain rfl : i = 8 := by omega
      exact Ev.step (f := fun _ => some (hexM n)) (fun k => by simp only [spec_l1Hex.l0]; rw [if_neg (by omega)]; rfl) (Ev.now _)
    | succ d ih =>
      intro i hi
      have e7 : (7 - (i : Int)) = ((7 - i : Nat) : Int) := by omega
      have hw : wrap64 ((7 - (i : Int)) - 1) = 7 - ((i + 1 : Nat) : Int) := by unfold wrap64; omega
      have hnn : (0 : Int) ≤ IntKind.u64.wrap (wrap64 (4 * (7 - (i : Int)))) := by rw [IntKind.wrap_u64]; omega
      have hr := nib_range n i hn
      have hnib : Go.bits .and .u32 (shr .u32 n (IntKind.u64.wrap (wrap64 (4 * (7 - (i : Int)))))) 15 = nibM n i := by rw [nibM, e7]
      refine Ev.step (fun k => ?_) (ih (i + 1) (by omega))
      simp only [spec_l1Hex.l0]
      rw [if_pos (by omega), if_pos hnn, hnib, if_pos hr.1, if_pos hr.2, if_pos (by rw [hexL_len]; omega), hw, hexL_succ]
      rfl
  exact key 8 0 (by omega)
theorem spec_digest (s : ByteArray) (hs : s.size ≤ 70368744177664) : Ev (fun k => spec_Digest.f k s) (digestM s) := by
  unfold spec_Digest.f
  refine Ev.bind (spec_sum s hs) ?_
  obtain ⟨hl, hr⟩ := sumM_ok s
  unfold digestM
  generalize sumM s = h at hl hr
  refine fold_loop (n := 8) (F := fun k t i => spec_Digest.l0 k h t i) (st := fun i => digL h i) (fun i hi hh => ?_) (Ev.step (f := fun _ => some (digL h 8)) (fun k => ?_) (Ev.now _))
  · refine Ev.step (f := fun k => (spec_l1Hex.f k (rd h (i : Int))).bind fun t => if (digL h i).size + t.size ≤ 9223372036854775807 then spec_Digest.l0 k h (digL h i ++ t) ((i + 1 : Nat) : Int) else none) (fun k => ?_) (Ev.bind (spec_hex _ (hr.at _)) ?_)
    · simp only [spec_Digest.l0]
      rw [if_pos (by omega), if_pos (by omega), if_pos (by omega), wrap_nat i (by omega)]
    · simp only [if_pos (show (digL h i).size + (hexM (rd h (i : Int))).size ≤ 9223372036854775807 by rw [digL_size, hexM_size]; omega)]
      exact hh
  · simp only [spec_Digest.l0]; rw [if_neg (by omega)]
section
variable {l : List Int} (hb : ∀ x ∈ l, (Lit.int .u8 x).wf = true) (hm : l.length ≤ 140737488351232)
include hb in
theorem rd_u8 (i : Int) : 0 ≤ rd l i ∧ rd l i ≤ 255 := by
  unfold rd
  rw [List.getD_eq_getElem?_getD]
  by_cases h : i.toNat < l.length
  · rw [List.getElem?_eq_getElem h]; exact wf_u8 (hb _ (List.getElem_mem h))
  · rw [List.getElem?_eq_none (by omega)]; simp
include hb hm in
theorem next_ok (p : Int) (h0 : 0 ≤ p) (h1 : p ≤ l.length) : ∃ c q, spec_l1Rd_next.f l p = some (c, q) ∧ 0 ≤ c ∧ c ≤ 255 ∧ 0 ≤ q ∧ q ≤ l.length := by
  unfold spec_l1Rd_next.f
  by_cases h : p ≥ (l.length : Int)
  · exact ⟨0, p, by rw [if_pos h], by omega, by omega, h0, h1⟩
  · have e1 : wrap64 (p + 1) = p + 1 := by unfold wrap64; omega
    have e2 : wrap64 (p + 1 - 1) = p := by unfold wrap64; omega
    obtain ⟨r0, r1⟩ := rd_u8 hb p
    have e3 : wrap64 (rd l p) = rd l p := by unfold wrap64; omega
    exact ⟨rd l p, p + 1, by rw [if_neg h, e1, e2, if_pos h0, if_pos (by omega), e3], r0, r1, by omega, by omega⟩
include hb hm in
theorem below_ok (p n : Int) (h0 : 0 ≤ p) (h1 : p ≤ l.length) (n0 : 1 ≤ n) (n1 : n ≤ 1000000) : ∃ c q, spec_l1Rd_below.f l p n = some (c, q) ∧ 0 ≤ c ∧ c < n ∧ 0 ≤ q ∧ q ≤ l.length := by
  unfold spec_l1Rd_below.f
  by_cases h : n ≤ 1
  · exact ⟨0, p, by rw [if_pos h], by omega, by omega, h0, h1⟩
  · rw [if_neg h]
    obtain ⟨c, q, hc, c0, c1, q0, q1⟩ := next_ok hb hm p h0 h1
    by_cases h2 : n ≤ 256
    · refine ⟨c % n, q, ?_, Int.emod_nonneg _ (by omega), Int.emod_lt_of_pos _ (by omega), q0, q1⟩
      rw [if_pos h2, hc]; simp only [Option.bind_some]; rw [if_neg (by omega), Int.tmod_eq_emod_of_nonneg c0]
    · obtain ⟨d, q', hd, d0, d1, q0', q1'⟩ := next_ok hb hm q q0 q1
      have e : wrap64 (wrap64 (c * 256) + d) = c * 256 + d := by unfold wrap64; omega
      refine ⟨(c * 256 + d) % n, q', ?_, Int.emod_nonneg _ (by omega), Int.emod_lt_of_pos _ (by omega), q0', q1'⟩
      rw [if_neg h2, hc]; simp only [Option.bind_some]; rw [hd]; simp only [Option.bind_some]; rw [if_neg (by omega), e, Int.tmod_eq_emod_of_nonneg (by omega)]
include hb hm in
theorem once_ok (p n : Int) (h0 : 0 ≤ p) (h1 : p ≤ l.length) (n0 : 1 ≤ n) (n1 : n ≤ 1000000) : ∃ b q, spec_l1Rd_once.f l p n = some (b, q) ∧ 0 ≤ q ∧ q ≤ l.length := by
  unfold spec_l1Rd_once.f
  obtain ⟨c, q, hc, c0, c1, q0, q1⟩ := below_ok hb hm p n h0 h1 n0 n1
  exact ⟨_, q, by rw [hc]; rfl, q0, q1⟩
include hb hm in
theorem data_ok (p : Int) (h0 : 0 ≤ p) (h1 : p ≤ l.length) : ∃ (s : ByteArray) (q : Int), spec_l1Rd_data.f l p = some (s, q) ∧ s.size ≤ 6 ∧ 0 ≤ q ∧ q ≤ l.length := by
  unfold spec_l1Rd_data.f
  obtain ⟨c, q, hc, c0, c1, q0, q1⟩ := below_ok hb hm p 8 h0 h1 (by omega) (by omega)
  simp only [Option.bind_some, hc]
  rw [if_pos c0, if_pos (by simp only [List.length_cons, List.length_nil]; omega)]
  refine ⟨_, q, rfl, ?_, q0, q1⟩
  have : c = 0 ∨ c = 1 ∨ c = 2 ∨ c = 3 ∨ c = 4 ∨ c = 5 ∨ c = 6 ∨ c = 7 := by omega
  rcases this with rfl | rfl | rfl | rfl | rfl | rfl | rfl | rfl <;> decide
include hb hm in
theorem drawDig_ok (p : Int) (h0 : 0 ≤ p) (h1 : p ≤ l.length) : ∃ (s : ByteArray) (q : Int), Ev (fun k => spec_l1Rd_digest.f k l p) (s, q) ∧ s.size = 71 ∧ 0 ≤ q ∧ q ≤ l.length := by
  unfold spec_l1Rd_digest.f
  obtain ⟨s, q, hd, hs, q0, q1⟩ := data_ok hb hm p h0 h1
  refine ⟨digestM s, q, ?_, digestM_size s, q0, q1⟩
  rw [hd]
  simp only [bindS]
  exact Ev.bind (spec_digest s (by omega)) (Ev.now _)
include hb hm in
theorem oddDig_ok (p : Int) (h0 : 0 ≤ p) (h1 : p ≤ l.length) : ∃ (s : ByteArray) (q : Int), Ev (fun k => spec_l1Rd_oddDigest.f k l p) (s, q) ∧ s.size ≤ 100 ∧ 0 ≤ q ∧ q ≤ l.length := by
  unfold spec_l1Rd_oddDigest.f
  obtain ⟨D, q, hd, hs, q0, q1⟩ := drawDig_ok hb hm p h0 h1
  obtain ⟨c, q', hc, c0, c1, q0', q1'⟩ := below_ok hb hm q 16 q0 q1 (by omega) (by omega)
  by_cases z0 : c = 0
  · obtain ⟨e, q2, he, e0, e1, q20, q21⟩ := below_ok hb hm q' (D.size : Int) q0' q1' (by omega) (by omega)
    have hw : wrap64 (e + 1) = e + 1 := by unfold wrap64; omega
    have x1 : (D.extract 0 e.toNat).size ≤ 71 := by rw [ByteArray.size_extract]; omega
    have x2 : (D.extract (e + 1).toNat D.size).size ≤ 71 - (e + 1).toNat := by rw [ByteArray.size_extract]; omega
    have x1' : (D.extract 0 e.toNat).size ≤ e.toNat := by rw [ByteArray.size_extract]; omega
    refine ⟨(D.extract 0 e.toNat ++ (⟨#[103]⟩ : ByteArray)) ++ D.extract (e + 1).toNat D.size, q2, Ev.bind hd ?_, ?_, q20, q21⟩
    · simp only [hc, bindS, if_pos z0, he, if_pos e0, if_pos (show e ≤ (D.size : Int) by omega), if_pos (show (D.extract 0 e.toNat).size + 1 ≤ 9223372036854775807 by omega), hw, if_pos (show 0 ≤ e + 1 by omega), if_pos (show e + 1 ≤ (D.size : Int) by omega), if_pos (show (D.extract 0 e.toNat).size + 1 + (D.extract (e + 1).toNat D.size).size ≤ 9223372036854775807 by omega)]
      exact Ev.now _
    · rw [ByteArray.size_append, ByteArray.size_append, show (⟨#[103]⟩ : ByteArray).size = 1 from rfl]; omega
  · by_cases z1 : c = 1
    · obtain ⟨e, q2, he, e0, e1, q20, q21⟩ := below_ok hb hm q' (D.size : Int) q0' q1' (by omega) (by omega)
      refine ⟨D.extract 0 e.toNat, q2, Ev.bind hd ?_, by rw [ByteArray.size_extract]; omega, q20, q21⟩
      simp only [hc, bindS, if_neg z0, if_pos z1, he, if_pos e0, if_pos (show e ≤ (D.size : Int) by omega)]
      exact Ev.now _
    · by_cases z2 : c = 2
      · refine ⟨D ++ (⟨#[48]⟩ : ByteArray), q', Ev.bind hd ?_, by rw [ByteArray.size_append, show (⟨#[48]⟩ : ByteArray).size = 1 from rfl]; omega, q0', q1'⟩
        simp only [hc, bindS, if_neg z0, if_neg z1, if_pos z2, if_pos (show D.size + 1 ≤ 9223372036854775807 by omega)]
        exact Ev.now _
      · by_cases z3 : c = 3
        · have x6 : (D.extract 6 D.size).size = 65 := by rw [ByteArray.size_extract]; omega
          refine ⟨(⟨#[83, 72, 65, 50, 53, 54]⟩ : ByteArray) ++ D.extract 6 D.size, q', Ev.bind hd ?_, by rw [ByteArray.size_append, x6]; decide, q0', q1'⟩
          simp only [hc, bindS, if_neg z0, if_neg z1, if_neg z2, if_pos z3, if_pos (show (6 : Int) ≤ (D.size : Int) by omega), if_pos (show 6 + (D.extract 6 D.size).size ≤ 9223372036854775807 by omega)]
          exact Ev.now _
        · refine ⟨D, q', Ev.bind hd ?_, by omega, q0', q1'⟩
          simp only [hc, bindS, if_neg z0, if_neg z1, if_neg z2, if_neg z3]
          exact Ev.now _
include hb hm in
theorem repoD_ok (p : Int) (h0 : 0 ≤ p) (h1 : p ≤ l.length) : ∃ (s : ByteArray) (q : Int), spec_l1Rd_repo.f l p = some (s, q) ∧ s.size ≤ 100 ∧ 0 ≤ q ∧ q ≤ l.length := by
  unfold spec_l1Rd_repo.f
  obtain ⟨c, q, hc, c0, c1, q0, q1⟩ := below_ok hb hm p 6 h0 h1 (by omega) (by omega)
  simp only [Option.bind_some, hc]
  rw [if_pos c0, if_pos (by simp only [List.length_cons, List.length_nil]; omega)]
  refine ⟨_, q, rfl, ?_, q0, q1⟩
  have : c = 0 ∨ c = 1 ∨ c = 2 ∨ c = 3 ∨ c = 4 ∨ c = 5 := by omega
  rcases this with rfl | rfl | rfl | rfl | rfl | rfl <;> decide
include hb hm in
theorem tagD_ok (p : Int) (h0 : 0 ≤ p) (h1 : p ≤ l.length) : ∃ (s : ByteArray) (q : Int), spec_l1Rd_tag.f l p = some (s, q) ∧ s.size ≤ 100 ∧ 0 ≤ q ∧ q ≤ l.length := by
  unfold spec_l1Rd_tag.f
  obtain ⟨c, q, hc, c0, c1, q0, q1⟩ := below_ok hb hm p 6 h0 h1 (by omega) (by omega)
  simp only [Option.bind_some, hc]
  rw [if_pos c0, if_pos (by simp only [List.length_cons, List.length_nil]; omega)]
  refine ⟨_, q, rfl, ?_, q0, q1⟩
  have : c = 0 ∨ c = 1 ∨ c = 2 ∨ c = 3 ∨ c = 4 ∨ c = 5 := by omega
  rcases this with rfl | rfl | rfl | rfl | rfl | rfl <;> decide
include hb hm in
theorem refD_j0 (r t : ByteArray) (p : Int) (h0 : 0 ≤ p) (h1 : p ≤ l.length) : ∃ (d : ByteArray) (q : Int), Ev (fun k => spec_l1Rd_ref.j0 k l p r t (⟨#[]⟩ : ByteArray)) (r, t, d, q) ∧ d.size ≤ 100 ∧ 0 ≤ q ∧ q ≤ l.length := by
  obtain ⟨b, q, hc, q0, q1⟩ := once_ok hb hm p 2 h0 h1 (by omega) (by omega)
  cases b with
  | true =>
    obtain ⟨d, q2, hd, hz, q20, q21⟩ := drawDig_ok hb hm q q0 q1
    refine ⟨d, q2, Ev.step (f := fun k => (spec_l1Rd_digest.f k l q).bind fun bt309 => (some (r, t, bt309.1, bt309.2))) (fun k => ?_) (Ev.bind hd (Ev.now _)), by omega, q20, q21⟩
    simp only [spec_l1Rd_ref.j0, hc, bindS, if_true]
  | false =>
    refine ⟨⟨#[]⟩, q, Ev.step (f := fun _ => some (r, t, (⟨#[]⟩ : ByteArray), q)) (fun k => ?_) (Ev.now _), by decide, q0, q1⟩
    simp only [spec_l1Rd_ref.j0, hc, bindS, Bool.false_eq_true, if_false]
include hb hm in
theorem refD_ok (p : Int) (h0 : 0 ≤ p) (h1 : p ≤ l.length) : ∃ (r t d : ByteArray) (q : Int), Ev (fun k => spec_l1Rd_ref.f k l p) (r, t, d, q) ∧ r.size ≤ 100 ∧ t.size ≤ 100 ∧ d.size ≤ 100 ∧ 0 ≤ q ∧ q ≤ l.length := by
  unfold spec_l1Rd_ref.f
  obtain ⟨r, q, hr, hrz, q0, q1⟩ := repoD_ok hb hm p h0 h1
  obtain ⟨b, q2, hc, q20, q21⟩ := once_ok hb hm q 2 q0 q1 (by omega) (by omega)
  cases b with
  | true =>
    obtain ⟨t, q3, ht, htz, q30, q31⟩ := tagD_ok hb hm q2 q20 q21
    obtain ⟨d, q4, hd, hdz, q40, q41⟩ := refD_j0 hb hm r t q3 q30 q31
    refine ⟨r, t, d, q4, ?_, hrz, htz, hdz, q40, q41⟩
    simp only [hr, hc, ht, bindS, if_true]; exact hd
  | false =>
    obtain ⟨d, q4, hd, hdz, q40, q41⟩ := refD_j0 hb hm r (⟨#[]⟩ : ByteArray) q2 q20 q21
    refine ⟨r, ⟨#[]⟩, d, q4, ?_, hrz, by decide, hdz, q40, q41⟩
    simp only [hr, hc, bindS, Bool.false_eq_true, if_false]; exact hd
include hb hm in
theorem drawWrite_ok : ∃ (r t d : ByteArray), Ev (fun k => spec_DrawWriteRef.f k l) (r, t, d) ∧ r.size ≤ 100 ∧ t.size ≤ 100 ∧ d.size ≤ 100 := by
  unfold spec_DrawWriteRef.f spec_l1Open.f
  obtain ⟨r, t, d, q, he, hr, ht, hd, q0, q1⟩ := refD_ok hb hm 0 (by omega) (by omega)
  obtain ⟨c, q2, hc, c0, c1, q20, q21⟩ := below_ok hb hm q 16 q0 q1 (by omega) (by omega)
  simp only [bindS]
  by_cases z0 : c = 0
  · refine ⟨⟨#[]⟩, t, d, Ev.bind he ?_, by decide, ht, hd⟩
    simp only [hc, bindS, if_pos z0]; exact Ev.now _
  by_cases z1 : c = 1
  · refine ⟨r, ⟨#[46, 120]⟩, d, Ev.bind he ?_, hr, by decide, hd⟩
    simp only [hc, bindS, if_neg z0, if_pos z1]; exact Ev.now _
  by_cases z2 : c = 2
  · obtain ⟨e, q3, ho, hez, q30, q31⟩ := oddDig_ok hb hm q2 q20 q21
    refine ⟨r, t, e, Ev.bind he ?_, hr, ht, hez⟩
    simp only [hc, bindS, if_neg z0, if_neg z1, if_pos z2]
    exact Ev.bind ho (Ev.now _)
  · refine ⟨r, t, d, Ev.bind he ?_, hr, ht, hd⟩
    simp only [hc, bindS, if_neg z0, if_neg z1, if_neg z2]; exact Ev.now _
include hb hm in
theorem drawRead_ok : ∃ s : ByteArray, Ev (fun k => spec_DrawReadRef.f k l) s ∧ s.size ≤ 1000 := by
  unfold spec_DrawReadRef.f spec_l1Open.f
  obtain ⟨L, hL⟩ : ∃ L : List ByteArray, L = ([(⟨#[58]⟩ : ByteArray), (⟨#[64]⟩ : ByteArray), (⟨#[]⟩ : ByteArray), (⟨#[120]⟩ : ByteArray), (⟨#[47]⟩ : ByteArray), (⟨#[58, 118, 49, 64]⟩ : ByteArray)] : List ByteArray) := ⟨_, rfl⟩
  rw [← hL]
  obtain ⟨r, t, d, q, he, hr, ht, hd, q0, q1⟩ := refD_ok hb hm 0 (by omega) (by omega)
  have hw := spec_writeR r t d (by omega) (by omega) (by omega)
  have hz := writeRef_size r t d
  generalize writeRef r t d = s at hw hz
  obtain ⟨b, q2, hb2, q20, q21⟩ := once_ok hb hm q 2 q0 q1 (by omega) (by omega)
  simp only [bindS]
  cases b with
  | false =>
    refine ⟨s, Ev.bind he (Ev.bind hw ?_), by omega⟩
    simp only [hb2, bindS, Bool.false_eq_true, if_false]; exact Ev.now _
  | true =>
    have e1 : wrap64 ((s.size : Int) + 1) = (s.size : Int) + 1 := by unfold wrap64; omega
    obtain ⟨c, q3, hc, c0, c1, q30, q31⟩ := below_ok hb hm q2 ((s.size : Int) + 1) q20 q21 (by omega) (by omega)
    obtain ⟨e, q4, hee, e0, e1', q40, q41⟩ := below_ok hb hm q3 6 q30 q31 (by omega) (by omega)
    have hLl : (L.length : Int) = 6 := by rw [hL]; rfl
    have hx : (rdOf ByteArray.empty L e).size ≤ 4 := by
      rw [hL]
      have : e = 0 ∨ e = 1 ∨ e = 2 ∨ e = 3 ∨ e = 4 ∨ e = 5 := by omega
      rcases this with rfl | rfl | rfl | rfl | rfl | rfl <;> decide
    have x1 : (s.extract 0 c.toNat).size ≤ s.size := by rw [ByteArray.size_extract]; omega
    have x2 : (s.extract c.toNat s.size).size ≤ s.size := by rw [ByteArray.size_extract]; omega
    clear hL
    refine ⟨((s.extract 0 c.toNat) ++ (rdOf ByteArray.empty L e)) ++ (s.extract c.toNat s.size), Ev.bind he (Ev.bind hw ?_), by rw [ByteArray.size_append, ByteArray.size_append]; omega⟩
    simp only [hb2, bindS, if_true, e1, hc, if_pos c0, if_pos (show c ≤ (s.size : Int) by omega), hee, if_pos e0, if_pos (show e < (L.length : Int) by omega), if_pos (show (s.extract 0 c.toNat).size + (rdOf ByteArray.empty L e).size ≤ 9223372036854775807 by omega), if_pos (show (s.extract 0 c.toNat).size + (rdOf ByteArray.empty L e).size + (s.extract c.toNat s.size).size ≤ 9223372036854775807 by omega)]
    exact Ev.now _
end
end RefsOf
open RefsOf

theorem FnRefs : laws_FnRefs.Pure := by
  intro l0 l1 _ h02 h0b _ h12 h1b
  have h0m : l0.length ≤ 140737488351232 := by omega
  have h1m : l1.length ≤ 140737488351232 := by omega
  refine Ev.rounds (g := fun k => laws_FnRefs.f k l0 l1) ?_
  have hT : Ev (fun k => laws_FnRefs.j0 k l0 l1 true) true := Ev.step (f := fun _ => some true) (fun k => by simp only [laws_FnRefs.j0, if_true]) (Ev.now _)
  unfold laws_FnRefs.f laws_big.f
  simp only [bindS]
  by_cases g0 : (l0.length : Int) > 1048576
  · simp only [decide_eq_true g0, if_true]; exact hT
  simp only [decide_eq_false g0, Bool.false_eq_true, if_false]
  by_cases g1 : (l1.length : Int) > 1048576
  · simp only [decide_eq_true g1]; exact hT
  simp only [decide_eq_false g1]
  have second : Ev (fun k => laws_FnRefs.j1 k l1) true := by
    obtain ⟨s, hs, hz⟩ := drawRead_ok h1b h1m
    obtain ⟨z1, z2, z3⟩ := readRef_size s
    obtain ⟨b1, b2⟩ := read_back s
    refine Ev.step (f := fun k => (spec_DrawReadRef.f k l1).bind fun t366 => ((spec_ReadRef.f k t366).bind fun bt367 => ((impl_ReadRef.f k t366).bind fun bt372 => (if bt372.2.2.2 = bt367.2.2.2 then (if bt372.2.2.2 = 0 then ((impl_WriteRef.f k bt372.1 bt372.2.1 bt372.2.2.1).bind fun t377 => (some (t377.toList == t366.toList))) else (if (bt372.1.toList == ([] : List UInt8) && (bt372.2.1.toList == ([] : List UInt8) && (bt372.2.2.1.toList == ([] : List UInt8)))) = true then (some true) else (some false))) else (some false))))) (fun k => by simp only [laws_FnRefs.j1]) (Ev.bind hs (Ev.bind (spec_readR s (by omega)) (Ev.bind (impl_readR s (by omega)) ?_)))
    simp only [if_true]
    by_cases hc : (readRef s).2.2.2 = 0
    · simp only [if_pos hc]
      refine Ev.bind (impl_writeR _ _ _ (by omega) (by omega) (by omega)) ?_
      rw [b1 hc, beq_self_eq_true]; exact Ev.now _
    · simp only [if_neg hc]
      obtain ⟨e1, e2, e3⟩ := b2 hc
      have e : (e0.toList == ([] : List UInt8)) = true := by rw [toL]; rfl
      simp only [e1, e2, e3, e, Bool.true_and, if_true]; exact Ev.now _
  obtain ⟨r, t, d, hd, hrz, htz, hdz⟩ := drawWrite_ok h0b h0m
  refine Ev.step (f := fun k => (spec_DrawWriteRef.f k l0).bind fun bt353 => ((impl_WriteRef.f k bt353.1 bt353.2.1 bt353.2.2).bind fun t357 => ((spec_WriteRef.f k bt353.1 bt353.2.1 bt353.2.2).bind fun t358 => (if t357.toList = t358.toList then (if t357.toList = ([] : List UInt8) then (laws_FnRefs.j1 k l1) else ((impl_ReadRef.f k t357).bind fun bt359 => (if bt359.2.2.2 = 0 then (if (!(bt359.1.toList == bt353.1.toList) || (!(bt359.2.1.toList == bt353.2.1.toList) || (!(bt359.2.2.1.toList == bt353.2.2.toList)))) = true then (some false) else ((impl_RepoOk.f k bt353.1).bind fun t364 => (if t364 = true then (if bt353.2.1.toList = ([] : List UInt8) then (laws_FnRefs.j1 k l1) else ((impl_TagOk.f k bt353.2.1).bind fun t365 => (if t365 = true then (laws_FnRefs.j1 k l1) else (some false)))) else (some false)))) else (some false)))) else (some false))))) (fun k => by simp only [laws_FnRefs.j0, Bool.false_eq_true, if_false]) ?_
  refine Ev.bind hd (Ev.bind (impl_writeR r t d (by omega) (by omega) (by omega)) (Ev.bind (spec_writeR r t d (by omega) (by omega) (by omega)) ?_))
  simp only [if_true]
  have hwz := writeRef_size r t d
  by_cases hn : (writeRef r t d).toList = ([] : List UInt8)
  · simp only [if_pos hn]; exact second
  · simp only [if_neg hn]
    refine Ev.bind (impl_readR _ (by omega)) ?_
    have hok : refOk r t d = true := by
      cases h : refOk r t d with
      | true => rfl
      | false => exact absurd (by rw [writeRef, h, if_neg (by decide), toL]) hn
    obtain ⟨hr, ht, _⟩ := refOk_parts hok
    have hrt : readRef (writeRef r t d) = (r, t, d, 0) := by rw [writeRef, if_pos hok]; exact read_text r t d hok
    rw [hrt]
    simp only [if_true, beq_self_eq_true, Bool.not_true, Bool.or_self, Bool.false_eq_true, if_false]
    unfold impl_RepoOk.f impl_TagOk.f
    refine Ev.bind (Ev.bind (impl_repo r (by omega)) (Ev.now _)) ?_
    rw [hr]
    simp only [if_true]
    by_cases hte : t.toList = ([] : List UInt8)
    · simp only [if_pos hte]; exact second
    · simp only [if_neg hte]
      refine Ev.bind (Ev.bind (impl_tag t (by omega)) (Ev.now _)) ?_
      rw [ht.resolve_left hte]
      simp only [if_true]; exact second

end Go.Proofs.YtldpdaifajjaeaaDoor.Pure
