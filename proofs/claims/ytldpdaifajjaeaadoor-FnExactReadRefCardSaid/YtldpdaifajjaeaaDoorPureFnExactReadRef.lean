/- For every text the program's ReadRef returns what the reference's returns. No condition but the size that the model lets a text have. -/
import Derived.Test.YtldpdaifajjaeaaDoorQFnExactReadRefx
import Derived.Test.YtldpdaifajjaeaaDoorRepoFnExactReadRef
namespace Go.Proofs.YtldpdaifajjaeaaDoor.Pure
open Go.RowKit Go.Proofs.YtldpdaifajjaeaaDoor.QFnExactReadRef Go.Proofs.YtldpdaifajjaeaaDoorW.PrintWords Go.Proofs.YtldpdaifajjaeaaDoorW.PrintLast Go.Proofs.YtldpdaifajjaeaaDoorW.PrintMore Go.Proofs.YtldpdaifajjaeaaDoor.Bits Go.Proofs.YtldpdaifajjaeaaDoor.Num Go.Proofs.YtldpdaifajjaeaaDoor.Dig Go.Proofs.YtldpdaifajjaeaaDoor.Loops Go.Proofs.YtldpdaifajjaeaaDoor.Pieces Go.Proofs.YtldpdaifajjaeaaDoor.Repo
set_option linter.unusedSimpArgs false
set_option linter.unusedVariables false
namespace ReadRefOf
theorem rdS (xs : List ByteArray) (i : Nat) (h : i < xs.length) : rdOf ByteArray.empty xs (i : Int) = xs[i] := getD_at xs i _ h
theorem spec_cut (s : ByteArray) (c : UInt8) (hs : s.size ≤ 2097152) : Ev (fun k => spec_l3Cut.f k s (c.toNat : Int)) (pieces c s) := by
  unfold spec_l3Cut.f
  have key : ∀ d i j : Nat, ∀ acc : List ByteArray, i + d = s.size → j ≤ i → acc.length ≤ i → Ev (fun k => spec_l3Cut.l0 k s (c.toNat : Int) acc (j : Int) (i : Int)) (acc ++ (addH ((s.data.toList.drop j).take (i - j)) (cutL c (s.data.toList.drop i))).map mkB) := by
    intro d
    induction d with
    | zero =>
      intro i j acc hi hj ha
      obtain rfl : i = s.size := by omega
      refine Ev.step (f := fun k => spec_l3Cut.l0 k s (c.toNat : Int) (acc ++ [s.extract j s.size]) ((s.size + 1 : Nat) : Int) ((s.size + 1 : Nat) : Int)) (fun k => ?_) (Ev.step (f := fun _ => some (acc ++ [s.extract j s.size])) (fun k => ?_) ?_)
      · simp only [spec_l3Cut.l0]
        rw [if_pos (by omega), if_pos trivial, if_pos (by omega), if_pos (by omega), if_pos (by omega), wrap_nat s.size (by omega), Int.toNat_natCast, Int.toNat_natCast]
      · simp only [spec_l3Cut.l0]; rw [if_neg (by omega)]
      · rw [extract_mkB, List.drop_eq_nil_of_le (show s.data.toList.length ≤ s.size by rw [size_list]; exact Nat.le_refl _)]
        simp only [cutL, addH, List.append_nil, List.map_cons, List.map_nil]
        exact Ev.now _
    | succ d ih =>
      intro i j acc hi hj ha
      have hlt : i < s.size := by omega
      have hl : i < s.data.toList.length := by rw [size_list]; exact hlt
      have hb := bt_byte s i hlt
      rw [List.drop_eq_getElem_cons hl, cutL]
      by_cases h : s.data.toList[i] = c
      · rw [if_pos h]
        have hn := ih (i + 1) (i + 1) (acc ++ [s.extract j i]) (by omega) (Nat.le_refl _) (by simp; omega)
        rw [Nat.sub_self, List.take_zero, addH_nil _ (cutL_ne _ _)] at hn
        refine Ev.step (f := fun k => spec_l3Cut.l0 k s (c.toNat : Int) (acc ++ [s.extract j i]) ((i + 1 : Nat) : Int) ((i + 1 : Nat) : Int)) (fun k => ?_) ?_
        · simp only [spec_l3Cut.l0]
          rw [if_pos (by omega), if_neg (by omega), if_pos (by omega), if_pos (by omega), hb, h, if_pos rfl, if_pos (by omega), if_pos (by omega), if_pos (by omega), wrap_nat i (by omega), Int.toNat_natCast, Int.toNat_natCast]
        · simp only [addH, List.append_nil, List.map_cons]
          rw [extract_mkB] at hn ⊢
          rw [List.append_assoc] at hn
          exact hn
      · rw [if_neg h, addH_addH]
        have hn := ih (i + 1) j acc (by omega) (by omega) (by omega)
        refine Ev.step (f := fun k => spec_l3Cut.l0 k s (c.toNat : Int) acc (j : Int) ((i + 1 : Nat) : Int)) (fun k => ?_) ?_
        · simp only [spec_l3Cut.l0]
          rw [if_pos (by omega), if_neg (by omega), if_pos (by omega), if_pos (by omega), hb, if_neg (fun e => h ((byte_eq _ _).1 e)), wrap_nat i (by omega)]
        · have e : (s.data.toList.drop j).take (i + 1 - j) = (s.data.toList.drop j).take (i - j) ++ [s.data.toList[i]] := by
            rw [show i + 1 - j = (i - j) + 1 by omega, List.take_succ_eq_append_getElem (by rw [List.length_drop]; omega), List.getElem_drop]
            congr 3
            omega
          rw [e] at hn
          exact hn
  have h := key s.size 0 0 [] (by omega) (Nat.le_refl _) (Nat.zero_le _)
  rw [Nat.sub_self, List.take_zero, List.drop_zero, addH_nil _ (cutL_ne _ _), List.nil_append] at h
  exact h
theorem impl_split (s : ByteArray) (c : UInt8) (hs : s.size ≤ 2097152) : strings_Split.f s (⟨#[c]⟩ : ByteArray) = some (pieces c s) := by
  unfold strings_Split.f strings_genSplit.f
  rw [if_pos ⟨by omega, rfl, rfl, rfl⟩, bindS, split_pieces]
theorem lowS_eq (c : Int) : spec_l3Low.f c = some (lowByte c) := by
  unfold spec_l3Low.f spec_l1Digit.f lowByte
  by_cases h1 : c ≥ 48 <;> by_cases h2 : c ≤ 57 <;> by_cases h3 : c ≥ 97 <;> by_cases h4 : c ≤ 122 <;> simp [h1, h2, h3, h4] <;> omega
theorem spec_mark (s : ByteArray) (hs : s.size ≤ 1048576) : Ev (fun k => spec_l3Mark.f k s) (markM (bytesOf s)) := by
  have hl := bytesOf_length s
  have lp : ∀ d i : Nat, i + d = s.size → Ev (fun k => spec_l3Mark.l0 k s (i : Int)) (((bytesOf s).drop i).all (· == 45) && decide (0 < s.size)) := by
    intro d
    induction d with
    | zero =>
      intro i hi
      rw [List.drop_eq_nil_of_le (by omega), List.all_nil, Bool.true_and]
      refine Ev.step (f := fun _ => some (decide (0 < s.size))) (fun k => ?_) (Ev.now _)
      simp only [spec_l3Mark.l0]
      rw [if_neg (by omega)]
      congr 1
      rw [decide_eq_decide]
      omega
    | succ d ih =>
      intro i hi
      rw [drop_bytes s i (by omega), List.all_cons]
      by_cases h : bt s (i : Int) = 45
      · rw [beq_iff_eq.2 h, Bool.true_and]
        refine Ev.step (fun k => ?_) (ih (i + 1) (by omega))
        simp only [spec_l3Mark.l0]
        rw [if_pos (by omega), if_pos (by omega), if_pos h, wrap_nat i (by omega)]
      · rw [beq_eq_false_iff_ne.2 h, Bool.false_and, Bool.false_and]
        refine Ev.step (f := fun _ => some false) (fun k => ?_) (Ev.now _)
        simp only [spec_l3Mark.l0]
        rw [if_pos (by omega), if_pos (by omega), if_neg h]
  have j0 : ∀ b : Bool, Ev (fun k => spec_l3Mark.j0 k s b) (b || ((bytesOf s).all (· == 45) && decide (0 < s.size))) := by
    intro b
    cases b with
    | true => exact Ev.step (f := fun _ => some true) (fun k => by simp only [spec_l3Mark.j0, if_true]) (Ev.now _)
    | false =>
      refine Ev.step (f := fun k => spec_l3Mark.l0 k s 0) (fun k => by simp only [spec_l3Mark.j0, Bool.false_eq_true, if_false]) ?_
      exact lp s.size 0 (by omega)
  have e46 := list_bytes s [46]
  have e95 := list_bytes s [95]
  have e99 := list_bytes s [95, 95]
  rw [show [46].map (fun b : UInt8 => (b.toNat : Int)) = [46] from rfl] at e46
  rw [show [95].map (fun b : UInt8 => (b.toNat : Int)) = [95] from rfl] at e95
  rw [show [95, 95].map (fun b : UInt8 => (b.toNat : Int)) = [95, 95] from rfl] at e99
  unfold spec_l3Mark.f markM
  rw [hl]
  by_cases h1 : s.toList = [46]
  · simp only [if_pos h1, beq_iff_eq.2 (e46.1 h1), Bool.true_or]
    exact j0 true
  · simp only [if_neg h1, beq_eq_false_iff_ne.2 (fun h => h1 (e46.2 h)), Bool.false_or]
    by_cases h2 : s.toList = [95]
    · simp only [if_pos h2, beq_iff_eq.2 (e95.1 h2), Bool.true_or]
      exact j0 true
    · simp only [if_neg h2, beq_eq_false_iff_ne.2 (fun h => h2 (e95.2 h)), Bool.false_or]
      rw [show (bytesOf s == [95, 95]) = (s.toList == [95, 95]) by rw [Bool.eq_iff_iff, beq_iff_eq, beq_iff_eq]; exact e99.symm, Bool.and_comm (decide (0 < s.size))]
      exact j0 _
theorem spec_part (s : ByteArray) (hs : s.size ≤ 1048576) : Ev (fun k => spec_l3Part.f k s) (partOk s) := by
  have hl := bytesOf_length s
  have main : lowByte (bt s ((s.size - 1 : Nat) : Int)) = true → ∀ n i : Nat, s.size - i ≤ n → i ≤ s.size → Ev (fun k => spec_l3Part.l0 k s (i : Int)) (partA 1 ((bytesOf s).drop i)) := by
    intro hlast n
    induction n with
    | zero =>
      intro i hn hi
      rw [List.drop_eq_nil_of_le (by omega)]
      exact Ev.step (f := fun _ => some true) (fun k => by simp only [spec_l3Part.l0]; rw [if_neg (by omega)]) (Ev.now _)
    | succ n ih =>
      intro i hn hi
      by_cases hlt : i < s.size
      · have scan : ∀ e d : Nat, i + d + e = s.size → (∀ t, t < d → ¬ lowByte (bt s ((i + t : Nat) : Int)) = true) → Ev (fun k => spec_l3Part.l1 k s (i : Int) ((i + d : Nat) : Int)) (partA 1 ((bytesOf s).drop i)) := by
          intro e
          induction e with
          | zero =>
            intro d hd hno
            exact absurd (by rw [show s.size - 1 = i + (d - 1) by omega] at hlast; exact hlast) (hno (d - 1) (by omega))
          | succ e ih2 =>
            intro d hd hno
            by_cases hlow : lowByte (bt s ((i + d : Nat) : Int)) = true
            · have hrun := drop_run s i d (by omega)
              rw [drop_bytes s (i + d) (by omega)] at hrun
              have hnext := ih (i + d + 1) (by omega) (by omega)
              by_cases hd0 : d = 0
              · subst hd0
                rw [hrun, List.range_zero, List.map_nil, List.nil_append, partA_low _ _ _ hlow]
                refine Ev.step (f := fun k => spec_l3Part.l0 k s ((i + 0 + 1 : Nat) : Int)) (fun k => ?_) hnext
                simp only [spec_l3Part.l1]
                rw [if_pos (by omega), if_pos (by omega), lowS_eq, bindS, if_pos hlow, if_neg (by omega), wrap_nat (i + 0) (by omega)]
              · have hmk := spec_mark (s.extract i (i + d)) (by rw [ByteArray.size_extract]; omega)
                rw [run_bytes s i d (by omega)] at hmk
                rw [hrun, part_mark _ hlow _ _ (fun x hx => by
                  simp only [List.mem_map, List.mem_range] at hx
                  obtain ⟨t, ht, rfl⟩ := hx
                  exact hno t ht) (fun h => hd0 (run_nil s i d h))]
                refine Ev.step (f := fun k => (spec_l3Mark.f k (s.extract i (i + d))).bind fun t => if t = true then spec_l3Part.l0 k s ((i + d + 1 : Nat) : Int) else some false) (fun k => ?_) (Ev.bind hmk ?_)
                · simp only [spec_l3Part.l1]
                  rw [if_pos (by omega), if_pos (by omega), lowS_eq, bindS, if_pos hlow, if_pos (by omega), if_pos (by omega), if_pos (by omega), if_pos (by omega), wrap_nat (i + d) (by omega), Int.toNat_natCast, Int.toNat_natCast]
                · cases markM ((List.range d).map (fun t => bt s ((i + t : Nat) : Int))) with
                  | true => simp only [if_true, Bool.true_and]; exact hnext
                  | false => simp only [Bool.false_eq_true, if_false, Bool.false_and]; exact Ev.now _
            · refine Ev.step (f := fun k => spec_l3Part.l1 k s (i : Int) ((i + d + 1 : Nat) : Int)) (fun k => ?_) (ih2 (d + 1) (by omega) (fun t ht => by
                rcases Nat.lt_or_ge t d with h | h
                · exact hno t h
                · obtain rfl : t = d := by omega
                  exact hlow))
              simp only [spec_l3Part.l1]
              rw [if_pos (by omega), if_pos (by omega), lowS_eq, bindS, if_neg hlow, wrap_nat (i + d) (by omega)]
        refine Ev.step (f := fun k => spec_l3Part.l1 k s (i : Int) (i : Int)) (fun k => by simp only [spec_l3Part.l0]; rw [if_pos (by omega)]) ?_
        exact scan (s.size - i) 0 (by omega) (fun t ht => absurd ht (Nat.not_lt_zero _))
      · rw [List.drop_eq_nil_of_le (by omega)]
        exact Ev.step (f := fun _ => some true) (fun k => by simp only [spec_l3Part.l0]; rw [if_neg (by omega)]) (Ev.now _)
  have j0t : Ev (fun k => spec_l3Part.j0 k s true) false := Ev.step (f := fun _ => some false) (fun k => by simp only [spec_l3Part.j0, if_true]) (Ev.now _)
  have enil := list_bytes s []
  rw [List.map_nil] at enil
  unfold spec_l3Part.f partOk
  by_cases h0 : s.toList = []
  · simp only [if_pos h0, enil.1 h0]
    exact j0t
  · have hpos : 0 < s.size := by
      rcases Nat.eq_zero_or_pos s.size with h | h
      · exact absurd (enil.2 (List.length_eq_zero_iff.1 (by omega))) h0
      · exact h
    have hd0 := drop_bytes s 0 hpos
    rw [List.drop_zero] at hd0
    have ew : wrap64 ((s.size : Int) - 1) = ((s.size - 1 : Nat) : Int) := by unfold wrap64; omega
    simp only [if_neg h0, if_pos (show 0 < (s.size : Int) by omega), lowS_eq, Option.bind_some, ew, if_pos (show (0 : Int) ≤ ((s.size - 1 : Nat) : Int) by omega), if_pos (show ((s.size - 1 : Nat) : Int) < (s.size : Int) by omega)]
    by_cases h1 : lowByte (bt s 0) = true
    · simp only [if_pos h1]
      cases h2 : lowByte (bt s ((s.size - 1 : Nat) : Int)) with
      | true =>
        simp only [Bool.not_true]
        refine Ev.step (f := fun k => spec_l3Part.l0 k s 0) (fun k => by simp only [spec_l3Part.j0, Bool.false_eq_true, if_false]) ?_
        have := main h2 s.size 0 (by omega) (by omega)
        rw [List.drop_zero] at this
        rw [hd0] at this ⊢
        have h1' : lowByte (bt s ((0 : Nat) : Int)) = true := h1
        rw [partA_low _ _ _ h1'] at this ⊢
        exact this
      | false =>
        simp only [Bool.not_false]
        have hf : partA 0 (bytesOf s) = false := by
          rw [Bool.eq_false_iff]
          intro h
          have hr := drop_run s 0 (s.size - 1) (by omega)
          have e9 : (bytesOf s).drop (0 + (s.size - 1) + 1) = [] := List.drop_eq_nil_of_le (by omega)
          rw [drop_bytes s (0 + (s.size - 1)) (by omega), e9, List.drop_zero, Nat.zero_add] at hr
          rw [hr] at h
          rw [partA_last _ _ _ h] at h2
          cases h2
        rw [hf]
        exact j0t
    · simp only [if_neg h1]
      have h1' : ¬ lowByte (bt s ((0 : Nat) : Int)) = true := h1
      rw [hd0, partA, if_neg h1', if_neg (by decide), if_neg (by decide), if_neg (by decide)]
      exact j0t
theorem spec_repo (s : ByteArray) (hs : s.size ≤ 140737488351232) : Ev (fun k => spec_RepoOk.f k s) (repoOk s) := by
  unfold spec_RepoOk.f repoOk
  by_cases h0 : (s.size : Int) > 100
  · simp only [if_pos h0, decide_eq_false (show ¬ s.size ≤ 100 by omega), Bool.false_and]; exact Ev.now _
  · simp only [if_neg h0, decide_eq_true (show s.size ≤ 100 by omega), Bool.true_and]
    have hc := spec_cut s 47 (by omega)
    rw [show (((47 : UInt8).toNat : Nat) : Int) = 47 from rfl] at hc
    refine Ev.bind hc ?_
    have hp := pieces_len 47 s
    have hx := pieces_size 47 s
    generalize pieces 47 s = P at hp hx
    have key : ∀ d i : Nat, i + d = P.length → Ev (fun k => spec_RepoOk.l0 k P (i : Int)) ((P.drop i).all partOk) := by
      intro d
      induction d with
      | zero =>
        intro i hi
        rw [List.drop_eq_nil_of_le (by omega)]
        exact Ev.step (f := fun _ => some true) (fun k => by simp only [spec_RepoOk.l0]; rw [if_neg (by omega)]) (Ev.now _)
      | succ d ih =>
        intro i hi
        have hlt : i < P.length := by omega
        have hxs := hx _ (List.getElem_mem hlt)
        rw [List.drop_eq_getElem_cons hlt, List.all_cons]
        refine Ev.step (f := fun k => (spec_l3Part.f k P[i]).bind fun t => if t = true then spec_RepoOk.l0 k P ((i + 1 : Nat) : Int) else some false) (fun k => ?_) (Ev.bind (spec_part P[i] (by omega)) ?_)
        · simp only [spec_RepoOk.l0]; rw [if_pos (by omega), if_pos (by omega), rdS P i hlt, wrap_nat i (by omega)]
        · cases partOk P[i] with
          | true => simp only [if_true, Bool.true_and]; exact ih (i + 1) (by omega)
          | false => simp only [Bool.false_eq_true, if_false, Bool.false_and]; exact Ev.now _
    have := key P.length 0 (by omega)
    rw [List.drop_zero] at this
    exact this
theorem wordI_eq (c : Int) : impl_isWordByte.f c = some (lowByte c) := by
  unfold impl_isWordByte.f lowByte
  by_cases h1 : c ≥ 48 <;> by_cases h2 : c ≤ 57 <;> by_cases h3 : c ≥ 97 <;> by_cases h4 : c ≤ 122 <;> simp [h1, h2, h3, h4] <;> omega
theorem part_A : ∀ (l : List Int) (q : Nat), impl_isRepoPart.A q l = partA q l
  | [], q => rfl
  | c :: l, q => by
    rw [impl_isRepoPart.A, partA, wordI_eq]
    simp only [Option.some.injEq, part_A l]
theorem impl_part (s : ByteArray) (hs : s.size ≤ 100) : impl_isRepoPart.f s = some (partOk s) := by
  unfold impl_isRepoPart.f partOk
  rw [if_pos hs, part_A]
theorem impl_repo (s : ByteArray) (hs : s.size ≤ 140737488351232) : Ev (fun k => impl_isRepo.f k s) (repoOk s) := by
  unfold impl_isRepo.f repoOk
  by_cases h0 : (s.size : Int) > 100
  · simp only [if_pos h0, decide_eq_false (show ¬ s.size ≤ 100 by omega), Bool.false_and]; exact Ev.now _
  · simp only [if_neg h0, decide_eq_true (show s.size ≤ 100 by omega), Bool.true_and]
    refine Ev.bind (Ev.is (impl_split s 47 (by omega))) ?_
    have hp := pieces_len 47 s
    have hx := pieces_size 47 s
    generalize pieces 47 s = P at hp hx
    have key : ∀ d i : Nat, i + d = P.length → Ev (fun k => impl_isRepo.l0 k P (P.length : Int) (i : Int)) ((P.drop i).all partOk) := by
      intro d
      induction d with
      | zero =>
        intro i hi
        rw [List.drop_eq_nil_of_le (by omega)]
        exact Ev.step (f := fun _ => some true) (fun k => by simp only [impl_isRepo.l0]; rw [if_neg (by omega)]) (Ev.now _)
      | succ d ih =>
        intro i hi
        have hlt : i < P.length := by omega
        have hxs := hx _ (List.getElem_mem hlt)
        rw [List.drop_eq_getElem_cons hlt, List.all_cons]
        refine Ev.step (f := fun k => if partOk P[i] = true then impl_isRepo.l0 k P (P.length : Int) ((i + 1 : Nat) : Int) else some false) (fun k => ?_) ?_
        · simp only [impl_isRepo.l0]; rw [if_pos (by omega), if_pos (by omega), if_pos (by omega), rdS P i hlt, impl_part _ (by omega), bindS, wrap_nat i (by omega)]
        · cases partOk P[i] with
          | true => simp only [if_true, Bool.true_and]; exact ih (i + 1) (by omega)
          | false => simp only [Bool.false_eq_true, if_false, Bool.false_and]; exact Ev.now _
    have := key P.length 0 (by omega)
    rw [List.drop_zero] at this
    exact this
theorem l3Low_eq (c : Int) : spec_l3Low.f c = some (lowByte c) := by
  unfold spec_l3Low.f spec_l1Digit.f lowByte
  by_cases h1 : c ≥ 48 <;> by_cases h2 : c ≤ 57 <;> by_cases h3 : c ≥ 97 <;> by_cases h4 : c ≤ 122 <;> simp [h1, h2, h3, h4] <;> omega
theorem spec_tag_loop (s : ByteArray) (hs : s.size ≤ 140737488351232) (d : Nat) : ∀ i : Nat, i + d = s.size → Ev (fun k => spec_TagOk.l0 k s (i : Int)) (((bytesOf s).drop i).all tagByte) := by
  induction d with
  | zero =>
    intro i hi
    rw [List.drop_eq_nil_of_le (by rw [bytesOf_length]; omega)]
    refine Ev.step (f := fun _ => some true) (fun k => ?_) (Ev.now _)
    simp only [spec_TagOk.l0]; rw [if_neg (by omega)]
  | succ d ih =>
    intro i hi
    have hlt : i < s.size := by omega
    rw [drop_bytes s i hlt]
    refine Ev.step (f := fun k => if tagByte (bt s i) = true then spec_TagOk.l0 k s ((i + 1 : Nat) : Int) else some false) (fun k => ?_) ?_
    · simp only [spec_TagOk.l0]; rw [if_pos (by omega), if_pos (by omega), l3Low_eq]; simp only [Option.bind_some]
      rw [wrap_succ i _ hlt hs]; exact tag_ifs _ _ _
    · by_cases h : tagByte (bt s i) = true
      · simp only [if_pos h, List.all_cons, h, Bool.true_and]; exact ih (i + 1) (by omega)
      · simp only [if_neg h, List.all_cons, h, Bool.false_and]; exact Ev.now _
theorem spec_tag (s : ByteArray) (hs : s.size ≤ 140737488351232) : Ev (fun k => spec_TagOk.f k s) (tagOk s) := by
  have j1 : ∀ b : Bool, Ev (fun k => spec_TagOk.j0 k s b) (if b = true then false else (bytesOf s).all tagByte) := by
    intro b
    refine Ev.step (f := fun k => if b = true then some false else spec_TagOk.l0 k s 0) (fun k => by simp only [spec_TagOk.j0]) ?_
    cases b with
    | true => exact Ev.now _
    | false => exact spec_tag_loop s hs s.size 0 (by omega)
  unfold spec_TagOk.f tagOk
  by_cases h1 : (s.size : Int) < 1
  · simp only [if_pos h1, show ¬ (1 ≤ s.size) by omega, decide_false, Bool.false_and]; exact j1 true
  · simp only [if_neg h1, show (1 ≤ s.size) by omega, decide_true, Bool.true_and]
    by_cases h2 : (s.size : Int) > 128
    · simp only [if_pos h2, show ¬ (s.size ≤ 128) by omega, decide_false, Bool.false_and]; exact j1 true
    · simp only [if_neg h2, show (s.size ≤ 128) by omega, decide_true, Bool.true_and, show 0 < (s.size : Int) by omega, if_true]
      by_cases h3 : bt s 0 = 46
      · simp only [if_pos h3, h3, beq_self_eq_true, Bool.not_true, Bool.false_and]; exact j1 true
      · simp only [if_neg h3, show (bt s 0 == 46) = false by simpa using h3, Bool.not_false, Bool.true_and]
        have := j1 (bt s 0 == 45)
        by_cases h4 : (bt s 0 == 45) = true
        · simpa [h4] using this
        · simpa [h4] using this
theorem wordByte_eq (c : Int) : impl_isWordByte.f c = some (lowByte c) := by
  unfold impl_isWordByte.f lowByte
  by_cases h1 : c ≥ 48 <;> by_cases h2 : c ≤ 57 <;> by_cases h3 : c ≥ 97 <;> by_cases h4 : c ≤ 122 <;> simp [h1, h2, h3, h4] <;> omega
theorem impl_tag_loop (s : ByteArray) (hs : s.size ≤ 140737488351232) (d : Nat) : ∀ i : Nat, i + d = s.size → Ev (fun k => impl_isTag.l0 k s (s.size : Int) (i : Int)) (((bytesOf s).drop i).all tagByte) := by
  induction d with
  | zero =>
    intro i hi
    rw [List.drop_eq_nil_of_le (by rw [bytesOf_length]; omega)]
    refine Ev.step (f := fun _ => some true) (fun k => ?_) (Ev.now _)
    simp only [impl_isTag.l0]; rw [if_neg (by omega)]
  | succ d ih =>
    intro i hi
    have hlt : i < s.size := by omega
    rw [drop_bytes s i hlt]
    refine Ev.step (f := fun k => if tagByte (bt s i) = true then impl_isTag.l0 k s (s.size : Int) ((i + 1 : Nat) : Int) else some false) (fun k => ?_) ?_
    · simp only [impl_isTag.l0]; rw [if_pos (by omega), if_pos (by omega), if_pos (by omega), wordByte_eq]; simp only [Option.bind_some]
      rw [wrap_succ i _ hlt hs]; exact tag_ifs _ _ _
    · by_cases h : tagByte (bt s i) = true
      · simp only [if_pos h, List.all_cons, h, Bool.true_and]; exact ih (i + 1) (by omega)
      · simp only [if_neg h, List.all_cons, h, Bool.false_and]; exact Ev.now _
theorem impl_tag (s : ByteArray) (hs : s.size ≤ 140737488351232) : Ev (fun k => impl_isTag.f k s) (tagOk s) := by
  have j1 : ∀ b : Bool, Ev (fun k => impl_isTag.j0 k s b) (if b = true then false else (bytesOf s).all tagByte) := by
    intro b
    refine Ev.step (f := fun k => if b = true then some false else impl_isTag.l0 k s (s.size : Int) 0) (fun k => by simp only [impl_isTag.j0]) ?_
    cases b with
    | true => exact Ev.now _
    | false => exact impl_tag_loop s hs s.size 0 (by omega)
  unfold impl_isTag.f tagOk
  by_cases h1 : (s.size : Int) < 1
  · simp only [if_pos h1, show ¬ (1 ≤ s.size) by omega, decide_false, Bool.false_and]; exact j1 true
  · simp only [if_neg h1, show (1 ≤ s.size) by omega, decide_true, Bool.true_and]
    by_cases h2 : (s.size : Int) > 128
    · simp only [if_pos h2, show ¬ (s.size ≤ 128) by omega, decide_false, Bool.false_and]; exact j1 true
    · simp only [if_neg h2, show (s.size ≤ 128) by omega, decide_true, Bool.true_and, show 0 < (s.size : Int) by omega, if_true]
      by_cases h3 : bt s 0 = 46
      · simp only [if_pos h3, h3, beq_self_eq_true, Bool.not_true, Bool.false_and]; exact j1 true
      · simp only [if_neg h3, show (bt s 0 == 46) = false by simpa using h3, Bool.not_false, Bool.true_and]
        have := j1 (bt s 0 == 45)
        by_cases h4 : (bt s 0 == 45) = true
        · simpa [h4] using this
        · simpa [h4] using this
theorem l1Digit_eq (c : Int) : spec_l1Digit.f c = some (decide (48 ≤ c ∧ c ≤ 57)) := by
  unfold spec_l1Digit.f
  by_cases h1 : c ≥ 48 <;> by_cases h2 : c ≤ 57 <;> simp [h1, h2] <;> omega
theorem l1Hexit_eq (c : Int) (h0 : 0 ≤ c) (h1 : c ≤ 255) : spec_l1Hexit.f c = some (hexV c) := by
  unfold spec_l1Hexit.f
  rw [l1Digit_eq]
  simp only [Option.bind_some, decide_eq_true_eq, hexV]
  repeat' split
  all_goals first | rfl | (exfalso; omega) | (congr 1; omega)
theorem spec_dig_loop (s : ByteArray) (hs : s.size = 71) (d : Nat) : ∀ i : Nat, i + d = 71 → Ev (fun k => spec_DigestOk.l0 k s (i : Int)) (((bytesOf s).drop i).all hexB) := by
  induction d with
  | zero =>
    intro i hi
    rw [List.drop_eq_nil_of_le (by rw [bytesOf_length]; omega)]
    refine Ev.step (f := fun _ => some true) (fun k => ?_) (Ev.now _)
    simp only [spec_DigestOk.l0]; rw [if_neg (by omega)]
  | succ d ih =>
    intro i hi
    have hlt : i < s.size := by omega
    rw [drop_bytes s i hlt]
    have hb := bt_range s i
    refine Ev.step (f := fun k => if hexV (bt s i) < 0 then some false else spec_DigestOk.l0 k s ((i + 1 : Nat) : Int)) (fun k => ?_) ?_
    · simp only [spec_DigestOk.l0]; rw [if_pos (by omega), if_pos (by omega), if_pos (by omega), l1Hexit_eq _ hb.1 hb.2]; simp only [Option.bind_some]
      rw [wrap_succ i _ hlt (by omega)]
    · by_cases h : hexB (bt s i) = true
      · have hn : ¬ hexV (bt s i) < 0 := by rw [hexV_neg]; exact fun hh => hh h
        simp only [if_neg hn, List.all_cons, h, Bool.true_and]; exact ih (i + 1) (by omega)
      · have hn : hexV (bt s i) < 0 := by rw [hexV_neg]; exact h
        simp only [if_pos hn, List.all_cons, h, Bool.false_and]; exact Ev.now _
theorem spec_dig (s : ByteArray) : Ev (fun k => spec_DigestOk.f k s) (digestOk s) := by
  unfold spec_DigestOk.f digestOk
  by_cases h1 : (s.size : Int) = 71
  · have hs : s.size = 71 := by omega
    simp only [if_pos h1, show decide (s.size = 71) = true from decide_eq_true hs, Bool.true_and, show (0 : Nat) ≤ 7 by omega, show (7 : Int) ≤ (s.size : Int) by omega, if_true]
    refine Ev.step (f := fun k => if ((s.extract 0 7).toList != ([115, 104, 97, 50, 53, 54, 58] : List UInt8)) = true then some false else spec_DigestOk.l0 k s 7) (fun k => by simp only [spec_DigestOk.j0]) ?_
    cases h : ((s.extract 0 7).toList == digHead) with
    | true =>
      have h' : ((s.extract 0 7).toList != ([115, 104, 97, 50, 53, 54, 58] : List UInt8)) = false := by
        show (!((s.extract 0 7).toList == digHead)) = false; rw [h]; rfl
      simp only [h', Bool.false_eq_true, if_false, Bool.true_and]
      exact spec_dig_loop s hs 64 7 rfl
    | false =>
      have h' : ((s.extract 0 7).toList != ([115, 104, 97, 50, 53, 54, 58] : List UInt8)) = true := by
        show (!((s.extract 0 7).toList == digHead)) = true; rw [h]; rfl
      simp only [h', if_true, Bool.false_and]
      exact Ev.now _
  · have hs : ¬ s.size = 71 := by omega
    simp only [if_neg h1, hs, decide_false, Bool.false_and]
    refine Ev.step (f := fun k => some false) (fun k => by simp only [spec_DigestOk.j0, if_true]) (Ev.now _)
theorem head_size : (⟨#[115, 104, 97, 50, 53, 54, 58]⟩ : ByteArray).size = 7 := rfl
theorem head_list : (⟨#[115, 104, 97, 50, 53, 54, 58]⟩ : ByteArray).toList = digHead := toL _
theorem cutHead (s : ByteArray) : strings_CutPrefix.f s (⟨#[115, 104, 97, 50, 53, 54, 58]⟩ : ByteArray) = some (if (decide (7 ≤ s.size) && ((s.extract 0 7).toList == digHead)) = true then (s.extract 7 s.size, true) else (s, false)) := by
  unfold strings_CutPrefix.f stringslite_CutPrefix.f stringslite_HasPrefix.f
  rw [head_size, head_list]
  by_cases h : 7 ≤ s.size
  · have h2 : (s.size : Int) ≥ ((7 : Nat) : Int) := by omega
    simp only [if_pos h2, show (0 : Int) ≤ ((7 : Nat) : Int) by omega, show ((7 : Nat) : Int) ≤ (s.size : Int) from h2, if_true, Option.bind_some, h, decide_true, Bool.true_and, Int.toNat_natCast]
    cases hh : ((s.extract 0 7).toList == digHead) <;> simp
  · have h2 : ¬ (s.size : Int) ≥ ((7 : Nat) : Int) := by omega
    simp only [if_neg h2, Option.bind_some, h, decide_false, Bool.false_and, Bool.false_eq_true, if_false]
theorem trimHex (s : ByteArray) (hs : s.size ≤ 140737488351232) : ∃ t, strings_Trim.f s (⟨#[48, 49, 50, 51, 52, 53, 54, 55, 56, 57, 97, 98, 99, 100, 101, 102]⟩ : ByteArray) = some t ∧ (t.toList == ([] : List UInt8)) = (bytesOf s).all hexB := by
  unfold strings_Trim.f
  refine ⟨_, if_pos ⟨by omega, by decide, by decide⟩, ?_⟩
  rw [toL]
  show (Lib.trimS s.data.toList hexSet == []) = _
  rw [trimS_nil]
  have := all_bytes s hexB 0
  rw [List.drop_zero, List.drop_zero] at this
  rw [this]
  congr 1; funext b; exact hexSet_is b
theorem impl_dig (s : ByteArray) (hs : s.size ≤ 140737488351232) : impl_isDigest.f s = some (digestOk s) := by
  unfold impl_isDigest.f
  rw [cutHead]
  simp only [Option.bind_some]
  unfold digestOk
  by_cases h71 : s.size = 71
  · cases hh : ((s.extract 0 7).toList == digHead) with
    | true =>
      have hx : (s.extract 7 s.size).size = 64 := by rw [ByteArray.size_extract]; omega
      obtain ⟨t, ht, he⟩ := trimHex (s.extract 7 s.size) (by omega)
      rw [h71] at hx ht he ⊢
      simp only [show (7 : Nat) ≤ 71 by omega, decide_true, Bool.true_and, if_true, hx, show ((64 : Nat) : Int) = 64 from rfl, ht, Option.bind_some, he]
      rw [show (bytesOf (s.extract 7 71)) = (bytesOf s).drop 7 by
        simp only [bytesOf, extract_data, List.map_take, List.map_drop]
        rw [List.take_of_length_le]
        simp only [List.length_drop, List.length_map, Array.length_toList]
        have : s.data.size = 71 := h71
        omega]
    | false => simp
  · simp only [h71, decide_false, Bool.false_and]
    cases hh : (decide (7 ≤ s.size) && ((s.extract 0 7).toList == digHead)) with
    | true =>
      have h7 : 7 ≤ s.size := by simp only [Bool.and_eq_true, decide_eq_true_eq] at hh; exact hh.1
      have hx : ¬ ((s.extract 7 s.size).size : Int) = 64 := by rw [ByteArray.size_extract]; omega
      simp only [if_true, if_neg hx]
    | false => simp
def pos (p : UInt8 → Bool) : List UInt8 → Nat
  | [] => 0
  | b :: l => if p b = true then 0 else pos p l + 1
theorem pos_le (p : UInt8 → Bool) : ∀ l, pos p l ≤ l.length
  | [] => Nat.le_refl _
  | b :: l => by rw [pos]; have := pos_le p l; split <;> simp only [List.length_cons] <;> omega
theorem pos_hit (p : UInt8 → Bool) : ∀ l (h : pos p l < l.length), p (l[pos p l]'h) = true
  | [], h => absurd h (Nat.lt_irrefl _)
  | b :: l, h => by
    by_cases hb : p b = true
    · have e : pos p (b :: l) = 0 := by rw [pos, if_pos hb]
      simp only [e, List.getElem_cons_zero]; exact hb
    · have e : pos p (b :: l) = pos p l + 1 := by rw [pos, if_neg hb]
      rw [e, List.length_cons] at h
      simp only [e, List.getElem_cons_succ]; exact pos_hit p l (by omega)
theorem pos_two (p q : UInt8 → Bool) (hpq : ∀ b, q b = true → p b = true) : ∀ l, pos p l ≤ pos q l ∧ pos q (l.drop (pos p l)) = pos q l - pos p l
  | [] => ⟨Nat.le_refl _, rfl⟩
  | b :: l => by
    have ih := pos_two p q hpq l
    by_cases hb : p b = true
    · simp only [pos, if_pos hb, List.drop_zero, Nat.zero_le, Nat.sub_zero, and_self]
    · have hq : ¬ q b = true := fun h => hb (hpq b h)
      simp only [pos, if_neg hb, if_neg hq, List.drop_succ_cons]
      exact ⟨by omega, by rw [ih.2]; omega⟩
theorem pos_drop (p : UInt8 → Bool) (l : List UInt8) (i : Nat) (h : i < l.length) : pos p (l.drop i) = if p l[i] = true then 0 else pos p (l.drop (i + 1)) + 1 := by
  rw [List.drop_eq_getElem_cons h, pos]
def p2 : UInt8 → Bool := fun x => x == 58 || x == 64
def p1 : UInt8 → Bool := fun x => x == 64
theorem indexAny_pos : ∀ l : List UInt8, Lib.indexAny l [58, 64] = if pos p2 l = l.length then -1 else (pos p2 l : Int)
  | [] => rfl
  | b :: l => by
    have ih := indexAny_pos l
    have hc : ([58, 64] : List UInt8).contains b = p2 b := by
      simp only [List.contains_cons, List.contains_nil, Bool.or_false, p2]
    have hle := pos_le p2 l
    rw [Lib.indexAny, pos, hc, List.length_cons]
    cases p2 b with
    | true => simp only [if_true]; rw [if_neg (by omega)]; rfl
    | false =>
      simp only [Bool.false_eq_true, if_false, Nat.add_right_cancel_iff]
      rw [ih]
      by_cases h : pos p2 l = l.length
      · simp only [if_pos h]; rfl
      · simp only [if_neg h]
        rw [if_neg (by rw [beq_iff_eq]; omega)]; omega
theorem indexByte_pos : ∀ l : List UInt8, Lib.indexByte l 64 = if pos p1 l = l.length then -1 else (pos p1 l : Int)
  | [] => rfl
  | b :: l => by
    have ih := indexByte_pos l
    have hle := pos_le p1 l
    rw [Lib.indexByte, pos, List.length_cons]
    show (if p1 b = true then _ else _) = _
    cases p1 b with
    | true => simp only [if_true]; rw [if_neg (by omega)]; rfl
    | false =>
      simp only [Bool.false_eq_true, if_false, Nat.add_right_cancel_iff]
      rw [ih]
      by_cases h : pos p1 l = l.length
      · simp only [if_pos h]; rfl
      · simp only [if_neg h]
        rw [if_neg (by rw [beq_iff_eq]; omega)]; omega
theorem spec_find_loop (s : ByteArray) (a b : UInt8) (hs : s.size ≤ 1048576) (d : Nat) : ∀ i : Nat, i + d = s.size → Ev (fun k => spec_l3Find.l0 k s (a.toNat : Int) (b.toNat : Int) (i : Int)) ((i + pos (fun x => x == a || x == b) (s.data.toList.drop i) : Nat) : Int) := by
  induction d with
  | zero =>
    intro i hi
    have e : s.data.toList.drop i = [] := List.drop_eq_nil_of_le (by rw [size_list]; omega)
    rw [e]
    exact Ev.step (f := fun _ => some (s.size : Int)) (fun k => by simp only [spec_l3Find.l0, if_neg (show ¬ (i : Int) < (s.size : Int) by omega)]) (by rw [show i + pos (fun x => x == a || x == b) [] = s.size from hi]; exact Ev.now _)
  | succ d ih =>
    intro i hi
    have hlt : i < s.size := by omega
    have hl : i < s.data.toList.length := by rw [size_list]; exact hlt
    rw [pos_drop _ _ i hl]
    have hb := bt_byte s i hlt
    by_cases h1 : s.data.toList[i] = a
    · refine Ev.step (f := fun _ => some (i : Int)) (fun k => ?_) ?_
      · simp only [spec_l3Find.l0, if_pos (show (i : Int) < (s.size : Int) by omega), if_pos (Int.natCast_nonneg i), hb, if_pos ((byte_eq _ _).2 h1)]
      · simp only [beq_iff_eq.2 h1, Bool.true_or, if_true, Nat.add_zero]; exact Ev.now _
    · by_cases h2 : s.data.toList[i] = b
      · refine Ev.step (f := fun _ => some (i : Int)) (fun k => ?_) ?_
        · simp only [spec_l3Find.l0, if_pos (show (i : Int) < (s.size : Int) by omega), if_pos (Int.natCast_nonneg i), hb, if_neg (fun h => h1 ((byte_eq _ _).1 h)), if_pos ((byte_eq _ _).2 h2)]
        · simp only [beq_iff_eq.2 h2, Bool.or_true, if_true, Nat.add_zero]; exact Ev.now _
      · refine Ev.step (f := fun k => spec_l3Find.l0 k s (a.toNat : Int) (b.toNat : Int) ((i + 1 : Nat) : Int)) (fun k => ?_) ?_
        · simp only [spec_l3Find.l0, if_pos (show (i : Int) < (s.size : Int) by omega), if_pos (Int.natCast_nonneg i), hb, if_neg (fun h => h1 ((byte_eq _ _).1 h)), if_neg (fun h => h2 ((byte_eq _ _).1 h)), wrap_nat i (by omega)]
        · simp only [beq_eq_false_iff_ne.2 h1, beq_eq_false_iff_ne.2 h2, Bool.or_false, Bool.false_eq_true, if_false]
          have := ih (i + 1) (by omega)
          rwa [show i + 1 + pos (fun x => x == a || x == b) (s.data.toList.drop (i + 1)) = i + (pos (fun x => x == a || x == b) (s.data.toList.drop (i + 1)) + 1) from by omega] at this
theorem spec_find2 (s : ByteArray) (hs : s.size ≤ 1048576) : Ev (fun k => spec_l3Find.f k s 58 64) ((pos p2 s.data.toList : Nat) : Int) := by
  have := spec_find_loop s 58 64 hs s.size 0 (by omega)
  rw [Nat.zero_add, List.drop_zero] at this
  exact this
theorem spec_find1 (s : ByteArray) (hs : s.size ≤ 1048576) : Ev (fun k => spec_l3Find.f k s 64 64) ((pos p1 s.data.toList : Nat) : Int) := by
  have := spec_find_loop s 64 64 hs s.size 0 (by omega)
  rw [Nat.zero_add, List.drop_zero] at this
  simp only [Bool.or_self] at this
  exact this
theorem impl_any (s : ByteArray) (hs : s.size ≤ 1048576) : strings_IndexAny.f s (⟨#[58, 64]⟩ : ByteArray) = some (if pos p2 s.data.toList = s.size then -1 else (pos p2 s.data.toList : Int)) := by
  unfold strings_IndexAny.f
  rw [if_pos ⟨by omega, rfl⟩, indexAny_pos, size_list]
theorem impl_cut (s : ByteArray) (hs : s.size ≤ 1048576) : strings_Cut.f s (⟨#[64]⟩ : ByteArray) = some (if pos p1 s.data.toList = s.size then (s, ⟨#[]⟩, false) else (s.extract 0 (pos p1 s.data.toList), s.extract (pos p1 s.data.toList + 1) s.size, true)) := by
  unfold strings_Cut.f stringslite_Cut.f stringslite_Index.f
  rw [if_pos (show (⟨#[64]⟩ : ByteArray).size = 1 from rfl)]
  show (Option.bind (Option.bind (some (Lib.indexByte s.data.toList 64)) _) _) = _
  rw [indexByte_pos, size_list, bindS]
  have hle := pos_le p1 s.data.toList
  rw [size_list] at hle
  by_cases h : pos p1 s.data.toList = s.size
  · simp only [if_pos h, if_neg (show ¬ ((-1 : Int) ≥ 0) by omega), bindS]
  · simp only [if_neg h]
    generalize pos p1 s.data.toList = b at h hle
    have e : wrap64 ((b : Int) + ((⟨#[64]⟩ : ByteArray).size : Int)) = ((b + 1 : Nat) : Int) := wrap_nat b (by omega)
    simp only [e, ge_iff_le, if_pos (Int.natCast_nonneg b), if_pos (show (b : Int) ≤ (s.size : Int) by omega), if_pos (Int.natCast_nonneg (b + 1)), if_pos (show ((b + 1 : Nat) : Int) ≤ (s.size : Int) by omega), bindS, Int.toNat_natCast]
theorem nil_iff (s : ByteArray) : s.toList = ([] : List UInt8) ↔ s.size = 0 := by
  rw [toL, ← List.length_eq_zero_iff, size_list]
theorem bt_cut (s : ByteArray) (a b i : Nat) (h : a + i < b) (hb : b ≤ s.size) : bt (s.extract a b) (i : Int) = bt s ((a + i : Nat) : Int) := by
  rw [bt_byte _ i (by rw [ByteArray.size_extract]; omega), bt_byte s (a + i) (by omega)]
  simp only [extract_data, List.getElem_take, List.getElem_drop]
def e0 : ByteArray := ⟨#[]⟩
def tailRef (r t d : ByteArray) (f : Bool) : ByteArray × ByteArray × ByteArray × Int := if f = true then (if digestOk d = true then (r, t, d, 0) else (e0, e0, e0, 3)) else (r, t, e0, 0)
def readRef (s : ByteArray) : ByteArray × ByteArray × ByteArray × Int :=
  if repoOk (s.extract 0 (pos p2 s.data.toList)) = true then
    (if pos p2 s.data.toList < pos p1 s.data.toList then
      (if tagOk (s.extract (pos p2 s.data.toList + 1) (pos p1 s.data.toList)) = true then tailRef (s.extract 0 (pos p2 s.data.toList)) (s.extract (pos p2 s.data.toList + 1) (pos p1 s.data.toList)) (s.extract (pos p1 s.data.toList + 1) s.size) (decide (pos p1 s.data.toList < s.size)) else (e0, e0, e0, 2))
     else tailRef (s.extract 0 (pos p2 s.data.toList)) e0 (s.extract (pos p1 s.data.toList + 1) s.size) (decide (pos p1 s.data.toList < s.size)))
  else (e0, e0, e0, 1)
theorem posF (s : ByteArray) : pos p2 s.data.toList ≤ pos p1 s.data.toList ∧ pos p1 s.data.toList ≤ s.size ∧ pos p1 (s.extract (pos p2 s.data.toList) s.size).data.toList = pos p1 s.data.toList - pos p2 s.data.toList
    ∧ (pos p2 s.data.toList < s.size → (bt s (pos p2 s.data.toList : Int) = 58 ↔ pos p2 s.data.toList < pos p1 s.data.toList)) := by
  have h2 := pos_two p2 p1 (fun b h => by unfold p1 at h; unfold p2; rw [h, Bool.or_true]) s.data.toList
  have hle := pos_le p1 s.data.toList
  rw [size_list] at hle
  refine ⟨h2.1, hle, ?_, fun h => ?_⟩
  · rw [extract_data, List.take_of_length_le (by rw [List.length_drop, size_list]; omega)]
    exact h2.2
  · have hl : pos p2 s.data.toList < s.data.toList.length := by rw [size_list]; exact h
    have hit := pos_hit p2 s.data.toList hl
    have hd := pos_drop p1 s.data.toList _ hl
    rw [h2.2] at hd
    rw [bt_byte s _ h]
    generalize s.data.toList[pos p2 s.data.toList] = x at hit hd
    by_cases h64 : x = 64
    · subst h64
      rw [if_pos (show p1 64 = true from rfl)] at hd
      constructor
      · intro h; exact absurd h (by decide)
      · intro h; omega
    · have h58 : x = 58 := by
        unfold p2 at hit
        simp only [Bool.or_eq_true, beq_iff_eq] at hit
        exact hit.resolve_right h64
      subst h58
      rw [if_neg (by decide)] at hd
      exact ⟨fun _ => by omega, fun _ => rfl⟩
theorem spec_readR (s : ByteArray) (hs : s.size ≤ 1048576) : Ev (fun k => spec_ReadRef.f k s) (readRef s) := by
  have hF := posF s
  unfold spec_ReadRef.f readRef
  refine Ev.bind (spec_find2 s hs) ?_
  generalize hA : pos p2 s.data.toList = a at hF
  generalize hB : pos p1 s.data.toList = b at hF
  obtain ⟨h1, h2, h3, h4⟩ := hF
  clear hA hB
  simp only [if_pos (Int.natCast_nonneg a), if_pos (show (a : Int) ≤ (s.size : Int) by omega), Int.toNat_natCast]
  refine Ev.bind (spec_repo _ (by rw [ByteArray.size_extract]; omega)) ?_
  cases repoOk (s.extract 0 a) with
  | false => simp only [Bool.false_eq_true, if_false]; exact Ev.now _
  | true =>
    simp only [if_true]
    have hsz : (s.extract a s.size).size = s.size - a := by rw [ByteArray.size_extract]; omega
    have end_ : ∀ r t : ByteArray, Ev (fun k => spec_ReadRef.j1 k (s.extract b s.size) e0 e0 e0 r t e0) (tailRef r t (s.extract (b + 1) s.size) (decide (b < s.size))) := by
      intro r t
      have hz : (s.extract b s.size).size = s.size - b := by rw [ByteArray.size_extract]; omega
      by_cases hb : b < s.size
      · refine Ev.step (f := fun k => (spec_DigestOk.f k ((s.extract b s.size).extract 1 (s.extract b s.size).size)).bind fun t131 => (if t131 = true then (some (r, t, (s.extract b s.size).extract 1 (s.extract b s.size).size, 0)) else (some (e0, e0, e0, 3)))) (fun k => ?_) ?_
        · simp only [spec_ReadRef.j1]
          rw [if_neg (by rw [nil_iff, hz]; omega), if_pos (by rw [hz]; omega)]
        · have ee : (s.extract b s.size).extract 1 (s.extract b s.size).size = s.extract (b + 1) s.size := by rw [hz, ByteArray.extract_extract]; congr 1; omega
          rw [ee, tailRef, decide_eq_true hb, if_pos rfl]
          refine Ev.bind (spec_dig _) ?_
          cases digestOk (s.extract (b + 1) s.size) with
          | true => exact Ev.now _
          | false => exact Ev.now _
      · refine Ev.step (f := fun _ => some (r, t, e0, 0)) (fun k => ?_) ?_
        · simp only [spec_ReadRef.j1]
          rw [if_pos (by rw [nil_iff, hz]; omega)]
        · rw [tailRef, decide_eq_false hb]; exact Ev.now _
    have plain : a = b → Ev (fun k => spec_ReadRef.j0 k (s.extract a s.size) false e0 e0 e0 (s.extract 0 a) e0 e0) (tailRef (s.extract 0 a) e0 (s.extract (b + 1) s.size) (decide (b < s.size))) := by
      intro hab
      subst hab
      exact Ev.step (f := fun k => spec_ReadRef.j1 k (s.extract a s.size) e0 e0 e0 (s.extract 0 a) e0 e0) (fun k => by simp only [spec_ReadRef.j0, Bool.false_eq_true, if_false]) (end_ _ _)
    by_cases ha : a < s.size
    · have hbt : bt (s.extract a s.size) 0 = bt s (a : Int) := bt_cut s a s.size 0 (by omega) (Nat.le_refl _)
      rw [hbt]
      have hn : ¬ (s.extract a s.size).toList = ([] : List UInt8) := by rw [nil_iff, hsz]; omega
      simp only [if_neg hn, if_pos (show (0 : Int) < ((s.extract a s.size).size : Int) by rw [hsz]; omega)]
      by_cases hc : a < b
      · rw [beq_iff_eq.2 ((h4 ha).2 hc), if_pos hc]
        have ee : (s.extract a s.size).extract 1 (b - a) = s.extract (a + 1) b := by rw [ByteArray.extract_extract]; congr 1; omega
        have e2 : (s.extract a s.size).extract (b - a) (s.extract a s.size).size = s.extract b s.size := by rw [hsz, ByteArray.extract_extract]; congr 1 <;> omega
        refine Ev.step (f := fun k => (spec_l3Find.f k (s.extract a s.size) 64 64).bind fun t129 => (if 1 ≤ t129 then (if t129 ≤ ((s.extract a s.size).size : Int) then ((spec_TagOk.f k ((s.extract a s.size).extract 1 (t129 : Int).toNat)).bind fun t130 => (if t130 = true then (if 0 ≤ t129 then (spec_ReadRef.j1 k ((s.extract a s.size).extract (t129 : Int).toNat (s.extract a s.size).size) e0 e0 e0 (s.extract 0 a) ((s.extract a s.size).extract 1 (t129 : Int).toNat) e0) else (none)) else (some (e0, e0, e0, 2)))) else (none)) else (none))) (fun k => by simp only [spec_ReadRef.j0, if_true]; rfl) ?_
        refine Ev.bind (spec_find1 _ (by rw [hsz]; omega)) ?_
        rw [h3]
        simp only [if_pos (show (1 : Int) ≤ ((b - a : Nat) : Int) by omega), if_pos (show ((b - a : Nat) : Int) ≤ ((s.extract a s.size).size : Int) by rw [hsz]; omega), Int.toNat_natCast, ee, e2, if_pos (Int.natCast_nonneg (b - a))]
        refine Ev.bind (spec_tag _ (by rw [ByteArray.size_extract]; omega)) ?_
        cases tagOk (s.extract (a + 1) b) with
        | false => simp only [Bool.false_eq_true, if_false]; exact Ev.now _
        | true => simp only [if_true]; exact end_ _ _
      · rw [beq_eq_false_iff_ne.2 (fun h => hc ((h4 ha).1 h)), if_neg hc]
        exact plain (by omega)
    · rw [if_neg (show ¬ a < b by omega)]
      simp only [if_pos (show (s.extract a s.size).toList = ([] : List UInt8) by rw [nil_iff, hsz]; omega)]
      exact plain (by omega)
theorem impl_readR (s : ByteArray) (hs : s.size ≤ 1048576) : Ev (fun k => impl_ReadRef.f k s) (readRef s) := by
  have hF := posF s
  unfold impl_ReadRef.f readRef
  refine Ev.bind (Ev.is (impl_any s hs)) ?_
  have hcut := impl_cut s hs
  generalize hA : pos p2 s.data.toList = a at hF
  generalize hB : pos p1 s.data.toList = b at hF hcut
  obtain ⟨h1, h2, h3, h4⟩ := hF
  clear hA hB
  have main : Ev (fun k => impl_ReadRef.j0 k s (a : Int)) (if repoOk (s.extract 0 a) = true then (if a < b then (if tagOk (s.extract (a + 1) b) = true then tailRef (s.extract 0 a) (s.extract (a + 1) b) (s.extract (b + 1) s.size) (decide (b < s.size)) else (e0, e0, e0, 2)) else tailRef (s.extract 0 a) e0 (s.extract (b + 1) s.size) (decide (b < s.size))) else (e0, e0, e0, 1)) := by
    have hcut' : strings_Cut.f s (⟨#[64]⟩ : ByteArray) = some (s.extract 0 b, (if b < s.size then s.extract (b + 1) s.size else e0), decide (b < s.size)) := by
      rw [hcut]
      by_cases hb : b < s.size
      · rw [if_neg (by omega), if_pos hb, decide_eq_true hb]
      · have : b = s.size := by omega
        rw [if_pos this, if_neg hb, decide_eq_false hb, this, ByteArray.extract_zero_size]; rfl
    refine Ev.step (f := fun k => if 0 ≤ (a : Int) then (if (a : Int) ≤ (s.size : Int) then ((strings_Cut.f s (⟨#[64]⟩ : ByteArray)).bind fun bt154 => ((impl_isRepo.f k (s.extract 0 ((a : Int) : Int).toNat)).bind fun t157 => (if t157 = true then (if (a : Int) < (s.size : Int) then (impl_ReadRef.j1 k (a : Int) bt154.1 bt154.2.1 bt154.2.2 ((bt s (a : Int)) == 58) (s.extract 0 ((a : Int) : Int).toNat) (⟨#[]⟩ : ByteArray) (⟨#[]⟩ : ByteArray)) else (impl_ReadRef.j1 k (a : Int) bt154.1 bt154.2.1 bt154.2.2 false (s.extract 0 ((a : Int) : Int).toNat) (⟨#[]⟩ : ByteArray) (⟨#[]⟩ : ByteArray))) else (some ((⟨#[]⟩ : ByteArray), (⟨#[]⟩ : ByteArray), (⟨#[]⟩ : ByteArray), 1))))) else (none)) else (none)) (fun k => by simp only [impl_ReadRef.j0]) ?_
    rw [hcut']
    simp only [if_pos (Int.natCast_nonneg a), if_pos (show (a : Int) ≤ (s.size : Int) by omega), Int.toNat_natCast, bindS]
    refine Ev.bind (impl_repo _ (by rw [ByteArray.size_extract]; omega)) ?_
    cases repoOk (s.extract 0 a) with
    | false => simp only [Bool.false_eq_true, if_false]; exact Ev.now _
    | true =>
      simp only [if_true]
      have end_ : ∀ r t : ByteArray, Ev (fun k => impl_ReadRef.j2 k (if b < s.size then s.extract (b + 1) s.size else e0) (decide (b < s.size)) r t e0) (tailRef r t (s.extract (b + 1) s.size) (decide (b < s.size))) := by
        intro r t
        by_cases hb : b < s.size
        · rw [if_pos hb, decide_eq_true hb]
          refine Ev.step (f := fun _ => (impl_isDigest.f (s.extract (b + 1) s.size)).bind fun t159 => (if t159 = true then (some (r, t, s.extract (b + 1) s.size, 0)) else (some (e0, e0, e0, 3)))) (fun k => by simp only [impl_ReadRef.j2, if_true]; rfl) ?_
          refine Ev.bind (Ev.is (impl_dig _ (by rw [ByteArray.size_extract]; omega))) ?_
          rw [tailRef, if_pos rfl]
          cases digestOk (s.extract (b + 1) s.size) with
          | true => exact Ev.now _
          | false => exact Ev.now _
        · rw [if_neg hb, decide_eq_false hb]
          exact Ev.step (f := fun _ => some (r, t, e0, 0)) (fun k => by simp only [impl_ReadRef.j2, Bool.false_eq_true, if_false]) (Ev.now _)
      have plain : Ev (fun k => impl_ReadRef.j1 k (a : Int) (s.extract 0 b) (if b < s.size then s.extract (b + 1) s.size else e0) (decide (b < s.size)) false (s.extract 0 a) e0 e0) (tailRef (s.extract 0 a) e0 (s.extract (b + 1) s.size) (decide (b < s.size))) :=
        Ev.step (f := fun k => impl_ReadRef.j2 k (if b < s.size then s.extract (b + 1) s.size else e0) (decide (b < s.size)) (s.extract 0 a) e0 e0) (fun k => by simp only [impl_ReadRef.j1, Bool.false_eq_true, if_false]) (end_ _ _)
      by_cases ha : a < s.size
      · simp only [if_pos (show (a : Int) < (s.size : Int) by omega)]
        by_cases hc : a < b
        · rw [beq_iff_eq.2 ((h4 ha).2 hc), if_pos hc]
          have hz : (s.extract 0 b).size = b := by rw [ByteArray.size_extract]; omega
          have ee : (s.extract 0 b).extract (a + 1) (s.extract 0 b).size = s.extract (a + 1) b := by rw [hz, ByteArray.extract_extract]; congr 1 <;> omega
          refine Ev.step (f := fun k => (impl_isTag.f k (s.extract (a + 1) b)).bind fun t158 => (if t158 = true then (impl_ReadRef.j2 k (if b < s.size then s.extract (b + 1) s.size else e0) (decide (b < s.size)) (s.extract 0 a) (s.extract (a + 1) b) e0) else (some (e0, e0, e0, 2)))) (fun k => ?_) ?_
          · simp only [impl_ReadRef.j1, if_true, wrap_nat a (by omega), if_pos (Int.natCast_nonneg (a + 1)), if_pos (show ((a + 1 : Nat) : Int) ≤ ((s.extract 0 b).size : Int) by rw [hz]; omega), Int.toNat_natCast, ee]
            rfl
          · refine Ev.bind (impl_tag _ (by rw [ByteArray.size_extract]; omega)) ?_
            cases tagOk (s.extract (a + 1) b) with
            | false => simp only [Bool.false_eq_true, if_false]; exact Ev.now _
            | true => simp only [if_true]; exact end_ _ _
        · rw [beq_eq_false_iff_ne.2 (fun h => hc ((h4 ha).1 h)), if_neg hc]
          exact plain
      · simp only [if_neg (show ¬ (a : Int) < (s.size : Int) by omega)]
        rw [if_neg (show ¬ a < b by omega)]
        exact plain
  by_cases h : a = s.size
  · simp only [if_pos h, if_pos (show (-1 : Int) < 0 by omega)]; rw [← h]; rw [← h] at main; exact main
  · simp only [if_neg h, if_neg (show ¬ (a : Int) < 0 by omega)]; exact main
end ReadRefOf
open ReadRefOf

theorem FnExactReadRef : laws_FnExactReadRef.Pure := by
  intro s hs
  refine Ev.rounds (g := fun k => laws_FnExactReadRef.f k s) ?_
  unfold laws_FnExactReadRef.f
  by_cases h0 : (s.size : Int) > 1048576
  · simp only [if_pos h0]; exact Ev.now _
  · simp only [if_neg h0]
    refine Ev.bind (spec_readR s (by omega)) (Ev.bind (impl_readR s (by omega)) ?_)
    unfold laws_eqRef.f
    simp only [if_true, bindS]
    exact Ev.now _

end Go.Proofs.YtldpdaifajjaeaaDoor.Pure
