/- For every reference the program's WriteRef returns what the reference's returns. No condition but the sizes that the model lets texts have. -/
import Derived.Test.YtldpdaifajjaeaaDoorQFnExactWriteRefx
import Derived.Test.YtldpdaifajjaeaaDoorRepoFnExactWriteRef
namespace Go.Proofs.YtldpdaifajjaeaaDoor.Pure
open Go.RowKit Go.Proofs.YtldpdaifajjaeaaDoor.QFnExactWriteRef Go.Proofs.YtldpdaifajjaeaaDoorW.PrintWords Go.Proofs.YtldpdaifajjaeaaDoorW.PrintLast Go.Proofs.YtldpdaifajjaeaaDoorW.PrintMore Go.Proofs.YtldpdaifajjaeaaDoor.Bits Go.Proofs.YtldpdaifajjaeaaDoor.Num Go.Proofs.YtldpdaifajjaeaaDoor.Dig Go.Proofs.YtldpdaifajjaeaaDoor.Loops Go.Proofs.YtldpdaifajjaeaaDoor.Pieces Go.Proofs.YtldpdaifajjaeaaDoor.Repo
set_option linter.unusedSimpArgs false
set_option linter.unusedVariables false
namespace WriteRefOf
theorem rdS (xs : List ByteArray) (i : Nat) (h : i < xs.length) : rdOf ByteArray.empty xs (i : Int) = xs[i] := getD_at xs i _ h
theorem spec_cut (s : ByteArray) (c : UInt8) (hs : s.size ≤ 2097152) : Ev (fun k => spec_l3Cut.f k s (c.toNat : Int)) (pieces c s) := by
  unfold spec_l3Cut.f
  have key : ∀ d i j : Nat, ∀ acc : List ByteArray, i + d = s.size → j ≤ i → acc.length ≤ i → Ev (fun k => spec_l3Cut.l0 k s (c.toNat : Int) acc (j : Int) (i : Int)) (acc ++ (addH ((s.data.toList.drop j).take (i - j)) (cutL c (s.data.toList.drop i))).map mkB) := by
    intro d
    induction d with
    | zero =>
      intro i j acc hi hj ha
      obtain rfl : i = s.size := by omega
      refine Ev.step (f := fun k => spec_l3Cut.l0 k s (c.toNat : Int) (acc ++ [s.extract j s.size]) ((s.size + 1 : Nat) : Int) ((s.size + 1 : Nat) : Int)) (fun k => ?_) (Ev.step (f := fun _ => some (acc ++ [s.extract j s.size])) (fun k => ?_) ?_)
      · simp only [spec_l3Cut.l0]
        rw [if_pos (by omega), if_pos trivial, if_pos (by omega), if_pos (by omega), if_pos (by omega), wrap_nat s.size (by omega), Int.toNat_natCast, Int.toNat_natCast]
      · simp only [spec_l3Cut.l0]; rw [if_neg (by omega)]
      · rw [extract_mkB, List.drop_eq_nil_of_le (show s.data.toList.length ≤ s.size by rw [size_list]; exact Nat.le_refl _)]
        simp only [cutL, addH, List.append_nil, List.map_cons, List.map_nil]
        exact Ev.now _
    | succ d ih =>
      intro i j acc hi hj ha
      have hlt : i < s.size := by omega
      have hl : i < s.data.toList.length := by rw [size_list]; exact hlt
      have hb := bt_byte s i hlt
      rw [List.drop_eq_getElem_cons hl, cutL]
      by_cases h : s.data.toList[i] = c
      · rw [if_pos h]
        have hn := ih (i + 1) (i + 1) (acc ++ [s.extract j i]) (by omega) (Nat.le_refl _) (by simp; omega)
        rw [Nat.sub_self, List.take_zero, addH_nil _ (cutL_ne _ _)] at hn
        refine Ev.step (f := fun k => spec_l3Cut.l0 k s (c.toNat : Int) (acc ++ [s.extract j i]) ((i + 1 : Nat) : Int) ((i + 1 : Nat) : Int)) (fun k => ?_) ?_
        · simp only [spec_l3Cut.l0]
          rw [if_pos (by omega), if_neg (by omega), if_pos (by omega), if_pos (by omega), hb, h, if_pos rfl, if_pos (by omega), if_pos (by omega), if_pos (by omega), wrap_nat i (by omega), Int.toNat_natCast, Int.toNat_natCast]
        · simp only [addH, List.append_nil, List.map_cons]
          rw [extract_mkB] at hn ⊢
          rw [List.append_assoc] at hn
          exact hn
      · rw [if_neg h, addH_addH]
        have hn := ih (i + 1) j acc (by omega) (by omega) (by omega)
        refine Ev.step (f := fun k => spec_l3Cut.l0 k s (c.toNat : Int) acc (j : Int) ((i + 1 : Nat) : Int)) (fun k => ?_) ?_
        · simp only [spec_l3Cut.l0]
          rw [if_pos (by omega), if_neg (by omega), if_pos (by omega), if_pos (by omega), hb, if_neg (fun e => h ((byte_eq _ _).1 e)), wrap_nat i (by omega)]
        · have e : (s.data.toList.drop j).take (i + 1 - j) = (s.data.toList.drop j).take (i - j) ++ [s.data.toList[i]] := by
            rw [show i + 1 - j = (i - j) + 1 by omega, List.take_succ_eq_append_getElem (by rw [List.length_drop]; omega), List.getElem_drop]
            congr 3
            omega
          rw [e] at hn
          exact hn
  have h := key s.size 0 0 [] (by omega) (Nat.le_refl _) (Nat.zero_le _)
  rw [Nat.sub_self, List.take_zero, List.drop_zero, addH_nil _ (cutL_ne _ _), List.nil_append] at h
  exact h
theorem impl_split (s : ByteArray) (c : UInt8) (hs : s.size ≤ 2097152) : strings_Split.f s (⟨#[c]⟩ : ByteArray) = some (pieces c s) := by
  unfold strings_Split.f strings_genSplit.f
  rw [if_pos ⟨by omega, rfl, rfl, rfl⟩, bindS, split_pieces]
theorem lowS_eq (c : Int) : spec_l3Low.f c = some (lowByte c) := by
  unfold spec_l3Low.f spec_l1Digit.f lowByte
  by_cases h1 : c ≥ 48 <;> by_cases h2 : c ≤ 57 <;> by_cases h3 : c ≥ 97 <;> by_cases h4 : c ≤ 122 <;> simp [h1, h2, h3, h4] <;> omega
theorem spec_mark (s : ByteArray) (hs : s.size ≤ 1048576) : Ev (fun k => spec_l3Mark.f k s) (markM (bytesOf s)) := by
  have hl := bytesOf_length s
  have lp : ∀ d i : Nat, i + d = s.size → Ev (fun k => spec_l3Mark.l0 k s (i : Int)) (((bytesOf s).drop i).all (· == 45) && decide (0 < s.size)) := by
    intro d
    induction d with
    | zero =>
      intro i hi
      rw [List.drop_eq_nil_of_le (by omega), List.all_nil, Bool.true_and]
      refine Ev.step (f := fun _ => some (decide (0 < s.size))) (fun k => ?_) (Ev.now _)
      simp only [spec_l3Mark.l0]
      rw [if_neg (by omega)]
      congr 1
      rw [decide_eq_decide]
      omega
    | succ d ih =>
      intro i hi
      rw [drop_bytes s i (by omega), List.all_cons]
      by_cases h : bt s (i : Int) = 45
      · rw [beq_iff_eq.2 h, Bool.true_and]
        refine Ev.step (fun k => ?_) (ih (i + 1) (by omega))
        simp only [spec_l3Mark.l0]
        rw [if_pos (by omega), if_pos (by omega), if_pos h, wrap_nat i (by omega)]
      · rw [beq_eq_false_iff_ne.2 h, Bool.false_and, Bool.false_and]
        refine Ev.step (f := fun _ => some false) (fun k => ?_) (Ev.now _)
        simp only [spec_l3Mark.l0]
        rw [if_pos (by omega), if_pos (by omega), if_neg h]
  have j0 : ∀ b : Bool, Ev (fun k => spec_l3Mark.j0 k s b) (b || ((bytesOf s).all (· == 45) && decide (0 < s.size))) := by
    intro b
    cases b with
    | true => exact Ev.step (f := fun _ => some true) (fun k => by simp only [spec_l3Mark.j0, if_true]) (Ev.now _)
    | false =>
      refine Ev.step (f := fun k => spec_l3Mark.l0 k s 0) (fun k => by simp only [spec_l3Mark.j0, Bool.false_eq_true, if_false]) ?_
      exact lp s.size 0 (by omega)
  have e46 := list_bytes s [46]
  have e95 := list_bytes s [95]
  have e99 := list_bytes s [95, 95]
  rw [show [46].map (fun b : UInt8 => (b.toNat : Int)) = [46] from rfl] at e46
  rw [show [95].map (fun b : UInt8 => (b.toNat : Int)) = [95] from rfl] at e95
  rw [show [95, 95].map (fun b : UInt8 => (b.toNat : Int)) = [95, 95] from rfl] at e99
  unfold spec_l3Mark.f markM
  rw [hl]
  by_cases h1 : s.toList = [46]
  · simp only [if_pos h1, beq_iff_eq.2 (e46.1 h1), Bool.true_or]
    exact j0 true
  · simp only [if_neg h1, beq_eq_false_iff_ne.2 (fun h => h1 (e46.2 h)), Bool.false_or]
    by_cases h2 : s.toList = [95]
    · simp only [if_pos h2, beq_iff_eq.2 (e95.1 h2), Bool.true_or]
      exact j0 true
    · simp only [if_neg h2, beq_eq_false_iff_ne.2 (fun h => h2 (e95.2 h)), Bool.false_or]
      rw [show (bytesOf s == [95, 95]) = (s.toList == [95, 95]) by rw [Bool.eq_iff_iff, beq_iff_eq, beq_iff_eq]; exact e99.symm, Bool.and_comm (decide (0 < s.size))]
      exact j0 _
theorem spec_part (s : ByteArray) (hs : s.size ≤ 1048576) : Ev (fun k => spec_l3Part.f k s) (partOk s) := by
  have hl := bytesOf_length s
  have main : lowByte (bt s ((s.size - 1 : Nat) : Int)) = true → ∀ n i : Nat, s.size - i ≤ n → i ≤ s.size → Ev (fun k => spec_l3Part.l0 k s (i : Int)) (partA 1 ((bytesOf s).drop i)) := by
    intro hlast n
    induction n with
    | zero =>
      intro i hn hi
      rw [List.drop_eq_nil_of_le (by omega)]
      exact Ev.step (f := fun _ => some true) (fun k => by simp only [spec_l3Part.l0]; rw [if_neg (by omega)]) (Ev.now _)
    | succ n ih =>
      intro i hn hi
      by_cases hlt : i < s.size
      · have scan : ∀ e d : Nat, i + d + e = s.size → (∀ t, t < d → ¬ lowByte (bt s ((i + t : Nat) : Int)) = true) → Ev (fun k => spec_l3Part.l1 k s (i : Int) ((i + d : Nat) : Int)) (partA 1 ((bytesOf s).drop i)) := by
          intro e
          induction e with
          | zero =>
            intro d hd hno
            exact absurd (by rw [show s.size - 1 = i + (d - 1) by omega] at hlast; exact hlast) (hno (d - 1) (by omega))
          | succ e ih2 =>
            intro d hd hno
            by_cases hlow : lowByte (bt s ((i + d : Nat) : Int)) = true
            · have hrun := drop_run s i d (by omega)
              rw [drop_bytes s (i + d) (by omega)] at hrun
              have hnext := ih (i + d + 1) (by omega) (by omega)
              by_cases hd0 : d = 0
              · subst hd0
                rw [hrun, List.range_zero, List.map_nil, List.nil_append, partA_low _ _ _ hlow]
                refine Ev.step (f := fun k => spec_l3Part.l0 k s ((i + 0 + 1 : Nat) : Int)) (fun k => ?_) hnext
                simp only [spec_l3Part.l1]
                rw [if_pos (by omega), if_pos (by omega), lowS_eq, bindS, if_pos hlow, if_neg (by omega), wrap_nat (i + 0) (by omega)]
              · have hmk := spec_mark (s.extract i (i + d)) (by rw [ByteArray.size_extract]; omega)
                rw [run_bytes s i d (by omega)] at hmk
                rw [hrun, part_mark _ hlow _ _ (fun x hx => by
                  simp only [List.mem_map, List.mem_range] at hx
                  obtain ⟨t, ht, rfl⟩ := hx
                  exact hno t ht) (fun h => hd0 (run_nil s i d h))]
                refine Ev.step (f := fun k => (spec_l3Mark.f k (s.extract i (i + d))).bind fun t => if t = true then spec_l3Part.l0 k s ((i + d + 1 : Nat) : Int) else some false) (fun k => ?_) (Ev.bind hmk ?_)
                · simp only [spec_l3Part.l1]
                  rw [if_pos (by omega), if_pos (by omega), lowS_eq, bindS, if_pos hlow, if_pos (by omega), if_pos (by omega), if_pos (by omega), if_pos (by omega), wrap_nat (i + d) (by omega), Int.toNat_natCast, Int.toNat_natCast]
                · cases markM ((List.range d).map (fun t => bt s ((i + t : Nat) : Int))) with
                  | true => simp only [if_true, Bool.true_and]; exact hnext
                  | false => simp only [Bool.false_eq_true, if_false, Bool.false_and]; exact Ev.now _
            · refine Ev.step (f := fun k => spec_l3Part.l1 k s (i : Int) ((i + d + 1 : Nat) : Int)) (fun k => ?_) (ih2 (d + 1) (by omega) (fun t ht => by
                rcases Nat.lt_or_ge t d with h | h
                · exact hno t h
                · obtain rfl : t = d := by omega
                  exact hlow))
              simp only [spec_l3Part.l1]
              rw [if_pos (by omega), if_pos (by omega), lowS_eq, bindS, if_neg hlow, wrap_nat (i + d) (by omega)]
        refine Ev.step (f := fun k => spec_l3Part.l1 k s (i : Int) (i : Int)) (fun k => by simp only [spec_l3Part.l0]; rw [if_pos (by omega)]) ?_
        exact scan (s.size - i) 0 (by omega) (fun t ht => absurd ht (Nat.not_lt_zero _))
      · rw [List.drop_eq_nil_of_le (by omega)]
        exact Ev.step (f := fun _ => some true) (fun k => by simp only [spec_l3Part.l0]; rw [if_neg (by omega)]) (Ev.now _)
  have j0t : Ev (fun k => spec_l3Part.j0 k s true) false := Ev.step (f := fun _ => some false) (fun k => by simp only [spec_l3Part.j0, if_true]) (Ev.now _)
  have enil := list_bytes s []
  rw [List.map_nil] at enil
  unfold spec_l3Part.f partOk
  by_cases h0 : s.toList = []
  · simp only [if_pos h0, enil.1 h0]
    exact j0t
  · have hpos : 0 < s.size := by
      rcases Nat.eq_zero_or_pos s.size with h | h
      · exact absurd (enil.2 (List.length_eq_zero_iff.1 (by omega))) h0
      · exact h
    have hd0 := drop_bytes s 0 hpos
    rw [List.drop_zero] at hd0
    have ew : wrap64 ((s.size : Int) - 1) = ((s.size - 1 : Nat) : Int) := by unfold wrap64; omega
    simp only [if_neg h0, if_pos (show 0 < (s.size : Int) by omega), lowS_eq, Option.bind_some, ew, if_pos (show (0 : Int) ≤ ((s.size - 1 : Nat) : Int) by omega), if_pos (show ((s.size - 1 : Nat) : Int) < (s.size : Int) by omega)]
    by_cases h1 : lowByte (bt s 0) = true
    · simp only [if_pos h1]
      cases h2 : lowByte (bt s ((s.size - 1 : Nat) : Int)) with
      | true =>
        simp only [Bool.not_true]
        refine Ev.step (f := fun k => spec_l3Part.l0 k s 0) (fun k => by simp only [spec_l3Part.j0, Bool.false_eq_true, if_false]) ?_
        have := main h2 s.size 0 (by omega) (by omega)
        rw [List.drop_zero] at this
        rw [hd0] at this ⊢
        have h1' : lowByte (bt s ((0 : Nat) : Int)) = true := h1
        rw [partA_low _ _ _ h1'] at this ⊢
        exact this
      | false =>
        simp only [Bool.not_false]
        have hf : partA 0 (bytesOf s) = false := by
          rw [Bool.eq_false_iff]
          intro h
          have hr := drop_run s 0 (s.size - 1) (by omega)
          have e9 : (bytesOf s).drop (0 + (s.size - 1) + 1) = [] := List.drop_eq_nil_of_le (by omega)
          rw [drop_bytes s (0 + (s.size - 1)) (by omega), e9, List.drop_zero, Nat.zero_add] at hr
          rw [hr] at h
          rw [partA_last _ _ _ h] at h2
          cases h2
        rw [hf]
        exact j0t
    · simp only [if_neg h1]
      have h1' : ¬ lowByte (bt s ((0 : Nat) : Int)) = true := h1
      rw [hd0, partA, if_neg h1', if_neg (by decide), if_neg (by decide), if_neg (by decide)]
      exact j0t
theorem spec_repo (s : ByteArray) (hs : s.size ≤ 140737488351232) : Ev (fun k => spec_RepoOk.f k s) (repoOk s) := by
  unfold spec_RepoOk.f repoOk
  by_cases h0 : (s.size : Int) > 100
  · simp only [if_pos h0, decide_eq_false (show ¬ s.size ≤ 100 by omega), Bool.false_and]; exact Ev.now _
  · simp only [if_neg h0, decide_eq_true (show s.size ≤ 100 by omega), Bool.true_and]
    have hc := spec_cut s 47 (by omega)
    rw [show (((47 : UInt8).toNat : Nat) : Int) = 47 from rfl] at hc
    refine Ev.bind hc ?_
    have hp := pieces_len 47 s
    have hx := pieces_size 47 s
    generalize pieces 47 s = P at hp hx
    have key : ∀ d i : Nat, i + d = P.length → Ev (fun k => spec_RepoOk.l0 k P (i : Int)) ((P.drop i).all partOk) := by
      intro d
      induction d with
      | zero =>
        intro i hi
        rw [List.drop_eq_nil_of_le (by omega)]
        exact Ev.step (f := fun _ => some true) (fun k => by simp only [spec_RepoOk.l0]; rw [if_neg (by omega)]) (Ev.now _)
      | succ d ih =>
        intro i hi
        have hlt : i < P.length := by omega
        have hxs := hx _ (List.getElem_mem hlt)
        rw [List.drop_eq_getElem_cons hlt, List.all_cons]
        refine Ev.step (f := fun k => (spec_l3Part.f k P[i]).bind fun t => if t = true then spec_RepoOk.l0 k P ((i + 1 : Nat) : Int) else some false) (fun k => ?_) (Ev.bind (spec_part P[i] (by omega)) ?_)
        · simp only [spec_RepoOk.l0]; rw [if_pos (by omega), if_pos (by omega), rdS P i hlt, wrap_nat i (by omega)]
        · cases partOk P[i] with
          | true => simp only [if_true, Bool.true_and]; exact ih (i + 1) (by omega)
          | false => simp only [Bool.false_eq_true, if_false, Bool.false_and]; exact Ev.now _
    have := key P.length 0 (by omega)
    rw [List.drop_zero] at this
    exact this
theorem wordI_eq (c : Int) : impl_isWordByte.f c = some (lowByte c) := by
  unfold impl_isWordByte.f lowByte
  by_cases h1 : c ≥ 48 <;> by_cases h2 : c ≤ 57 <;> by_cases h3 : c ≥ 97 <;> by_cases h4 : c ≤ 122 <;> simp [h1, h2, h3, h4] <;> omega
theorem part_A : ∀ (l : List Int) (q : Nat), impl_isRepoPart.A q l = partA q l
  | [], q => rfl
  | c :: l, q => by
    rw [impl_isRepoPart.A, partA, wordI_eq]
    simp only [Option.some.injEq, part_A l]
theorem impl_part (s : ByteArray) (hs : s.size ≤ 100) : impl_isRepoPart.f s = some (partOk s) := by
  unfold impl_isRepoPart.f partOk
  rw [if_pos hs, part_A]
theorem impl_repo (s : ByteArray) (hs : s.size ≤ 140737488351232) : Ev (fun k => impl_isRepo.f k s) (repoOk s) := by
  unfold impl_isRepo.f repoOk
  by_cases h0 : (s.size : Int) > 100
  · simp only [if_pos h0, decide_eq_false (show ¬ s.size ≤ 100 by omega), Bool.false_and]; exact Ev.now _
  · simp only [if_neg h0, decide_eq_true (show s.size ≤ 100 by omega), Bool.true_and]
    refine Ev.bind (Ev.is (impl_split s 47 (by omega))) ?_
    have hp := pieces_len 47 s
    have hx := pieces_size 47 s
    generalize pieces 47 s = P at hp hx
    have key : ∀ d i : Nat, i + d = P.length → Ev (fun k => impl_isRepo.l0 k P (P.length : Int) (i : Int)) ((P.drop i).all partOk) := by
      intro d
      induction d with
      | zero =>
        intro i hi
        rw [List.drop_eq_nil_of_le (by omega)]
        exact Ev.step (f := fun _ => some true) (fun k => by simp only [impl_isRepo.l0]; rw [if_neg (by omega)]) (Ev.now _)
      | succ d ih =>
        intro i hi
        have hlt : i < P.length := by omega
        have hxs := hx _ (List.getElem_mem hlt)
        rw [List.drop_eq_getElem_cons hlt, List.all_cons]
        refine Ev.step (f := fun k => if partOk P[i] = true then impl_isRepo.l0 k P (P.length : Int) ((i + 1 : Nat) : Int) else some false) (fun k => ?_) ?_
        · simp only [impl_isRepo.l0]; rw [if_pos (by omega), if_pos (by omega), if_pos (by omega), rdS P i hlt, impl_part _ (by omega), bindS, wrap_nat i (by omega)]
        · cases partOk P[i] with
          | true => simp only [if_true, Bool.true_and]; exact ih (i + 1) (by omega)
          | false => simp only [Bool.false_eq_true, if_false, Bool.false_and]; exact Ev.now _
    have := key P.length 0 (by omega)
    rw [List.drop_zero] at this
    exact this
theorem l3Low_eq (c : Int) : spec_l3Low.f c = some (lowByte c) := by
  unfold spec_l3Low.f spec_l1Digit.f lowByte
  by_cases h1 : c ≥ 48 <;> by_cases h2 : c ≤ 57 <;> by_cases h3 : c ≥ 97 <;> by_cases h4 : c ≤ 122 <;> simp [h1, h2, h3, h4] <;> omega
theorem spec_tag_loop (s : ByteArray) (hs : s.size ≤ 140737488351232) (d : Nat) : ∀ i : Nat, i + d = s.size → Ev (fun k => spec_TagOk.l0 k s (i : Int)) (((bytesOf s).drop i).all tagByte) := by
  induction d with
  | zero =>
    intro i hi
    rw [List.drop_eq_nil_of_le (by rw [bytesOf_length]; omega)]
    refine Ev.step (f := fun _ => some true) (fun k => ?_) (Ev.now _)
    simp only [spec_TagOk.l0]; rw [if_neg (by omega)]
  | succ d ih =>
    intro i hi
    have hlt : i < s.size := by omega
    rw [drop_bytes s i hlt]
    refine Ev.step (f := fun k => if tagByte (bt s i) = true then spec_TagOk.l0 k s ((i + 1 : Nat) : Int) else some false) (fun k => ?_) ?_
    · simp only [spec_TagOk.l0]; rw [if_pos (by omega), if_pos (by omega), l3Low_eq]; simp only [Option.bind_some]
      rw [wrap_succ i _ hlt hs]; exact tag_ifs _ _ _
    · by_cases h : tagByte (bt s i) = true
      · simp only [if_pos h, List.all_cons, h, Bool.true_and]; exact ih (i + 1) (by omega)
      · simp only [if_neg h, List.all_cons, h, Bool.false_and]; exact Ev.now _
theorem spec_tag (s : ByteArray) (hs : s.size ≤ 140737488351232) : Ev (fun k => spec_TagOk.f k s) (tagOk s) := by
  have j1 : ∀ b : Bool, Ev (fun k => spec_TagOk.j0 k s b) (if b = true then false else (bytesOf s).all tagByte) := by
    intro b
    refine Ev.step (f := fun k => if b = true then some false else spec_TagOk.l0 k s 0) (fun k => by simp only [spec_TagOk.j0]) ?_
    cases b with
    | true => exact Ev.now _
    | false => exact spec_tag_loop s hs s.size 0 (by omega)
  unfold spec_TagOk.f tagOk
  by_cases h1 : (s.size : Int) < 1
  · simp only [if_pos h1, show ¬ (1 ≤ s.size) by omega, decide_false, Bool.false_and]; exact j1 true
  · simp only [if_neg h1, show (1 ≤ s.size) by omega, decide_true, Bool.true_and]
    by_cases h2 : (s.size : Int) > 128
    · simp only [if_pos h2, show ¬ (s.size ≤ 128) by omega, decide_false, Bool.false_and]; exact j1 true
    · simp only [if_neg h2, show (s.size ≤ 128) by omega, decide_true, Bool.true_and, show 0 < (s.size : Int) by omega, if_true]
      by_cases h3 : bt s 0 = 46
      · simp only [if_pos h3, h3, beq_self_eq_true, Bool.not_true, Bool.false_and]; exact j1 true
      · simp only [if_neg h3, show (bt s 0 == 46) = false by simpa using h3, Bool.not_false, Bool.true_and]
        have := j1 (bt s 0 == 45)
        by_cases h4 : (bt s 0 == 45) = true
        · simpa [h4] using this
        · simpa [h4] using this
theorem wordByte_eq (c : Int) : impl_isWordByte.f c = some (lowByte c) := by
  unfold impl_isWordByte.f lowByte
  by_cases h1 : c ≥ 48 <;> by_cases h2 : c ≤ 57 <;> by_cases h3 : c ≥ 97 <;> by_cases h4 : c ≤ 122 <;> simp [h1, h2, h3, h4] <;> omega
theorem impl_tag_loop (s : ByteArray) (hs : s.size ≤ 140737488351232) (d : Nat) : ∀ i : Nat, i + d = s.size → Ev (fun k => impl_isTag.l0 k s (s.size : Int) (i : Int)) (((bytesOf s).drop i).all tagByte) := by
  induction d with
  | zero =>
    intro i hi
    rw [List.drop_eq_nil_of_le (by rw [bytesOf_length]; omega)]
    refine Ev.step (f := fun _ => some true) (fun k => ?_) (Ev.now _)
    simp only [impl_isTag.l0]; rw [if_neg (by omega)]
  | succ d ih =>
    intro i hi
    have hlt : i < s.size := by omega
    rw [drop_bytes s i hlt]
    refine Ev.step (f := fun k => if tagByte (bt s i) = true then impl_isTag.l0 k s (s.size : Int) ((i + 1 : Nat) : Int) else some false) (fun k => ?_) ?_
    · simp only [impl_isTag.l0]; rw [if_pos (by omega), if_pos (by omega), if_pos (by omega), wordByte_eq]; simp only [Option.bind_some]
      rw [wrap_succ i _ hlt hs]; exact tag_ifs _ _ _
    · by_cases h : tagByte (bt s i) = true
      · simp only [if_pos h, List.all_cons, h, Bool.true_and]; exact ih (i + 1) (by omega)
      · simp only [if_neg h, List.all_cons, h, Bool.false_and]; exact Ev.now _
theorem impl_tag (s : ByteArray) (hs : s.size ≤ 140737488351232) : Ev (fun k => impl_isTag.f k s) (tagOk s) := by
  have j1 : ∀ b : Bool, Ev (fun k => impl_isTag.j0 k s b) (if b = true then false else (bytesOf s).all tagByte) := by
    intro b
    refine Ev.step (f := fun k => if b = true then some false else impl_isTag.l0 k s (s.size : Int) 0) (fun k => by simp only [impl_isTag.j0]) ?_
    cases b with
    | true => exact Ev.now _
    | false => exact impl_tag_loop s hs s.size 0 (by omega)
  unfold impl_isTag.f tagOk
  by_cases h1 : (s.size : Int) < 1
  · simp only [if_pos h1, show ¬ (1 ≤ s.size) by omega, decide_false, Bool.false_and]; exact j1 true
  · simp only [if_neg h1, show (1 ≤ s.size) by omega, decide_true, Bool.true_and]
    by_cases h2 : (s.size : Int) > 128
    · simp only [if_pos h2, show ¬ (s.size ≤ 128) by omega, decide_false, Bool.false_and]; exact j1 true
    · simp only [if_neg h2, show (s.size ≤ 128) by omega, decide_true, Bool.true_and, show 0 < (s.size : Int) by omega, if_true]
      by_cases h3 : bt s 0 = 46
      · simp only [if_pos h3, h3, beq_self_eq_true, Bool.not_true, Bool.false_and]; exact j1 true
      · simp only [if_neg h3, show (bt s 0 == 46) = false by simpa using h3, Bool.not_false, Bool.true_and]
        have := j1 (bt s 0 == 45)
        by_cases h4 : (bt s 0 == 45) = true
        · simpa [h4] using this
        · simpa [h4] using this
theorem l1Digit_eq (c : Int) : spec_l1Digit.f c = some (decide (48 ≤ c ∧ c ≤ 57)) := by
  unfold spec_l1Digit.f
  by_cases h1 : c ≥ 48 <;> by_cases h2 : c ≤ 57 <;> simp [h1, h2] <;> omega
theorem l1Hexit_eq (c : Int) (h0 : 0 ≤ c) (h1 : c ≤ 255) : spec_l1Hexit.f c = some (hexV c) := by
  unfold spec_l1Hexit.f
  rw [l1Digit_eq]
  simp only [Option.bind_some, decide_eq_true_eq, hexV]
  repeat' split
  all_goals first | rfl | (exfalso; omega) | (congr 1; omega)
theorem spec_dig_loop (s : ByteArray) (hs : s.size = 71) (d : Nat) : ∀ i : Nat, i + d = 71 → Ev (fun k => spec_DigestOk.l0 k s (i : Int)) (((bytesOf s).drop i).all hexB) := by
  induction d with
  | zero =>
    intro i hi
    rw [List.drop_eq_nil_of_le (by rw [bytesOf_length]; omega)]
    refine Ev.step (f := fun _ => some true) (fun k => ?_) (Ev.now _)
    simp only [spec_DigestOk.l0]; rw [if_neg (by omega)]
  | succ d ih =>
    intro i hi
    have hlt : i < s.size := by omega
    rw [drop_bytes s i hlt]
    have hb := bt_range s i
    refine Ev.step (f := fun k => if hexV (bt s i) < 0 then some false else spec_DigestOk.l0 k s ((i + 1 : Nat) : Int)) (fun k => ?_) ?_
    · simp only [spec_DigestOk.l0]; rw [if_pos (by omega), if_pos (by omega), if_pos (by omega), l1Hexit_eq _ hb.1 hb.2]; simp only [Option.bind_some]
      rw [wrap_succ i _ hlt (by omega)]
    · by_cases h : hexB (bt s i) = true
      · have hn : ¬ hexV (bt s i) < 0 := by rw [hexV_neg]; exact fun hh => hh h
        simp only [if_neg hn, List.all_cons, h, Bool.true_and]; exact ih (i + 1) (by omega)
      · have hn : hexV (bt s i) < 0 := by rw [hexV_neg]; exact h
        simp only [if_pos hn, List.all_cons, h, Bool.false_and]; exact Ev.now _
theorem spec_dig (s : ByteArray) : Ev (fun k => spec_DigestOk.f k s) (digestOk s) := by
  unfold spec_DigestOk.f digestOk
  by_cases h1 : (s.size : Int) = 71
  · have hs : s.size = 71 := by omega
    simp only [if_pos h1, show decide (s.size = 71) = true from decide_eq_true hs, Bool.true_and, show (0 : Nat) ≤ 7 by omega, show (7 : Int) ≤ (s.size : Int) by omega, if_true]
    refine Ev.step (f := fun k => if ((s.extract 0 7).toList != ([115, 104, 97, 50, 53, 54, 58] : List UInt8)) = true then some false else spec_DigestOk.l0 k s 7) (fun k => by simp only [spec_DigestOk.j0]) ?_
    cases h : ((s.extract 0 7).toList == digHead) with
    | true =>
      have h' : ((s.extract 0 7).toList != ([115, 104, 97, 50, 53, 54, 58] : List UInt8)) = false := by
        show (!((s.extract 0 7).toList == digHead)) = false; rw [h]; rfl
      simp only [h', Bool.false_eq_true, if_false, Bool.true_and]
      exact spec_dig_loop s hs 64 7 rfl
    | false =>
      have h' : ((s.extract 0 7).toList != ([115, 104, 97, 50, 53, 54, 58] : List UInt8)) = true := by
        show (!((s.extract 0 7).toList == digHead)) = true; rw [h]; rfl
      simp only [h', if_true, Bool.false_and]
      exact Ev.now _
  · have hs : ¬ s.size = 71 := by omega
    simp only [if_neg h1, hs, decide_false, Bool.false_and]
    refine Ev.step (f := fun k => some false) (fun k => by simp only [spec_DigestOk.j0, if_true]) (Ev.now _)
theorem head_size : (⟨#[115, 104, 97, 50, 53, 54, 58]⟩ : ByteArray).size = 7 := rfl
theorem head_list : (⟨#[115, 104, 97, 50, 53, 54, 58]⟩ : ByteArray).toList = digHead := toL _
theorem cutHead (s : ByteArray) : strings_CutPrefix.f s (⟨#[115, 104, 97, 50, 53, 54, 58]⟩ : ByteArray) = some (if (decide (7 ≤ s.size) && ((s.extract 0 7).toList == digHead)) = true then (s.extract 7 s.size, true) else (s, false)) := by
  unfold strings_CutPrefix.f stringslite_CutPrefix.f stringslite_HasPrefix.f
  rw [head_size, head_list]
  by_cases h : 7 ≤ s.size
  · have h2 : (s.size : Int) ≥ ((7 : Nat) : Int) := by omega
    simp only [if_pos h2, show (0 : Int) ≤ ((7 : Nat) : Int) by omega, show ((7 : Nat) : Int) ≤ (s.size : Int) from h2, if_true, Option.bind_some, h, decide_true, Bool.true_and, Int.toNat_natCast]
    cases hh : ((s.extract 0 7).toList == digHead) <;> simp
  · have h2 : ¬ (s.size : Int) ≥ ((7 : Nat) : Int) := by omega
    simp only [if_neg h2, Option.bind_some, h, decide_false, Bool.false_and, Bool.false_eq_true, if_false]
theorem trimHex (s : ByteArray) (hs : s.size ≤ 140737488351232) : ∃ t, strings_Trim.f s (⟨#[48, 49, 50, 51, 52, 53, 54, 55, 56, 57, 97, 98, 99, 100, 101, 102]⟩ : ByteArray) = some t ∧ (t.toList == ([] : List UInt8)) = (bytesOf s).all hexB := by
  unfold strings_Trim.f
  refine ⟨_, if_pos ⟨by omega, by decide, by decide⟩, ?_⟩
  rw [toL]
  show (Lib.trimS s.data.toList hexSet == []) = _
  rw [trimS_nil]
  have := all_bytes s hexB 0
  rw [List.drop_zero, List.drop_zero] at this
  rw [this]
  congr 1; funext b; exact hexSet_is b
theorem impl_dig (s : ByteArray) (hs : s.size ≤ 140737488351232) : impl_isDigest.f s = some (digestOk s) := by
  unfold impl_isDigest.f
  rw [cutHead]
  simp only [Option.bind_some]
  unfold digestOk
  by_cases h71 : s.size = 71
  · cases hh : ((s.extract 0 7).toList == digHead) with
    | true =>
      have hx : (s.extract 7 s.size).size = 64 := by rw [ByteArray.size_extract]; omega
      obtain ⟨t, ht, he⟩ := trimHex (s.extract 7 s.size) (by omega)
      rw [h71] at hx ht he ⊢
      simp only [show (7 : Nat) ≤ 71 by omega, decide_true, Bool.true_and, if_true, hx, show ((64 : Nat) : Int) = 64 from rfl, ht, Option.bind_some, he]
      rw [show (bytesOf (s.extract 7 71)) = (bytesOf s).drop 7 by
        simp only [bytesOf, extract_data, List.map_take, List.map_drop]
        rw [List.take_of_length_le]
        simp only [List.length_drop, List.length_map, Array.length_toList]
        have : s.data.size = 71 := h71
        omega]
    | false => simp
  · simp only [h71, decide_false, Bool.false_and]
    cases hh : (decide (7 ≤ s.size) && ((s.extract 0 7).toList == digHead)) with
    | true =>
      have h7 : 7 ≤ s.size := by simp only [Bool.and_eq_true, decide_eq_true_eq] at hh; exact hh.1
      have hx : ¬ ((s.extract 7 s.size).size : Int) = 64 := by rw [ByteArray.size_extract]; omega
      simp only [if_true, if_neg hx]
    | false => simp
def refOk (r t d : ByteArray) : Bool := repoOk r && ((t.toList == ([] : List UInt8) || tagOk t) && (d.toList == ([] : List UInt8) || digestOk d))
def refText (r t d : ByteArray) : ByteArray := if t.toList = ([] : List UInt8) then (if d.toList = ([] : List UInt8) then r else r ++ ((⟨#[64]⟩ : ByteArray) ++ d)) else (if d.toList = ([] : List UInt8) then r ++ ((⟨#[58]⟩ : ByteArray) ++ t) else (r ++ ((⟨#[58]⟩ : ByteArray) ++ t)) ++ ((⟨#[64]⟩ : ByteArray) ++ d))
def writeRef (r t d : ByteArray) : ByteArray := if refOk r t d = true then refText r t d else ⟨#[]⟩
theorem spec_ref (r t d : ByteArray) (hr : r.size ≤ 1048576) (ht : t.size ≤ 1048576) (hd : d.size ≤ 1048576) : Ev (fun k => spec_l3Ref.f k r t d) (refOk r t d) := by
  unfold spec_l3Ref.f refOk
  refine Ev.bind (spec_repo r (by omega)) ?_
  cases repoOk r with
  | false => simp only [Bool.false_eq_true, if_false, Bool.false_and]; exact Ev.now _
  | true =>
    simp only [if_true, Bool.true_and]
    by_cases h1 : t.toList = []
    · simp only [if_pos h1, beq_iff_eq.2 h1, Bool.true_or, Bool.true_and]
      by_cases h2 : d.toList = []
      · simp only [if_pos h2, beq_iff_eq.2 h2, Bool.true_or]; exact Ev.now _
      · simp only [if_neg h2, beq_eq_false_iff_ne.2 h2, Bool.false_or]; exact Ev.bind (spec_dig d) (Ev.now _)
    · simp only [if_neg h1, beq_eq_false_iff_ne.2 h1, Bool.false_or]
      refine Ev.bind (spec_tag t (by omega)) ?_
      cases tagOk t with
      | false => simp only [Bool.false_eq_true, if_false, Bool.false_and]; exact Ev.now _
      | true =>
        simp only [if_true, Bool.true_and]
        by_cases h2 : d.toList = []
        · simp only [if_pos h2, beq_iff_eq.2 h2, Bool.true_or]; exact Ev.now _
        · simp only [if_neg h2, beq_eq_false_iff_ne.2 h2, Bool.false_or]; exact Ev.bind (spec_dig d) (Ev.now _)
theorem spec_writeR (r t d : ByteArray) (hr : r.size ≤ 1048576) (ht : t.size ≤ 1048576) (hd : d.size ≤ 1048576) : Ev (fun k => spec_WriteRef.f k r t d) (writeRef r t d) := by
  unfold spec_WriteRef.f writeRef
  refine Ev.bind (spec_ref r t d hr ht hd) ?_
  cases refOk r t d with
  | false => simp only [Bool.false_eq_true, if_false]; exact Ev.now _
  | true =>
    simp only [if_true]
    unfold refText
    simp only [if_pos (show r.size + 1 ≤ 9223372036854775807 by omega), if_pos (show r.size + 1 + d.size ≤ 9223372036854775807 by omega), if_pos (show r.size + 1 + t.size ≤ 9223372036854775807 by omega), if_pos (show r.size + 1 + t.size + 1 ≤ 9223372036854775807 by omega), if_pos (show r.size + 1 + t.size + 1 + d.size ≤ 9223372036854775807 by omega)]
    by_cases h1 : t.toList = []
    · by_cases h2 : d.toList = []
      · simp only [if_pos h1, if_pos h2]; exact Ev.now _
      · simp only [if_pos h1, if_neg h2, ByteArray.append_assoc]; exact Ev.now _
    · by_cases h2 : d.toList = []
      · simp only [if_neg h1, if_pos h2, ByteArray.append_assoc]; exact Ev.now _
      · simp only [if_neg h1, if_neg h2, ByteArray.append_assoc]; exact Ev.now _
theorem impl_writeR (r t d : ByteArray) (hr : r.size ≤ 1048576) (ht : t.size ≤ 1048576) (hd : d.size ≤ 1048576) : Ev (fun k => impl_WriteRef.f k r t d) (writeRef r t d) := by
  have j0 : ∀ b : Bool, Ev (fun k => impl_WriteRef.j0 k b r t d) (if b = true then ⟨#[]⟩ else refText r t d) := by
    intro b
    cases b with
    | true => exact Ev.step (f := fun _ => some ⟨#[]⟩) (fun k => by simp only [impl_WriteRef.j0, if_true]) (Ev.now _)
    | false =>
      refine Ev.step (f := fun _ => some (refText r t d)) (fun k => ?_) (Ev.now _)
      unfold refText
      simp only [impl_WriteRef.j0, Bool.false_eq_true, if_false]
      simp only [if_pos (show 1 + d.size ≤ 9223372036854775807 by omega), if_pos (show 1 + t.size ≤ 9223372036854775807 by omega), if_pos (show r.size + 1 + d.size ≤ 9223372036854775807 by omega), if_pos (show r.size + 1 + t.size ≤ 9223372036854775807 by omega), if_pos (show r.size + (1 + t.size) + 1 + d.size ≤ 9223372036854775807 by omega)]
      by_cases h1 : t.toList = []
      · by_cases h2 : d.toList = []
        · simp only [if_pos h1, if_pos h2]
        · simp only [if_pos h1, if_neg h2]
      · by_cases h2 : d.toList = []
        · simp only [if_neg h1, if_pos h2]
        · simp only [if_neg h1, if_neg h2]
  unfold impl_WriteRef.f writeRef refOk
  refine Ev.bind (impl_repo r (by omega)) ?_
  cases repoOk r with
  | false => simp only [Bool.false_eq_true, if_false, Bool.false_and]; exact j0 true
  | true =>
    simp only [if_true, Bool.true_and]
    by_cases h1 : t.toList = []
    · simp only [if_pos h1, beq_iff_eq.2 h1, Bool.true_or, Bool.true_and]
      by_cases h2 : d.toList = []
      · simp only [if_pos h2, beq_iff_eq.2 h2, Bool.true_or, if_true]; exact j0 false
      · simp only [if_neg h2, beq_eq_false_iff_ne.2 h2, Bool.false_or]
        refine Ev.bind (Ev.is (impl_dig d (by omega))) ?_
        cases digestOk d with
        | true => simp only [Bool.not_true, if_true]; exact j0 false
        | false => simp only [Bool.not_false, Bool.false_eq_true, if_false]; exact j0 true
    · simp only [if_neg h1, beq_eq_false_iff_ne.2 h1, Bool.false_or]
      refine Ev.bind (impl_tag t (by omega)) ?_
      cases tagOk t with
      | false => simp only [Bool.false_eq_true, if_false, Bool.false_and]; exact j0 true
      | true =>
        simp only [if_true, Bool.true_and]
        by_cases h2 : d.toList = []
        · simp only [if_pos h2, beq_iff_eq.2 h2, Bool.true_or, if_true]; exact j0 false
        · simp only [if_neg h2, beq_eq_false_iff_ne.2 h2, Bool.false_or]
          refine Ev.bind (Ev.is (impl_dig d (by omega))) ?_
          cases digestOk d with
          | true => simp only [Bool.not_true, if_true]; exact j0 false
          | false => simp only [Bool.not_false, Bool.false_eq_true, if_false]; exact j0 true
theorem szR_ok (r t d : ByteArray) (hr : r.size ≤ maxLen) (ht : t.size ≤ maxLen) (hd : d.size ≤ maxLen) : ∃ z, laws_szRef.f r t d 1048576 = some z ∧ (0 ≤ z → r.size ≤ 1048576 ∧ t.size ≤ 1048576 ∧ d.size ≤ 1048576) := by
  unfold maxLen at hr ht hd
  unfold laws_szRef.f
  have e1 : wrap64 (1048576 - (r.size : Int)) = 1048576 - (r.size : Int) := by unfold wrap64; omega
  rw [e1]
  by_cases g1 : 1048576 - (r.size : Int) < 0
  · exact ⟨-1, by rw [if_pos g1], fun h => absurd h (by omega)⟩
  · rw [if_neg g1]
    have e2 : wrap64 (1048576 - (r.size : Int) - (t.size : Int)) = 1048576 - (r.size : Int) - (t.size : Int) := by unfold wrap64; omega
    rw [e2]
    by_cases g2 : 1048576 - (r.size : Int) - (t.size : Int) < 0
    · exact ⟨-1, by rw [if_pos g2], fun h => absurd h (by omega)⟩
    · rw [if_neg g2]
      have e3 : wrap64 (1048576 - (r.size : Int) - (t.size : Int) - (d.size : Int)) = 1048576 - (r.size : Int) - (t.size : Int) - (d.size : Int) := by unfold wrap64; omega
      rw [e3]
      by_cases g3 : 1048576 - (r.size : Int) - (t.size : Int) - (d.size : Int) < 0
      · exact ⟨-1, by rw [if_pos g3], fun h => absurd h (by omega)⟩
      · exact ⟨_, by rw [if_neg g3], fun _ => ⟨by omega, by omega, by omega⟩⟩
end WriteRefOf
open WriteRefOf

theorem FnExactWriteRef : laws_FnExactWriteRef.Pure := by
  intro r t d hr ht hd
  refine Ev.rounds (g := fun k => laws_FnExactWriteRef.f k r t d) ?_
  unfold laws_FnExactWriteRef.f
  obtain ⟨z, hz, h2⟩ := szR_ok r t d hr ht hd
  refine Ev.bind (Ev.is hz) ?_
  by_cases h0 : z < 0
  · simp only [if_pos h0]; exact Ev.now _
  simp only [if_neg h0]
  obtain ⟨h3, h4, h5⟩ := h2 (by omega)
  refine Ev.bind (Ev.now (r, t, d)) (Ev.bind (spec_writeR r t d h3 h4 h5) (Ev.bind (Ev.now (r, t, d)) (Ev.bind (impl_writeR r t d h3 h4 h5) ?_)))
  simp only [if_true]
  exact Ev.now _

end Go.Proofs.YtldpdaifajjaeaaDoor.Pure
