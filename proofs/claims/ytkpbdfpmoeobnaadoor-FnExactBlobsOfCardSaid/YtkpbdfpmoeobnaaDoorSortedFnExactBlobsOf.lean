import Derived.Test.YtkpbdfpmoeobnaaDoorOrderFnExactBlobsOf
import Derived.Lib.SlicesCompact
/-! A list that is sorted, and of which like neighbours are struck, is the rising list of its texts: the plain side of slices.Sort and slices.Compact. -/
namespace Go.Proofs.YtkpbdfpmoeobnaaDoor.Sorted
open Go.RowKit Go.Proofs.YtkpbdfpmoeobnaaDoorW.PrintWords Go.Proofs.YtkpbdfpmoeobnaaDoorW.PrintLast Go.Proofs.YtkpbdfpmoeobnaaDoorW.PrintMore Go.Proofs.YtkpbdfpmoeobnaaDoor.Bits Go.Proofs.YtkpbdfpmoeobnaaDoor.Num Go.Proofs.YtkpbdfpmoeobnaaDoor.Loops Go.Proofs.YtkpbdfpmoeobnaaDoor.Dig Go.Proofs.YtkpbdfpmoeobnaaDoor.SetOf Go.Proofs.YtkpbdfpmoeobnaaDoor.Order
set_option linter.unusedSimpArgs false
set_option linter.unusedVariables false
theorem pw_unique {α : Type} {R : α → α → Prop} (hi : ∀ a, ¬ R a a) (ha : ∀ a b, R a b → ¬ R b a) : ∀ A B : List α, A.Pairwise R → B.Pairwise R → (∀ x, x ∈ A ↔ x ∈ B) → A = B
  | [], [], _, _, _ => rfl
  | [], b :: B, _, _, h => absurd ((h b).2 List.mem_cons_self) (by simp)
  | a :: A, [], _, _, h => absurd ((h a).1 List.mem_cons_self) (by simp)
  | a :: A, b :: B, hA, hB, h => by
    rw [List.pairwise_cons] at hA hB
    have e : a = b := by
      rcases List.mem_cons.1 ((h a).1 List.mem_cons_self) with e | e
      · exact e
      · rcases List.mem_cons.1 ((h b).2 List.mem_cons_self) with e2 | e2
        · exact e2.symm
        · exact absurd (hA.1 b e2) (ha _ _ (hB.1 a e))
    subst e
    rw [pw_unique hi ha A B hA.2 hB.2 fun x => ?_]
    constructor
    · intro hx
      rcases List.mem_cons.1 ((h x).1 (List.mem_cons_of_mem _ hx)) with e | e
      · exact absurd (e ▸ hA.1 x hx) (hi _)
      · exact e
    · intro hx
      rcases List.mem_cons.1 ((h x).2 (List.mem_cons_of_mem _ hx)) with e | e
      · exact absurd (e ▸ hB.1 x hx) (hi _)
      · exact e
abbrev Bs := List UInt8
theorem le_total' (a b : Bs) : (decide (a ≤ b) || decide (b ≤ a)) = true := by
  rcases List.le_total a b with h | h <;> simp [h]
theorem le_trans' (a b c : Bs) (h : decide (a ≤ b) = true) (k : decide (b ≤ c) = true) : decide (a ≤ c) = true := by
  simp only [decide_eq_true_eq] at *
  exact List.le_trans h k
/-- Sorted, and like neighbours struck. -/
def sortB (l : List Bs) : List Bs := Lib.compact (l.mergeSort fun x y => decide (x ≤ y))
theorem compact_pw (d : List Bs) (hd : d.Pairwise fun a b => a ≤ b) : (Lib.compact d).Pairwise fun a b => a < b := by
  unfold Lib.compact Lib.compactUpTo
  rw [List.pairwise_map]
  refine List.Pairwise.imp_of_mem ?_ (List.Pairwise.filter _ List.pairwise_lt_range)
  intro i j hi hj hij
  rw [List.mem_filter, List.mem_range] at hi hj
  have hk := hj.2
  have hjl : j < d.length := hj.1
  have e : ∀ q, q < d.length → d.toArray[q]! = d[q]! := fun q hq => by simp
  have g : ∀ q (hq : q < d.length), d[q]! = d[q] := fun q hq => getElem!_pos d q hq
  have hne : d[j]! ≠ d[j - 1]! := by
    intro hh
    have : Lib.keeps d.toArray j = false := Lib.keeps_neg (by omega) (by rw [e j hjl, e (j - 1) (by omega)]; exact hh)
    rw [this] at hk
    exact absurd hk (by decide)
  rw [e i (by omega), e j hjl]
  rw [List.pairwise_iff_getElem] at hd
  have h1 : d[j - 1]! ≤ d[j]! := by rw [g _ (by omega), g _ hjl]; exact hd _ _ (by omega) hjl (by omega)
  have h2 : d[i]! ≤ d[j - 1]! := by
    by_cases q : i = j - 1
    · rw [q]; exact List.le_refl _
    · rw [g _ (by omega), g _ (by omega)]; exact hd _ _ (by omega) (by omega) (by omega)
  exact List.lt_of_le_of_lt h2 (by
    rcases Classical.em (d[j - 1]! < d[j]!) with q | q
    · exact q
    · exact absurd (List.le_antisymm h1 (List.not_lt.1 q)).symm hne)
theorem compact_mem (d : List Bs) (x : Bs) : x ∈ Lib.compact d ↔ x ∈ d := by
  unfold Lib.compact Lib.compactUpTo
  have e : ∀ q, q < d.length → d.toArray[q]! = d[q]! := fun q hq => by simp
  have g : ∀ q (hq : q < d.length), d[q]! = d[q] := fun q hq => getElem!_pos d q hq
  constructor
  · intro h
    obtain ⟨j, hj, rfl⟩ := List.mem_map.1 h
    rw [List.mem_filter, List.mem_range] at hj
    have hjl : j < d.length := hj.1
    rw [e j hjl, g j hjl]
    exact List.getElem_mem hjl
  · intro h
    have key : ∀ n (j : Nat) (hj : j < d.length), j ≤ n → d[j] = x → ∃ i, (∃ hi : i < d.length, d[i] = x) ∧ Lib.keeps d.toArray i = true := by
      intro n
      induction n with
      | zero =>
        intro j hj hn hx
        obtain rfl : j = 0 := by omega
        exact ⟨0, ⟨hj, hx⟩, by simp [Lib.keeps]⟩
      | succ n ih =>
        intro j hj hn hx
        by_cases q : Lib.keeps d.toArray j = true
        · exact ⟨j, ⟨hj, hx⟩, q⟩
        · have h0 : j ≠ 0 := fun h0 => q (by subst h0; simp [Lib.keeps])
          have h1 : d.toArray[j]! = d.toArray[j - 1]! := Classical.byContradiction fun hne => q (Lib.keeps_pos hne)
          rw [e j hj, e (j - 1) (by omega), g j hj, g (j - 1) (by omega)] at h1
          exact ih (j - 1) (by omega) (by omega) (h1.symm.trans hx)
    obtain ⟨j, hj, hx⟩ := List.getElem_of_mem h
    obtain ⟨i, ⟨hi, hxi⟩, hk⟩ := key j j hj (Nat.le_refl _) hx
    refine List.mem_map.2 ⟨i, List.mem_filter.2 ⟨List.mem_range.2 hi, hk⟩, ?_⟩
    rw [e i hi, g i hi, hxi]
theorem sortB_pw (l : List Bs) : (sortB l).Pairwise fun a b => a < b := by
  refine compact_pw _ ?_
  have h := List.pairwise_mergeSort (le := fun x y : Bs => decide (x ≤ y)) le_trans' le_total' l
  exact h.imp fun h => by simpa using h
theorem sortB_mem (l : List Bs) (x : Bs) : x ∈ sortB l ↔ x ∈ l := by
  unfold sortB
  rw [compact_mem]
  exact (List.mergeSort_perm l _).mem_iff
/-- The texts of a list, sorted, each once. -/
def sortC (l : List ByteArray) : List ByteArray := (sortB (l.map fun s => s.data.toList)).map fun b => ⟨b.toArray⟩
theorem sortC_pw (l : List ByteArray) : (sortC l).Pairwise fun a b => less a b = true := by
  unfold sortC
  rw [List.pairwise_map]
  exact (sortB_pw _).imp fun h => by rw [less_iff]; simpa using h
theorem sortC_mem (l : List ByteArray) (x : ByteArray) : x ∈ sortC l ↔ x ∈ l := by
  unfold sortC
  rw [List.mem_map]
  constructor
  · rintro ⟨b, hb, rfl⟩
    rw [sortB_mem, List.mem_map] at hb
    obtain ⟨s, hs, rfl⟩ := hb
    have : (⟨s.data.toList.toArray⟩ : ByteArray) = s := by cases s; simp
    rw [this]; exact hs
  · intro h
    refine ⟨x.data.toList, (sortB_mem _ _).2 (List.mem_map.2 ⟨x, h, rfl⟩), ?_⟩
    cases x; simp
theorem mem_insM' (l : List ByteArray) (x y : ByteArray) (h : y ∈ l) : y ∈ insM l x := by
  unfold insM
  split
  · exact h
  · rw [← List.take_append_drop (placeM l x) l] at h
    rcases List.mem_append.1 h with h | h
    · exact List.mem_append_left _ h
    · exact List.mem_append_right _ (List.mem_cons_of_mem _ h)
theorem foldl_has (l : List ByteArray) : ∀ (acc : List ByteArray) (y : ByteArray), y ∈ acc ∨ y ∈ l → y ∈ l.foldl insM acc := by
  induction l with
  | nil => intro acc y h; simpa using h
  | cons a l ih =>
    intro acc y h
    rw [List.foldl_cons]
    refine ih _ _ ?_
    rcases h with h | h
    · exact .inl (mem_insM' _ _ _ h)
    · rcases List.mem_cons.1 h with e | e
      · exact .inl (e ▸ mem_insM acc a)
      · exact .inr e
theorem sortC_rise (l : List ByteArray) : sortC l = riseM l := by
  refine pw_unique (R := fun a b => less a b = true) less_irrefl (fun a b h k => less_irrefl a (less_trans h k)) _ _ (sortC_pw l) ((rising_pw _).1 (riseM_fold l [] rising_nil).1) (fun x => ?_)
  rw [sortC_mem]
  exact ⟨fun h => foldl_has l [] x (.inr h), riseM_mem⟩
end Go.Proofs.YtkpbdfpmoeobnaaDoor.Sorted
