import Derived.Lib.SplitLaws
import Derived.Test.YtldpdaifajjaeaaDoorLoopsFnRefs
import Derived.Test.YtldpdaifajjaeaaDoorDigFnRefs
/-! The pieces of a text between marks: the plain side. -/
namespace Go.Proofs.YtldpdaifajjaeaaDoor.Pieces
open Go.RowKit Go.Proofs.YtldpdaifajjaeaaDoorW.PrintWords Go.Proofs.YtldpdaifajjaeaaDoorW.PrintLast Go.Proofs.YtldpdaifajjaeaaDoorW.PrintMore Go.Proofs.YtldpdaifajjaeaaDoor.Bits Go.Proofs.YtldpdaifajjaeaaDoor.Num Go.Proofs.YtldpdaifajjaeaaDoor.Dig Go.Proofs.YtldpdaifajjaeaaDoor.Loops
set_option linter.unusedSimpArgs false
set_option linter.unusedVariables false

/-- A text ahead of the first piece. -/
def addH (p : List UInt8) : List (List UInt8) → List (List UInt8)
  | [] => [p]
  | q :: qs => (p ++ q) :: qs
def cutL (c : UInt8) : List UInt8 → List (List UInt8)
  | [] => [[]]
  | b :: l => if b = c then [] :: cutL c l else addH [b] (cutL c l)
theorem addH_ne (p : List UInt8) (L : List (List UInt8)) : addH p L ≠ [] := by cases L <;> simp [addH]
theorem cutL_ne (c : UInt8) (l : List UInt8) : cutL c l ≠ [] := by
  cases l with
  | nil => simp [cutL]
  | cons b l =>
    rw [cutL]
    split
    · simp
    · exact addH_ne _ _
theorem addH_nil (L : List (List UInt8)) (h : L ≠ []) : addH [] L = L := by
  cases L with
  | nil => exact absurd rfl h
  | cons q qs => simp [addH]
theorem addH_addH (p q : List UInt8) (L : List (List UInt8)) : addH p (addH q L) = addH (p ++ q) L := by
  cases L <;> simp [addH]
theorem addH_snoc (p : List UInt8) (L : List (List UInt8)) (x : List UInt8) (h : L ≠ []) : addH p (L ++ [x]) = addH p L ++ [x] := by
  cases L with
  | nil => exact absurd rfl h
  | cons q qs => simp [addH]
theorem cutL_snoc (c : UInt8) (l : List UInt8) : cutL c (l ++ [c]) = cutL c l ++ [[]] := by
  induction l with
  | nil => simp [cutL]
  | cons b l ih =>
    rw [List.cons_append, cutL, cutL, ih]
    split
    · rfl
    · exact addH_snoc _ _ _ (cutL_ne c l)
theorem cutL_last (c : UInt8) (b : UInt8) (hb : b ≠ c) (l : List UInt8) : ∃ ps p, cutL c (l ++ [b]) = ps ++ [p] ∧ p ≠ [] := by
  induction l with
  | nil => exact ⟨[], [b], by simp [cutL, hb, addH], by simp⟩
  | cons x l ih =>
    obtain ⟨ps, p, h1, h2⟩ := ih
    rw [List.cons_append, cutL, h1]
    split
    · exact ⟨[] :: ps, p, rfl, h2⟩
    · cases ps with
      | nil => exact ⟨[], x :: p, rfl, by simp⟩
      | cons q qs => exact ⟨([x] ++ q) :: qs, p, rfl, h2⟩
theorem addH_all (n : Nat) (p : List UInt8) (L : List (List UInt8)) (hp : p.length + n ≤ p.length + n) (h : ∀ q ∈ L, q.length ≤ n) : ∀ q ∈ addH p L, q.length ≤ p.length + n := by
  cases L with
  | nil => intro q hq; simp [addH] at hq; subst hq; omega
  | cons a L =>
    intro q hq
    simp only [addH, List.mem_cons] at hq
    rcases hq with rfl | hq
    · have := h a List.mem_cons_self; simp; omega
    · have := h q (List.mem_cons_of_mem _ hq); omega
theorem cutL_size (c : UInt8) (l : List UInt8) : ∀ q ∈ cutL c l, q.length ≤ l.length := by
  induction l with
  | nil => intro q hq; simp [cutL] at hq; subst hq; simp
  | cons b l ih =>
    rw [cutL]
    split
    · intro q hq
      simp only [List.mem_cons] at hq
      rcases hq with rfl | hq
      · simp
      · have := ih q hq; simp; omega
    · intro q hq
      have := addH_all l.length [b] _ (Nat.le_refl _) ih q hq
      simp at this ⊢; omega
theorem addH_len (p : List UInt8) (L : List (List UInt8)) (h : L ≠ []) : (addH p L).length = L.length := by
  cases L with
  | nil => exact absurd rfl h
  | cons q qs => rfl
theorem cutL_len (c : UInt8) (l : List UInt8) : (cutL c l).length ≤ l.length + 1 := by
  induction l with
  | nil => simp [cutL]
  | cons b l ih =>
    rw [cutL]
    split
    · simp; omega
    · rw [addH_len _ _ (cutL_ne c l)]; simp; omega
def mkB (l : List UInt8) : ByteArray := ⟨l.toArray⟩
theorem mkB_data (s : ByteArray) : mkB s.data.toList = s := by
  obtain ⟨⟨l⟩⟩ := s
  rfl
theorem data_mkB (l : List UInt8) : (mkB l).data.toList = l := rfl
theorem mkB_size (l : List UInt8) : (mkB l).size = l.length := rfl
def pieces (c : UInt8) (s : ByteArray) : List ByteArray := (cutL c s.data.toList).map mkB
theorem size_list (s : ByteArray) : s.data.toList.length = s.size := Array.length_toList
theorem pieces_size (c : UInt8) (s : ByteArray) : ∀ x ∈ pieces c s, x.size ≤ s.size := by
  intro x hx
  simp only [pieces, List.mem_map] at hx
  obtain ⟨l, hl, rfl⟩ := hx
  have := cutL_size c _ l hl
  rw [size_list] at this
  exact this
theorem pieces_len (c : UInt8) (s : ByteArray) : (pieces c s).length ≤ s.size + 1 := by
  rw [pieces, List.length_map, ← size_list]
  exact cutL_len c _
theorem indexByte_cases (c : UInt8) : ∀ l : List UInt8, Lib.indexByte l c = -1 ∨ ∃ n : Nat, Lib.indexByte l c = n
  | [] => .inl rfl
  | b :: l => by
    rw [Lib.indexByte]
    split
    · exact .inr ⟨0, rfl⟩
    · rcases indexByte_cases c l with h | ⟨n, h⟩
      · left; rw [h]; rfl
      · right
        rw [h]
        exact ⟨n + 1, by rw [if_neg (by simp only [beq_iff_eq]; omega)]; rfl⟩
theorem splitK_cut (c : UInt8) : ∀ l : List UInt8, Lib.splitK [c] 0 (Lib.count l [c]) l = cutL c l
  | [] => by rw [Lib.count_one]; rfl
  | b :: l => by
    have ih := splitK_cut c l
    rw [Lib.count_one] at ih ⊢
    by_cases h : b = c
    · subst h
      have hix : Lib.index (b :: l) [b] = 0 := by rw [Lib.index_one]; simp [Lib.indexByte]
      rw [List.count_cons_self, Lib.splitK, cutL, if_pos rfl, hix]
      simp only [show ((0 : Int) == -1) = false from rfl, Bool.false_eq_true, if_false]
      simp [ih]
    · rw [List.count_cons_of_ne (by simpa using h), cutL, if_neg h, ← ih]
      cases hc : l.count c with
      | zero => simp [Lib.splitK, addH]
      | succ n =>
        rcases indexByte_cases c l with hm | ⟨m, hm⟩
        · have h0 : Lib.count l [c] = 0 := Lib.count_miss (by rw [Lib.index_one]; exact hm)
          rw [Lib.count_one] at h0
          omega
        · have hx : Lib.index (b :: l) [c] = ((m + 1 : Nat) : Int) := by
            rw [Lib.index_one, Lib.indexByte, if_neg (by simpa using h), hm, if_neg (by simp only [beq_iff_eq]; omega)]; rfl
          have hy : Lib.index l [c] = (m : Int) := by rw [Lib.index_one]; exact hm
          rw [Lib.splitK, Lib.splitK, hx, hy, if_neg (by simp only [beq_iff_eq]; omega), if_neg (by simp only [beq_iff_eq]; omega)]
          simp [addH]
theorem split_pieces (c : UInt8) (s : ByteArray) : Lib.splitB (⟨#[c]⟩ : ByteArray) 0 (Lib.countB s (⟨#[c]⟩ : ByteArray)) s = pieces c s := by
  have h := Lib.splitB_data (⟨#[c]⟩ : ByteArray) 0 (Lib.countB s (⟨#[c]⟩ : ByteArray)) s
  have h2 : (Lib.splitB (⟨#[c]⟩ : ByteArray) 0 (Lib.countB s (⟨#[c]⟩ : ByteArray)) s).map (·.data.toList) = cutL c s.data.toList := by
    rw [h]; exact splitK_cut c s.data.toList
  rw [pieces, ← h2, List.map_map]
  have e : (mkB ∘ fun x : ByteArray => x.data.toList) = id := by funext x; exact mkB_data x
  rw [e, List.map_id]
theorem bt_byte (s : ByteArray) (i : Nat) (h : i < s.size) : bt s (i : Int) = ((s.data.toList[i]'(by rw [size_list]; exact h)).toNat : Int) := by
  have h1 := drop_bytes s i h
  have h2 : (bytesOf s).drop i = (s.data.toList.drop i).map (fun b => (b.toNat : Int)) := by simp [bytesOf, List.map_drop]
  rw [h2, List.drop_eq_getElem_cons (by rw [size_list]; exact h), List.map_cons] at h1
  injection h1 with h1
  exact h1.symm
theorem byte_eq (a b : UInt8) : ((a.toNat : Int) = (b.toNat : Int)) ↔ a = b := ⟨fun h => UInt8.toNat_inj.1 (by omega), fun h => by rw [h]⟩
theorem extract_mkB (s : ByteArray) (a b : Nat) : s.extract a b = mkB ((s.data.toList.drop a).take (b - a)) := by rw [← extract_data, mkB_data]
end Go.Proofs.YtldpdaifajjaeaaDoor.Pieces
