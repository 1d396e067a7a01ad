import Derived.Test.YtoeomljkhabifaaDoorLoopsFnDiff
import Derived.Test.YtoeomljkhabifaaDoorDigFnDiff
/-! Sets of digests: the plain side. -/
namespace Go.Proofs.YtoeomljkhabifaaDoor.SetOf
open Go.RowKit Go.Proofs.YtoeomljkhabifaaDoorW.PrintWords Go.Proofs.YtoeomljkhabifaaDoorW.PrintLast Go.Proofs.YtoeomljkhabifaaDoorW.PrintMore Go.Proofs.YtoeomljkhabifaaDoor.Bits Go.Proofs.YtoeomljkhabifaaDoor.Num Go.Proofs.YtoeomljkhabifaaDoor.Dig Go.Proofs.YtoeomljkhabifaaDoor.Loops
set_option linter.unusedSimpArgs false
set_option linter.unusedVariables false

/-- One text stands ahead of the other. -/
def less (a b : ByteArray) : Bool := Op.bytesLess a.toList b.toList
def atS (l : List ByteArray) (i : Nat) : ByteArray := l.getD i ByteArray.empty
theorem atS_is (l : List ByteArray) (i : Nat) (h : i < l.length) : atS l i = l[i] := by
  rw [atS, List.getD_eq_getElem?_getD, List.getElem?_eq_getElem h]; rfl
/-- Rising digests, at most 200. -/
def setOk (l : List ByteArray) : Bool := ((List.range l.length).all fun i => digestOk (atS l i) && (decide (i = 0) || less (atS l (i - 1)) (atS l i))) && decide (l.length ≤ 200)
def risesM (l : List ByteArray) : Bool := (List.range (l.length - 1)).all fun i => less (atS l i) (atS l (i + 1))
theorem setOk_is (l : List ByteArray) : setOk l = (decide (l.length ≤ 200) && (risesM l && (List.range l.length).all fun i => digestOk (atS l i))) := by
  rw [Bool.eq_iff_iff]
  simp only [setOk, risesM, Bool.and_eq_true, List.all_eq_true, List.mem_range, decide_eq_true_eq, Bool.or_eq_true]
  constructor
  · rintro ⟨h, hl⟩
    refine ⟨hl, fun i hi => ?_, fun i hi => (h i hi).1⟩
    have := (h (i + 1) (by omega)).2
    rw [Nat.add_sub_cancel] at this
    rcases this with h0 | h0
    · omega
    · exact h0
  · rintro ⟨hl, hr, hd⟩
    refine ⟨fun i hi => ⟨hd i hi, ?_⟩, hl⟩
    cases i with
    | zero => exact .inl rfl
    | succ j => right; rw [Nat.add_sub_cancel]; exact hr j (by omega)
theorem setOk_len {l : List ByteArray} (h : setOk l = true) : l.length ≤ 200 := by
  simp only [setOk, Bool.and_eq_true, decide_eq_true_eq] at h; exact h.2
theorem setOk_dig {l : List ByteArray} (h : setOk l = true) : ∀ d ∈ l, digestOk d = true := by
  simp only [setOk, Bool.and_eq_true, decide_eq_true_eq, List.all_eq_true, List.mem_range] at h
  intro d hd
  obtain ⟨i, hi, rfl⟩ := List.getElem_of_mem hd
  have := (h.1 i hi).1
  rwa [atS_is l i hi] at this
/-- A prefix: at most two digits. -/
def prefOk (p : ByteArray) : Bool := decide (p.size ≤ 2) && (bytesOf p).all hexB
theorem prefOk_size {p : ByteArray} (h : prefOk p = true) : p.size ≤ 2 := by
  simp only [prefOk, Bool.and_eq_true, decide_eq_true_eq] at h; exact h.1
/-- What of a set begins with a prefix. -/
def startsB (p d : ByteArray) : Bool := (d.extract 7 (7 + p.size)).toList == p.toList
def underM (l : List ByteArray) (p : ByteArray) : List ByteArray := l.filter (startsB p)
theorem underM_len (l : List ByteArray) (p : ByteArray) : (underM l p).length ≤ l.length := List.length_filter_le _ _
theorem filter_take_succ (f : ByteArray → Bool) (l : List ByteArray) (i : Nat) (h : i < l.length) : (l.take (i + 1)).filter f = if f l[i] = true then (l.take i).filter f ++ [l[i]] else (l.take i).filter f := by
  rw [List.take_succ_eq_append_getElem h, List.filter_append]
  by_cases hf : f l[i] = true
  · rw [if_pos hf]; simp [hf]
  · rw [if_neg hf]; simp [hf]
/-- To begin with the head and the prefix. -/
theorem head_starts (d p : ByteArray) (hd : digestOk d = true) (hp : p.size ≤ 2) : ((d.extract 0 (7 + p.size)).toList == ((⟨#[115, 104, 97, 50, 53, 54, 58]⟩ : ByteArray) ++ p).toList) = startsB p d := by
  have hs := digestOk_size hd
  simp only [digestOk, Bool.and_eq_true, decide_eq_true_eq, beq_iff_eq] at hd
  have hh := hd.2.1
  rw [toL, extract_data, List.drop_zero, Nat.sub_zero] at hh
  unfold startsB
  rw [toL, toL, toL, toL, extract_data, extract_data, List.drop_zero, Nat.sub_zero, Nat.add_sub_cancel_left]
  rw [show d.data.toList.take (7 + p.size) = d.data.toList.take 7 ++ (d.data.toList.drop 7).take p.size from List.take_add, hh]
  rw [show ((⟨#[115, 104, 97, 50, 53, 54, 58]⟩ : ByteArray) ++ p).data.toList = digHead ++ p.data.toList by
    rw [ByteArray.data_append]; simp [digHead]]
  rw [Bool.eq_iff_iff, beq_iff_eq, beq_iff_eq]
  exact ⟨fun h => List.append_cancel_left h, fun h => by rw [h]⟩
end Go.Proofs.YtoeomljkhabifaaDoor.SetOf
