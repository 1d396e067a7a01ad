import Derived.Sort.Walk0
import Derived.Test.YtifchnibhohnpaaDoorSetFnExactCutFrom
/-! Rising lists of texts: the plain side. -/
namespace Go.Proofs.YtifchnibhohnpaaDoor.Order
open Go.RowKit Go.Proofs.YtifchnibhohnpaaDoorW.PrintWords Go.Proofs.YtifchnibhohnpaaDoorW.PrintLast Go.Proofs.YtifchnibhohnpaaDoorW.PrintMore Go.Proofs.YtifchnibhohnpaaDoor.Bits Go.Proofs.YtifchnibhohnpaaDoor.Num Go.Proofs.YtifchnibhohnpaaDoor.Dig Go.Proofs.YtifchnibhohnpaaDoor.Loops Go.Proofs.YtifchnibhohnpaaDoor.SetOf
set_option linter.unusedSimpArgs false
set_option linter.unusedVariables false

instance decMem (x : ByteArray) (l : List ByteArray) : Decidable (x ∈ l) := decidable_of_iff (l.any (fun d => decide (d = x)) = true) (by simp)
theorem less_is (a b : ByteArray) : less a b = decide (a.data.toList < b.data.toList) := by
  unfold less; rw [Go.Proofs.bytesLess_eq, toL, toL]
theorem less_iff (a b : ByteArray) : less a b = true ↔ a.data.toList < b.data.toList := by rw [less_is, decide_eq_true_eq]
theorem less_irrefl (a : ByteArray) : ¬ less a a = true := by rw [less_iff]; exact List.lt_irrefl _
theorem less_trans {a b c : ByteArray} (h : less a b = true) (k : less b c = true) : less a c = true := by
  rw [less_iff] at *; exact List.lt_trans h k
theorem byte_ext {a b : ByteArray} (h : a.data.toList = b.data.toList) : a = b := by
  cases a; cases b; simp only at h; congr 1; exact Array.toList_inj.1 h
theorem less_total {a b : ByteArray} (h : ¬ less a b = true) (k : ¬ less b a = true) : a = b := by
  rw [less_iff] at *; exact byte_ext (List.le_antisymm k h)
theorem same_is (a b : ByteArray) : a.toList = b.toList ↔ a = b := ⟨fun h => byte_ext (by rwa [toL, toL] at h), fun h => by rw [h]⟩
/-- Each text stands ahead of those behind it. -/
def Rising (l : List ByteArray) : Prop := ∀ (i j : Nat) (hi : i < l.length) (hj : j < l.length), i < j → less l[i] l[j] = true
theorem rising_of (l : List ByteArray) (h : ∀ (i : Nat) (hi : i + 1 < l.length), less l[i] l[i + 1] = true) : Rising l := by
  intro i j hi hj hij
  have key : ∀ d (hd : i + d + 1 < l.length), less l[i] l[i + d + 1] = true := by
    intro d
    induction d with
    | zero => intro hd; exact h i hd
    | succ d ih => intro hd; exact less_trans (ih (by omega)) (h (i + d + 1) hd)
  obtain ⟨d, rfl⟩ : ∃ d, j = i + d + 1 := ⟨j - i - 1, by omega⟩
  exact key d hj
theorem setOk_rising {l : List ByteArray} (h : setOk l = true) : Rising l := by
  refine rising_of l (fun i hi => ?_)
  simp only [setOk, Bool.and_eq_true, List.all_eq_true, List.mem_range] at h
  have := (h.1 (i + 1) hi).2
  simp only [Bool.or_eq_true, decide_eq_true_eq] at this
  rcases this with h0 | h0
  · omega
  · rwa [Nat.add_sub_cancel, atS_is l i (by omega), atS_is l (i + 1) hi] at h0
/-- Place p: what stands ahead of it is less than x, what stands from there on is not. -/
def PlaceS (l : List ByteArray) (x : ByteArray) (p : Nat) : Prop := p ≤ l.length ∧ (∀ (q : Nat) (h : q < l.length), q < p → less l[q] x = true) ∧ ∀ (q : Nat) (h : q < l.length), p ≤ q → ¬ less l[q] x = true
def at? (l : List ByteArray) (x : ByteArray) (p : Nat) : Bool := decide (l[p]? = some x)
theorem place_of_mem {l : List ByteArray} {x : ByteArray} {p : Nat} (hr : Rising l) (hp : PlaceS l x p) (hx : x ∈ l) : l[p]? = some x := by
  obtain ⟨q, hq, rfl⟩ := List.getElem_of_mem hx
  have h1 : p ≤ q := by
    rcases Nat.lt_or_ge q p with h | h
    · exact absurd (hp.2.1 q hq h) (less_irrefl _)
    · exact h
  have h2 : q = p := by
    rcases Nat.lt_or_ge p q with h | h
    · exact absurd (hr p q (by omega) hq h) (hp.2.2 p (by omega) (Nat.le_refl p))
    · omega
  subst h2
  exact List.getElem?_eq_getElem hq
theorem at_iff {l : List ByteArray} {x : ByteArray} {p : Nat} (hr : Rising l) (hp : PlaceS l x p) : at? l x p = true ↔ x ∈ l := by
  unfold at?
  rw [decide_eq_true_eq]
  exact ⟨fun h => List.mem_of_getElem? h, fun h => place_of_mem hr hp h⟩
theorem filter_at {l : List ByteArray} {x : ByteArray} {p : Nat} (hr : Rising l) (h : l[p]? = some x) : l.filter (fun d => decide (¬ d = x)) = l.take p ++ l.drop (p + 1) := by
  obtain ⟨hp, hx⟩ := List.getElem?_eq_some_iff.1 h
  have hl : l = l.take p ++ (x :: l.drop (p + 1)) := by rw [← hx, ← List.drop_eq_getElem_cons hp, List.take_append_drop]
  conv => lhs; rw [hl]
  rw [List.filter_append, List.filter_cons_of_neg (by simp)]
  congr 1
  · refine List.filter_eq_self.2 (fun d hd => ?_)
    obtain ⟨i, hi, rfl⟩ := List.getElem_of_mem hd
    rw [List.length_take] at hi
    rw [List.getElem_take, decide_eq_true_eq]
    intro e
    have := hr i p (by omega) hp (by omega)
    rw [e, hx] at this
    exact less_irrefl _ this
  · refine List.filter_eq_self.2 (fun d hd => ?_)
    obtain ⟨i, hi, rfl⟩ := List.getElem_of_mem hd
    rw [List.length_drop] at hi
    rw [List.getElem_drop, decide_eq_true_eq]
    intro e
    have := hr p (p + 1 + i) hp (by omega) (by omega)
    rw [e, hx] at this
    exact less_irrefl _ this
end Go.Proofs.YtifchnibhohnpaaDoor.Order
