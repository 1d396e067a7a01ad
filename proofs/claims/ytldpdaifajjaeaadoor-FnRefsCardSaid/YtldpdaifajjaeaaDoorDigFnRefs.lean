import Derived.Lib.SlTrimSet
import Derived.Test.YtldpdaifajjaeaaDoorNumFnRefs
/-! A digest's text: the plain side. -/
namespace Go.Proofs.YtldpdaifajjaeaaDoor.Dig
open Go.RowKit Go.Proofs.YtldpdaifajjaeaaDoorW.PrintWords Go.Proofs.YtldpdaifajjaeaaDoorW.PrintLast Go.Proofs.YtldpdaifajjaeaaDoorW.PrintMore Go.Proofs.YtldpdaifajjaeaaDoor.Bits Go.Proofs.YtldpdaifajjaeaaDoor.Num
set_option linter.unusedSimpArgs false
set_option linter.unusedVariables false

/-- A hexadecimal digit's byte. -/
def hexB (c : Int) : Bool := decide ((48 ≤ c ∧ c ≤ 57) ∨ (97 ≤ c ∧ c ≤ 102))
/-- Its value, or -1. -/
def hexV (c : Int) : Int := if 48 ≤ c ∧ c ≤ 57 then c - 48 else if 97 ≤ c ∧ c ≤ 102 then c - 87 else -1
def digHead : List UInt8 := [115, 104, 97, 50, 53, 54, 58]
def hexSet : List UInt8 := [48, 49, 50, 51, 52, 53, 54, 55, 56, 57, 97, 98, 99, 100, 101, 102]
/-- A digest: the head and 64 digits. -/
def digestOk (s : ByteArray) : Bool := decide (s.size = 71) && (((s.extract 0 7).toList == digHead) && ((bytesOf s).drop 7).all hexB)

theorem digestOk_size {s : ByteArray} (h : digestOk s = true) : s.size = 71 := by
  simp only [digestOk, Bool.and_eq_true, decide_eq_true_eq] at h; exact h.1
theorem hexV_neg (c : Int) : (hexV c < 0) ↔ ¬ hexB c = true := by
  simp only [hexV, hexB, decide_eq_true_eq]
  repeat' split
  all_goals omega
theorem all_bytes (s : ByteArray) (p : Int → Bool) (i : Nat) : ((bytesOf s).drop i).all p = (s.data.toList.drop i).all (fun b => p (b.toNat : Int)) := by
  simp only [bytesOf, ← List.map_drop, List.all_map]; rfl
set_option maxRecDepth 100000 in
theorem hexSet_is (b : UInt8) : hexSet.contains b = hexB (b.toNat : Int) := by
  revert b
  have key : ∀ n : Fin 256, hexSet.contains (UInt8.ofNat n.1) = hexB ((UInt8.ofNat n.1).toNat : Int) := by decide
  intro b
  have := key ⟨b.toNat, b.toNat_lt⟩
  simpa using this
theorem dropWhile_all {α : Type} (p : α → Bool) (l : List α) : (l.dropWhile p = []) ↔ l.all p = true := by
  induction l with
  | nil => simp
  | cons a l ih =>
    simp only [List.dropWhile_cons, List.all_cons]
    cases h : p a with
    | true => simpa using ih
    | false => simp
theorem all_reverse' {α : Type} (p : α → Bool) (l : List α) : l.reverse.all p = l.all p := by simp
theorem dropWhile_again {α : Type} (p : α → Bool) (l : List α) (h : (l.dropWhile p).all p = true) : l.all p = true := by
  induction l with
  | nil => rfl
  | cons a l ih =>
    simp only [List.dropWhile_cons] at h
    cases hp : p a with
    | true => rw [hp] at h; simp only [List.all_cons, hp, Bool.true_and]; exact ih (by simpa using h)
    | false => rw [hp] at h; simp only [Bool.false_eq_true, if_false, List.all_cons, hp, Bool.false_and] at h
theorem trimS_nil (l cs : List UInt8) : (Lib.trimS l cs == []) = l.all (fun b => cs.contains b) := by
  have key : Lib.trimS l cs = [] ↔ l.all (fun b => cs.contains b) = true := by
    unfold Lib.trimS Lib.trimLeftS Lib.trimRightS
    rw [dropWhile_all, all_reverse']
    constructor
    · intro h; rw [← all_reverse']; exact dropWhile_again _ _ h
    · intro h
      have : l.reverse.dropWhile (fun b => cs.contains b) = [] := (dropWhile_all _ _).2 (by rw [all_reverse']; exact h)
      rw [this]; rfl
  cases h : l.all (fun b => cs.contains b) with
  | true => rw [key.2 h]; rfl
  | false =>
    cases h2 : (Lib.trimS l cs) with
    | nil => rw [key.1 h2] at h; exact absurd h (by decide)
    | cons a b => rfl
theorem toL (s : ByteArray) : s.toList = s.data.toList := ByteArray.toList_eq s
theorem extract_data (s : ByteArray) (a b : Nat) : (s.extract a b).data.toList = (s.data.toList.drop a).take (b - a) := by
  simp [ByteArray.data_extract, List.take_drop]
end Go.Proofs.YtldpdaifajjaeaaDoor.Dig
