import Derived.Test.YtldpdaifajjaeaaDoorPiecesFnRefs
/-! Names of repositories: the plain side. -/
namespace Go.Proofs.YtldpdaifajjaeaaDoor.Repo
open Go.RowKit Go.Proofs.YtldpdaifajjaeaaDoorW.PrintWords Go.Proofs.YtldpdaifajjaeaaDoorW.PrintLast Go.Proofs.YtldpdaifajjaeaaDoorW.PrintMore Go.Proofs.YtldpdaifajjaeaaDoor.Bits Go.Proofs.YtldpdaifajjaeaaDoor.Num Go.Proofs.YtldpdaifajjaeaaDoor.Dig Go.Proofs.YtldpdaifajjaeaaDoor.Loops Go.Proofs.YtldpdaifajjaeaaDoor.Pieces
set_option linter.unusedSimpArgs false
set_option linter.unusedVariables false

/-- Words with marks between them, byte by byte: 0: a word must begin, 1: in a word, 3: behind one '_', 5: in a row of '-'. -/
def partA : Nat → List Int → Bool
  | q, [] => q == 1
  | q, c :: l => if lowByte c = true then partA 1 l else if q = 1 then (if c = 46 then partA 0 l else if c = 95 then partA 3 l else if c = 45 then partA 5 l else false) else if q = 3 then (if c = 95 then partA 0 l else false) else if q = 5 then (if c = 45 then partA 5 l else false) else false
def partOk (s : ByteArray) : Bool := partA 0 (bytesOf s)
def markM (l : List Int) : Bool := l == [46] || l == [95] || l == [95, 95] || (decide (0 < l.length) && l.all (· == 45))
theorem partA_low (q : Nat) (c : Int) (l : List Int) (h : lowByte c = true) : partA q (c :: l) = partA 1 l := by rw [partA, if_pos h]
theorem partA_last (c : Int) (l : List Int) : ∀ q : Nat, partA q (l ++ [c]) = true → lowByte c = true := by
  induction l with
  | nil =>
    intro q h
    rw [List.nil_append, partA] at h
    split at h
    · assumption
    · repeat' split at h
      all_goals simp [partA] at h
  | cons x l ih =>
    intro q h
    rw [List.cons_append, partA] at h
    repeat' split at h
    all_goals first | exact ih _ h | exact absurd h (by decide)
theorem dashes (c : Int) (hc : lowByte c = true) (l : List Int) : ∀ r : List Int, (∀ x ∈ r, ¬ lowByte x = true) → partA 5 (r ++ c :: l) = (r.all (· == 45) && partA 1 l) := by
  intro r
  induction r with
  | nil => intro _; rw [List.nil_append, partA_low _ _ _ hc]; rfl
  | cons x r ih =>
    intro h
    rw [List.cons_append, partA, if_neg (h x List.mem_cons_self), if_neg (by decide), if_neg (by decide), if_pos rfl, List.all_cons]
    by_cases hx : x = 45
    · rw [if_pos hx, ih (fun y hy => h y (List.mem_cons_of_mem _ hy)), beq_iff_eq.2 hx, Bool.true_and]
    · rw [if_neg hx, beq_eq_false_iff_ne.2 hx, Bool.false_and, Bool.false_and]
/-- What is no word's, between words. -/
theorem part_mark (c : Int) (hc : lowByte c = true) (l : List Int) (r : List Int) (h : ∀ x ∈ r, ¬ lowByte x = true) (hr : r ≠ []) : partA 1 (r ++ c :: l) = (markM r && partA 1 l) := by
  cases r with
  | nil => exact absurd rfl hr
  | cons x r =>
    have hx := h x List.mem_cons_self
    have hr2 : ∀ y ∈ r, ¬ lowByte y = true := fun y hy => h y (List.mem_cons_of_mem _ hy)
    rw [List.cons_append, partA, if_neg hx, if_pos rfl]
    by_cases h1 : x = 46
    · subst h1
      rw [if_pos rfl]
      cases r with
      | nil => rw [List.nil_append, partA_low _ _ _ hc]; simp [markM]
      | cons y t =>
        rw [List.cons_append, partA, if_neg (hr2 y List.mem_cons_self), if_neg (by decide), if_neg (by decide), if_neg (by decide)]
        simp [markM]
    · rw [if_neg h1]
      by_cases h2 : x = 95
      · subst h2
        rw [if_pos rfl]
        cases r with
        | nil => rw [List.nil_append, partA_low _ _ _ hc]; simp [markM]
        | cons y t =>
          rw [List.cons_append, partA, if_neg (hr2 y List.mem_cons_self), if_neg (by decide), if_pos rfl]
          by_cases hy : y = 95
          · subst hy
            rw [if_pos rfl]
            cases t with
            | nil => rw [List.nil_append, partA_low _ _ _ hc]; simp [markM]
            | cons z t =>
              rw [List.cons_append, partA, if_neg (hr2 z (by simp)), if_neg (by decide), if_neg (by decide), if_neg (by decide)]
              simp [markM]
          · rw [if_neg hy]
            simp [markM, hy]
      · rw [if_neg h2]
        by_cases h3 : x = 45
        · subst h3
          rw [if_pos rfl, dashes c hc l r hr2]
          simp [markM]
        · rw [if_neg h3]
          simp [markM, h1, h2, h3]
def repoOk (s : ByteArray) : Bool := decide (s.size ≤ 100) && (pieces 47 s).all partOk
theorem repoOk_size {s : ByteArray} (h : repoOk s = true) : s.size ≤ 100 := by
  simp only [repoOk, Bool.and_eq_true, decide_eq_true_eq] at h; exact h.1
/-- The bytes from i on: d of them, and the others. -/
theorem drop_run (s : ByteArray) (i : Nat) : ∀ d : Nat, i + d ≤ s.size → (bytesOf s).drop i = (List.range d).map (fun t => bt s ((i + t : Nat) : Int)) ++ (bytesOf s).drop (i + d) := by
  intro d
  induction d with
  | zero => intro _; rfl
  | succ d ih =>
    intro h
    rw [ih (by omega), drop_bytes s (i + d) (by omega), List.range_succ, List.map_append, List.append_assoc]
    rfl
theorem run_nil (s : ByteArray) (i d : Nat) (h : (List.range d).map (fun t => bt s ((i + t : Nat) : Int)) = []) : d = 0 := by
  cases d with
  | zero => rfl
  | succ d => simp [List.range_succ] at h
theorem run_bytes (s : ByteArray) (i d : Nat) (h : i + d ≤ s.size) : bytesOf (s.extract i (i + d)) = (List.range d).map (fun t => bt s ((i + t : Nat) : Int)) := by
  have h1 : bytesOf (s.extract i (i + d)) = ((bytesOf s).drop i).take d := by
    unfold bytesOf
    rw [ByteArray.data_extract, Array.toList_extract, List.extract_eq_take_drop, List.map_take, List.map_drop, Nat.add_sub_cancel_left]
  rw [h1, drop_run s i d h]
  exact List.take_left' (by simp)
theorem list_bytes (s : ByteArray) (l : List UInt8) : (s.toList = l) ↔ bytesOf s = l.map (fun b => (b.toNat : Int)) := by
  rw [toL]
  unfold bytesOf
  constructor
  · intro h; rw [h]
  · intro h
    have hinj : ∀ a b : List UInt8, a.map (fun b => (b.toNat : Int)) = b.map (fun b => (b.toNat : Int)) → a = b := by
      intro a
      induction a with
      | nil => intro b hb; cases b with
        | nil => rfl
        | cons _ _ => simp at hb
      | cons x a ih =>
        intro b hb
        cases b with
        | nil => simp at hb
        | cons y b =>
          simp only [List.map_cons, List.cons.injEq] at hb
          rw [(byte_eq x y).1 hb.1, ih b hb.2]
    exact hinj _ _ h
end Go.Proofs.YtldpdaifajjaeaaDoor.Repo
