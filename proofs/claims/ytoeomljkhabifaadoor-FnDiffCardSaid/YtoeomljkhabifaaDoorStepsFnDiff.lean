import Derived.Test.YtoeomljkhabifaaDoorTreeFnDiff
import Derived.Test.YtoeomljkhabifaaDoorOrderFnDiff
/-! How two sets are compared, prefix by prefix: the plain side. -/
namespace Go.Proofs.YtoeomljkhabifaaDoor.StepsOf
open Go.RowKit Go.Proofs.YtoeomljkhabifaaDoorW.PrintWords Go.Proofs.YtoeomljkhabifaaDoorW.PrintLast Go.Proofs.YtoeomljkhabifaaDoorW.PrintMore Go.Proofs.YtoeomljkhabifaaDoor.Bits Go.Proofs.YtoeomljkhabifaaDoor.Num Go.Proofs.YtoeomljkhabifaaDoor.Dig Go.Proofs.YtoeomljkhabifaaDoor.Loops Go.Proofs.YtoeomljkhabifaaDoor.SetOf Go.Proofs.YtoeomljkhabifaaDoor.Sha Go.Proofs.YtoeomljkhabifaaDoor.Digest Go.Proofs.YtoeomljkhabifaaDoor.TreeOf Go.Proofs.YtoeomljkhabifaaDoor.Order
set_option linter.unusedSimpArgs false
set_option linter.unusedVariables false

/-- How many prefixes a prefix may bring about, itself among them. -/
def wt (p : ByteArray) : Nat := if p.size = 0 then 273 else if p.size = 1 then 17 else 1
def meas : List ByteArray → Nat
  | [] => 0
  | p :: l => wt p + meas l
theorem wt_pos (p : ByteArray) : 1 ≤ wt p := by unfold wt; repeat' split
                                                all_goals omega
theorem meas_append (l m : List ByteArray) : meas (l ++ m) = meas l + meas m := by
  induction l with
  | nil => simp [meas]
  | cons p l ih => rw [List.cons_append, meas, meas, ih]; omega
theorem meas_len (l : List ByteArray) : l.length ≤ meas l := by
  induction l with
  | nil => simp [meas]
  | cons p l ih => have := wt_pos p; rw [List.length_cons, meas]; omega
def kidsOf (p : ByteArray) : List ByteArray := (List.range 16).map (kid p)
theorem kidsOf_len (p : ByteArray) : (kidsOf p).length = 16 := by simp [kidsOf]
theorem kidsOf_size (p : ByteArray) : ∀ q ∈ kidsOf p, q.size = p.size + 1 := by
  intro q hq
  simp only [kidsOf, List.mem_map, List.mem_range] at hq
  obtain ⟨i, hi, rfl⟩ := hq
  exact kid_size p i hi
theorem meas_const (n : Nat) : ∀ l : List ByteArray, (∀ q ∈ l, wt q = n) → meas l = n * l.length
  | [], _ => rfl
  | p :: l, h => by
    rw [meas, meas_const n l (fun q hq => h q (List.mem_cons_of_mem _ hq)), h p List.mem_cons_self, List.length_cons, Nat.mul_add, Nat.mul_one]
    omega
theorem meas_kids (p : ByteArray) (h : p.size < 2) : meas (kidsOf p) + 1 = wt p := by
  by_cases h0 : p.size = 0
  · rw [meas_const 17 _ (fun q hq => by have := kidsOf_size p q hq; unfold wt; rw [if_neg (by omega), if_pos (by omega)]), kidsOf_len]
    unfold wt
    rw [if_pos h0]
  · rw [meas_const 1 _ (fun q hq => by have := kidsOf_size p q hq; unfold wt; rw [if_neg (by omega), if_neg (by omega)]), kidsOf_len]
    unfold wt
    rw [if_neg h0, if_pos (by omega)]
/-- The digest of what is under a prefix. -/
def nodeE (a : List ByteArray) (p : ByteArray) : ByteArray := nodeM (2 - p.size) a p
def lessU (a b : List ByteArray) (p : ByteArray) : List ByteArray := (underM a p).filter (fun d => decide (¬ d ∈ underM b p))
theorem lessU_len (a b : List ByteArray) (p : ByteArray) : (lessU a b p).length ≤ a.length := Nat.le_trans (List.length_filter_le _ _) (underM_len a p)
/-- The rounds over the prefixes that are asked for. -/
def stepsM (a b : List ByteArray) : Nat → List ByteArray → List ByteArray → List ByteArray → Nat → List ByteArray × List ByteArray × List ByteArray
  | 0, qs, ms, ls, _ => (qs, ms, ls)
  | n + 1, qs, ms, ls, i => if i < qs.length then (if nodeE a (atS qs i) = nodeE b (atS qs i) then stepsM a b n qs ms ls (i + 1) else if (atS qs i).size < 2 then stepsM a b n (qs ++ kidsOf (atS qs i)) ms ls (i + 1) else stepsM a b n qs (ms ++ lessU a b (atS qs i)) (ls ++ lessU b a (atS qs i)) (i + 1)) else (qs, ms, ls)
/-- What holds from round to round. -/
structure Run (a b qs ms ls : List ByteArray) (i n : Nat) : Prop where
  small : ∀ q ∈ qs, q.size ≤ 2
  le : i ≤ qs.length
  left : meas (qs.drop i) ≤ n
  most : i + meas (qs.drop i) ≤ 273
  ml : ms.length ≤ 200 * i
  ll : ls.length ≤ 200 * i
theorem Run.len {a b qs ms ls : List ByteArray} {i n : Nat} (h : Run a b qs ms ls i n) : qs.length ≤ 273 := by
  have h1 := meas_len (qs.drop i)
  rw [List.length_drop] at h1
  have := h.most
  have := h.le
  omega
theorem Run.here {a b qs ms ls : List ByteArray} {i n : Nat} (h : Run a b qs ms ls i n) (hi : i < qs.length) : meas (qs.drop i) = wt (atS qs i) + meas (qs.drop (i + 1)) := by
  rw [List.drop_eq_getElem_cons hi, meas, atS_is qs i hi]
theorem Run.on {a b qs ms ls : List ByteArray} {i n : Nat} (h : Run a b qs ms ls i (n + 1)) (hi : i < qs.length) (ms2 ls2 : List ByteArray) (hm : ms2.length ≤ ms.length + 200) (hl : ls2.length ≤ ls.length + 200) : Run a b qs ms2 ls2 (i + 1) n := by
  have h1 := h.here hi
  have h2 := wt_pos (atS qs i)
  have h3 := h.left
  have h4 := h.most
  have h5 := h.ml
  have h6 := h.ll
  exact ⟨h.small, hi, by omega, by omega, by omega, by omega⟩
theorem Run.more {a b qs ms ls : List ByteArray} {i n : Nat} (h : Run a b qs ms ls i (n + 1)) (hi : i < qs.length) (hp : (atS qs i).size < 2) : Run a b (qs ++ kidsOf (atS qs i)) ms ls (i + 1) n := by
  have h1 := h.here hi
  have h2 := meas_kids (atS qs i) hp
  have h3 := h.left
  have h4 := h.most
  have h5 := h.ml
  have h6 := h.ll
  have h7 : (qs ++ kidsOf (atS qs i)).drop (i + 1) = qs.drop (i + 1) ++ kidsOf (atS qs i) := List.drop_append_of_le_length hi
  refine ⟨fun q hq => ?_, by rw [List.length_append]; omega, by rw [h7, meas_append]; omega, by rw [h7, meas_append]; omega, by omega, by omega⟩
  rcases List.mem_append.1 hq with hq | hq
  · exact h.small q hq
  · have := kidsOf_size _ q hq; omega
theorem Run.start (a b : List ByteArray) : Run a b [⟨#[]⟩] [] [] 0 273 := by
  refine ⟨fun q hq => ?_, Nat.zero_le _, by decide, by decide, Nat.zero_le _, Nat.zero_le _⟩
  rw [List.mem_singleton] at hq
  subst hq
  exact Nat.zero_le _
/-- What comes out is short. -/
theorem stepsM_len (a b : List ByteArray) (ha : a.length ≤ 200) (hb : b.length ≤ 200) : ∀ (n : Nat) (qs ms ls : List ByteArray) (i : Nat), Run a b qs ms ls i n → (stepsM a b n qs ms ls i).1.length ≤ 273 ∧ (stepsM a b n qs ms ls i).2.1.length ≤ 54600 ∧ (stepsM a b n qs ms ls i).2.2.length ≤ 54600 := by
  intro n
  induction n with
  | zero =>
    intro qs ms ls i h
    have h1 := h.len
    have h2 := h.most
    have h3 := h.ml
    have h4 := h.ll
    exact ⟨h1, by show ms.length ≤ _; omega, by show ls.length ≤ _; omega⟩
  | succ n ih =>
    intro qs ms ls i h
    rw [stepsM]
    split
    · rename_i hi
      split
      · exact ih _ _ _ _ (h.on hi ms ls (by omega) (by omega))
      · split
        · rename_i hp
          exact ih _ _ _ _ (h.more hi hp)
        · have h1 := lessU_len a b (atS qs i)
          have h2 := lessU_len b a (atS qs i)
          exact ih _ _ _ _ (h.on hi _ _ (by rw [List.length_append]; omega) (by rw [List.length_append]; omega))
    · have h1 := h.len
      have h2 := h.most
      have h3 := h.ml
      have h4 := h.ll
      exact ⟨h1, by show ms.length ≤ _; omega, by show ls.length ≤ _; omega⟩
def StepsN (n : Nat) (a b : List ByteArray) : List ByteArray × List ByteArray × List ByteArray × Bool := if setOk a = true then (if setOk b = true then ((stepsM a b n [⟨#[]⟩] [] [] 0).1, (stepsM a b n [⟨#[]⟩] [] [] 0).2.1, (stepsM a b n [⟨#[]⟩] [] [] 0).2.2, true) else ([], [], [], false)) else ([], [], [], false)
theorem StepsN_len (n : Nat) (a b : List ByteArray) (hn : Run a b [⟨#[]⟩] [] [] 0 n) : (StepsN n a b).1.length ≤ 273 ∧ (StepsN n a b).2.1.length ≤ 54600 ∧ (StepsN n a b).2.2.1.length ≤ 54600 := by
  have h : setOk a = true → setOk b = true → (stepsM a b n [⟨#[]⟩] [] [] 0).1.length ≤ 273 ∧ (stepsM a b n [⟨#[]⟩] [] [] 0).2.1.length ≤ 54600 ∧ (stepsM a b n [⟨#[]⟩] [] [] 0).2.2.length ≤ 54600 := fun ha hb => stepsM_len a b (setOk_len ha) (setOk_len hb) n _ _ _ 0 hn
  unfold StepsN
  generalize stepsM a b n [⟨#[]⟩] [] [] 0 = R at h ⊢
  cases ha : setOk a with
  | false => exact ⟨Nat.zero_le _, Nat.zero_le _, Nat.zero_le _⟩
  | true =>
    cases hb : setOk b with
    | false => exact ⟨Nat.zero_le _, Nat.zero_le _, Nat.zero_le _⟩
    | true => exact h ha hb
end Go.Proofs.YtoeomljkhabifaaDoor.StepsOf
