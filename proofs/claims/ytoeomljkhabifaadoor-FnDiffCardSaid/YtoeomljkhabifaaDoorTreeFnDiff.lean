import Derived.Test.YtoeomljkhabifaaDoorDigestFnDiff
import Derived.Test.YtoeomljkhabifaaDoorSetFnDiff
/-! A tree of digests: the plain side. -/
namespace Go.Proofs.YtoeomljkhabifaaDoor.TreeOf
open Go.RowKit Go.Proofs.YtoeomljkhabifaaDoorW.PrintWords Go.Proofs.YtoeomljkhabifaaDoorW.PrintLast Go.Proofs.YtoeomljkhabifaaDoorW.PrintMore Go.Proofs.YtoeomljkhabifaaDoor.Bits Go.Proofs.YtoeomljkhabifaaDoor.Num Go.Proofs.YtoeomljkhabifaaDoor.Dig Go.Proofs.YtoeomljkhabifaaDoor.Loops Go.Proofs.YtoeomljkhabifaaDoor.SetOf Go.Proofs.YtoeomljkhabifaaDoor.Sha Go.Proofs.YtoeomljkhabifaaDoor.Digest
set_option linter.unusedSimpArgs false
set_option linter.unusedVariables false

/-- Texts, one behind the other. -/
def joinM (l : List ByteArray) : ByteArray := ⟨(l.flatMap (fun s => s.data.toList)).toArray⟩
theorem data_ext {a b : ByteArray} (h : a.data.toList = b.data.toList) : a = b := by
  obtain ⟨⟨x⟩⟩ := a
  obtain ⟨⟨y⟩⟩ := b
  simp only at h
  rw [h]
theorem joinM_nil : joinM [] = (⟨#[]⟩ : ByteArray) := rfl
theorem joinM_append (l m : List ByteArray) : joinM (l ++ m) = joinM l ++ joinM m := by
  refine data_ext ?_
  rw [ByteArray.data_append]
  simp [joinM]
theorem joinM_one (s : ByteArray) : joinM [s] = s := by
  refine data_ext ?_
  simp [joinM]
theorem joinM_snoc (l : List ByteArray) (s : ByteArray) : joinM (l ++ [s]) = joinM l ++ s := by rw [joinM_append, joinM_one]
theorem joinM_size (n : Nat) : ∀ l : List ByteArray, (∀ s ∈ l, s.size = n) → (joinM l).size = n * l.length
  | [], _ => rfl
  | s :: l, h => by
    have ih := joinM_size n l (fun x hx => h x (List.mem_cons_of_mem _ hx))
    have hs := h s List.mem_cons_self
    rw [show s :: l = [s] ++ l from rfl, joinM_append, joinM_one, ByteArray.size_append, ih, hs, List.length_append, List.length_singleton, Nat.mul_add, Nat.mul_one]
/-- The digit i, as a text. -/
def hexS (i : Nat) : ByteArray := hexD.extract i (i + 1)
def kid (p : ByteArray) (i : Nat) : ByteArray := p ++ hexS i
set_option maxRecDepth 100000 in
theorem hexS_size (i : Nat) (h : i < 16) : (hexS i).size = 1 := by
  rw [hexS, ByteArray.size_extract, show hexD.size = 16 from rfl]; omega
theorem kid_size (p : ByteArray) (i : Nat) (h : i < 16) : (kid p i).size = p.size + 1 := by rw [kid, ByteArray.size_append, hexS_size i h]
/-- The digest of what is under a prefix that lacks d digits. -/
def nodeM : Nat → List ByteArray → ByteArray → ByteArray
  | 0, l, p => digestM (joinM (underM l p))
  | d + 1, l, p => digestM (joinM ((List.range 16).map fun i => nodeM d l (kid p i)))
theorem nodeM_size (d : Nat) (l : List ByteArray) (p : ByteArray) : (nodeM d l p).size = 71 := by
  cases d with
  | zero => exact digestM_size _
  | succ d => exact digestM_size _
theorem starts_more (p t d : ByteArray) (h : startsB (p ++ t) d = true) : startsB p d = true := by
  simp only [startsB, beq_iff_eq] at h ⊢
  rw [toL, toL, extract_data, Nat.add_sub_cancel_left] at h ⊢
  rw [ByteArray.size_append, ByteArray.data_append, Array.toList_append] at h
  have h2 := congrArg (List.take p.data.toList.length) h
  have hp : p.data.toList.length = p.size := Array.length_toList
  rw [List.take_left, List.take_take, hp, Nat.min_eq_left (Nat.le_add_right _ _)] at h2
  exact h2
theorem under_under (l : List ByteArray) (p t : ByteArray) : underM (underM l p) (p ++ t) = underM l (p ++ t) := by
  unfold underM
  rw [List.filter_filter]
  refine List.filter_congr (fun d _ => ?_)
  cases h : startsB (p ++ t) d with
  | true => rw [starts_more p t d h]; rfl
  | false => rfl
theorem kid_more (p t : ByteArray) (i : Nat) : kid (p ++ t) i = p ++ (t ++ hexS i) := by rw [kid, ByteArray.append_assoc]
theorem node_under (d : Nat) : ∀ (l : List ByteArray) (p t : ByteArray), nodeM d (underM l p) (p ++ t) = nodeM d l (p ++ t) := by
  induction d with
  | zero => intro l p t; simp only [nodeM]; rw [under_under]
  | succ d ih =>
    intro l p t
    simp only [nodeM]
    congr 2
    refine List.map_congr_left (fun i _ => ?_)
    rw [kid_more, ih]
theorem append_nil' (p : ByteArray) : p ++ (⟨#[]⟩ : ByteArray) = p := by
  refine data_ext ?_
  rw [ByteArray.data_append]; simp
theorem node_self (d : Nat) (l : List ByteArray) (p : ByteArray) : nodeM d (underM l p) p = nodeM d l p := by
  have := node_under d l p ⟨#[]⟩
  rwa [append_nil'] at this
theorem node_kid (d : Nat) (l : List ByteArray) (p : ByteArray) (i : Nat) : nodeM d (underM l p) (kid p i) = nodeM d l (kid p i) := node_under d l p _
def kidsM (d : Nat) (l : List ByteArray) (p : ByteArray) (n : Nat) : List ByteArray := (List.range n).map fun i => nodeM d l (kid p i)
theorem kidsM_succ (d : Nat) (l : List ByteArray) (p : ByteArray) (n : Nat) : joinM (kidsM d l p (n + 1)) = joinM (kidsM d l p n) ++ nodeM d l (kid p n) := by
  rw [kidsM, List.range_succ, List.map_append, List.map_cons, List.map_nil, joinM_snoc]; rfl
theorem kidsM_size (d : Nat) (l : List ByteArray) (p : ByteArray) (n : Nat) : (joinM (kidsM d l p n)).size = 71 * n := by
  rw [joinM_size 71 _ (fun s hs => by
    simp only [kidsM, List.mem_map] at hs
    obtain ⟨i, _, rfl⟩ := hs
    exact nodeM_size _ _ _)]
  simp [kidsM]
theorem under_dig {l : List ByteArray} (hd : ∀ x ∈ l, digestOk x = true) (p : ByteArray) : ∀ x ∈ underM l p, digestOk x = true := fun x hx => hd x (List.mem_filter.1 hx).1
theorem under_join {l : List ByteArray} (hd : ∀ x ∈ l, digestOk x = true) (hl : l.length ≤ 200) (p : ByteArray) : (joinM (underM l p)).size ≤ 14200 := by
  rw [joinM_size 71 _ (fun s hs => digestOk_size (under_dig hd p s hs))]
  have := underM_len l p
  omega
end Go.Proofs.YtoeomljkhabifaaDoor.TreeOf
