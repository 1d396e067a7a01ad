import Derived.Test.YtldpdaifajjaeaaDoorShaFnRefs
import Derived.Test.YtldpdaifajjaeaaDoorDigFnRefs
import Derived.Test.YtldpdaifajjaeaaDoorFrameReadFnRefs
/-! Digests: the plain side. -/
namespace Go.Proofs.YtldpdaifajjaeaaDoor.Digest
open Go.RowKit Go.Proofs.YtldpdaifajjaeaaDoorW.PrintWords Go.Proofs.YtldpdaifajjaeaaDoorW.PrintLast Go.Proofs.YtldpdaifajjaeaaDoorW.PrintMore Go.Proofs.YtldpdaifajjaeaaDoor.Bits Go.Proofs.YtldpdaifajjaeaaDoor.Num Go.Proofs.YtldpdaifajjaeaaDoor.Loops Go.Proofs.YtldpdaifajjaeaaDoor.Sha Go.Proofs.YtldpdaifajjaeaaDoor.Dig Go.Proofs.YtldpdaifajjaeaaDoor.FrameRead
set_option linter.unusedSimpArgs false
set_option linter.unusedVariables false

def hexD : ByteArray := ⟨#[48, 49, 50, 51, 52, 53, 54, 55, 56, 57, 97, 98, 99, 100, 101, 102]⟩
def headD : ByteArray := ⟨#[115, 104, 97, 50, 53, 54, 58]⟩
/-- Four bits of a word, the j-th from the left. -/
def nibM (n : Int) (j : Nat) : Int := Go.bits .and .u32 (shr .u32 n (IntKind.u64.wrap (wrap64 (4 * ((7 - j : Nat) : Int))))) 15
theorem shr_range (n m : Int) (h : 0 ≤ n ∧ n < 4294967296) : 0 ≤ shr .u32 n m ∧ shr .u32 n m < 4294967296 := by
  unfold shr
  have hp : (0 : Int) < 2 ^ (min m.toNat IntKind.u32.bits) := Int.pow_pos (by decide)
  exact ⟨Int.ediv_nonneg h.1 (Int.le_of_lt hp), Int.lt_of_le_of_lt (Int.ediv_le_self _ h.1) h.2⟩
theorem nib_range (n : Int) (j : Nat) (h : 0 ≤ n ∧ n < 4294967296) : 0 ≤ nibM n j ∧ nibM n j < 16 := by
  unfold nibM
  have hs := shr_range n (IntKind.u64.wrap (wrap64 (4 * ((7 - j : Nat) : Int)))) h
  have := bits_mask .u32 32 (by decide) wraps_u32 4 (by decide) (shr .u32 n (IntKind.u64.wrap (wrap64 (4 * ((7 - j : Nat) : Int))))) hs.1 (by have := hs.2; omega)
  rw [show (15 : Int) = 2 ^ 4 - 1 by decide, this]; omega
set_option maxRecDepth 100000 in
theorem hexD_at (v : Int) (h0 : 0 ≤ v) (h1 : v < 16) : hexB (bt hexD v) = true ∧ 0 ≤ bt hexD v ∧ bt hexD v < 256 := by
  have key : ∀ n : Fin 16, hexB (bt hexD (n.1 : Int)) = true := by decide
  have := key ⟨v.toNat, by omega⟩
  rw [show ((⟨v.toNat, by omega⟩ : Fin 16).1 : Int) = v from Int.toNat_of_nonneg h0] at this
  have hr := bt_range hexD v
  exact ⟨this, hr.1, by omega⟩
def hexL (n : Int) (i : Nat) : List Int := (List.range i).map fun j => bt hexD (nibM n j)
theorem hexL_succ (n : Int) (i : Nat) : hexL n (i + 1) = hexL n i ++ [bt hexD (nibM n i)] := by
  unfold hexL; rw [List.range_succ, List.map_append]; rfl
theorem hexL_len (n : Int) (i : Nat) : (hexL n i).length = i := by simp [hexL]
theorem hexL_hex (n : Int) (h : 0 ≤ n ∧ n < 4294967296) (i : Nat) : ∀ x ∈ hexL n i, hexB x = true ∧ 0 ≤ x ∧ x < 256 := by
  intro x hx
  simp only [hexL, List.mem_map] at hx
  obtain ⟨j, _, rfl⟩ := hx
  have := nib_range n j h
  exact hexD_at _ this.1 this.2
/-- A word's eight digits. -/
def hexM (n : Int) : ByteArray := strOfNums (hexL n 8)
theorem hexM_size (n : Int) : (hexM n).size = 8 := by rw [hexM, size_strOfNums, hexL_len]
theorem hexM_hex (n : Int) (h : 0 ≤ n ∧ n < 4294967296) : (bytesOf (hexM n)).all hexB = true := by
  have hh := hexL_hex n h 8
  rw [hexM, bytesOf_strOfNums _ (fun x hx => (hh x hx).2)]
  exact List.all_eq_true.2 (fun x hx => (hh x hx).1)
/-- The head and the digits of the first i words. -/
def digL (h : List Int) : Nat → ByteArray
  | 0 => headD
  | i + 1 => digL h i ++ hexM (rd h (i : Int))
theorem digL_size (h : List Int) (i : Nat) : (digL h i).size = 7 + 8 * i := by
  induction i with
  | zero => rfl
  | succ i ih => rw [digL, ByteArray.size_append, ih, hexM_size]; omega
theorem digL_bytes (h : List Int) (hr : R32 h) (i : Nat) : ∃ t, bytesOf (digL h i) = bytesOf headD ++ t ∧ t.all hexB = true := by
  induction i with
  | zero => exact ⟨[], by rw [List.append_nil]; rfl, rfl⟩
  | succ i ih =>
    obtain ⟨t, h1, h2⟩ := ih
    refine ⟨t ++ bytesOf (hexM (rd h (i : Int))), ?_, ?_⟩
    · rw [digL, bytesOf_append, h1, List.append_assoc]
    · rw [List.all_append, h2, hexM_hex _ (hr.at _)]; rfl
/-- The digest of a text. -/
def digestM (s : ByteArray) : ByteArray := digL (sumM s) 8
theorem digestM_size (s : ByteArray) : (digestM s).size = 71 := by rw [digestM, digL_size]
theorem digestM_ok (s : ByteArray) : digestOk (digestM s) = true := by
  obtain ⟨t, h1, h2⟩ := digL_bytes (sumM s) (sumM_ok s).2 8
  have hb : bytesOf (digestM s) = bytesOf headD ++ t := h1
  have hd : (digestM s).data.toList.take 7 = digHead := by
    have e := congrArg (List.take 7) hb
    rw [List.take_left' (by rw [bytesOf_length]; rfl)] at e
    have e2 : ((digestM s).data.toList.take 7).map (fun b : UInt8 => (b.toNat : Int)) = digHead.map (fun b : UInt8 => (b.toNat : Int)) := by
      rw [List.map_take]; exact e
    exact (List.map_inj_right (fun a b hab => UInt8.toNat_inj.1 (by exact_mod_cast hab))).1 e2
  unfold digestOk
  rw [digestM_size, toL, extract_data, List.drop_zero, Nat.sub_zero, hd, hb, List.drop_left' (by rw [bytesOf_length]; rfl), h2]
  rfl
end Go.Proofs.YtldpdaifajjaeaaDoor.Digest
