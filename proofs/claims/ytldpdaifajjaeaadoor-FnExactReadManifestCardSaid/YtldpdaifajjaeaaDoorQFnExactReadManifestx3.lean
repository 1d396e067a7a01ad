/- Written by wip/myprint.py of this repo (the kit's print, with additions of this session). -/
import Derived.Test.YtldpdaifajjaeaaDoorQFnExactReadManifestx0
set_option maxRecDepth 100000
namespace Go.Proofs.YtldpdaifajjaeaaDoor.QFnExactReadManifest
open Go.RowKit Go.Proofs.YtldpdaifajjaeaaDoorW.PrintWords Go.Proofs.YtldpdaifajjaeaaDoorW.PrintLast Go.Proofs.YtldpdaifajjaeaaDoorW.PrintMore
attribute [local go_sem] max2_int min2_int max_two min_two max_three min_three max_four min_four   -- for this text's walks alone
set_option linter.unusedVariables false
set_option linter.unusedSimpArgs false

/-! ### stringslite_HasPrefix: function 89 -/
def stringslite_HasPrefix.f (a0 : ByteArray) (a1 : ByteArray) : Option (Bool) := if (a0.size : Int) ≥ (a1.size : Int) then (if 0 ≤ (a1.size : Int) then (if (a1.size : Int) ≤ (a0.size : Int) then (some ((a0.extract 0 ((a1.size : Int) : Int).toNat).toList == a1.toList)) else (none)) else (none)) else (some false)
set_option maxHeartbeats 8000000 in
set_option maxRecDepth 100000 in
theorem stringslite_HasPrefix.calls (a0 : ByteArray) (a1 : ByteArray) (r : Bool) (w : World) (h : stringslite_HasPrefix.f a0 a1 = some r) :
  Calls Tryd.prog 89 #[.string a0, .string a1] w fun e w' => e = .returned (.bool r) ∧ Drawn0 w w' := by
 unfold stringslite_HasPrefix.f at h; have H := h; clear h; by_cases c3 : (a0.size : Int) ≥ (a1.size : Int)
 ·
  rw [if_pos c3] at H; have c3b0 : decide ((a1.size : Int) ≤ (a0.size : Int)) = true := decide_eq_true c3; have c3b1 : decide (a1.size ≤ a0.size) = true := decide_eq_true (Int.ofNat_le.mp c3); clear c3; by_cases c4 : 0 ≤ (a1.size : Int)
  ·
   rw [if_pos c4] at H; have c4b0 := eq_true c4; have c4b1 := decide_eq_true c4; clear c4; by_cases c5 : (a1.size : Int) ≤ (a0.size : Int)
   ·
    rw [if_pos c5] at H; have c5b0 := eq_true c5; have c5b1 := decide_eq_true c5; clear c5; obtain rfl := Option.some.inj H; go_enter Tryd.func89, Tryd.ntmps89; go_wp2; go_ret; exact ⟨zq3, zq8⟩
   exact zq99
  exact zq100
 rw [if_neg c3] at H; have c3b0 : decide ((a1.size : Int) ≤ (a0.size : Int)) = false := decide_eq_false c3; have c3b1 : decide (a1.size ≤ a0.size) = false := decide_eq_false (fun h => c3 (Int.ofNat_le.mpr h)); clear c3; obtain rfl := Option.some.inj H; go_enter Tryd.func89, Tryd.ntmps89; go_wp2; go_ret; exact ⟨zq3, zq8⟩

/-! ### stringslite_CutPrefix: function 69 -/
def stringslite_CutPrefix.f (a0 : ByteArray) (a1 : ByteArray) : Option (ByteArray × Bool) := (stringslite_HasPrefix.f a0 a1).bind fun t133 => (if t133 = true then (if 0 ≤ (a1.size : Int) then (if (a1.size : Int) ≤ (a0.size : Int) then (some (a0.extract ((a1.size : Int) : Int).toNat a0.size, true)) else (none)) else (none)) else (some (a0, false)))
set_option maxHeartbeats 8000000 in
set_option maxRecDepth 100000 in
theorem stringslite_CutPrefix.calls (a0 : ByteArray) (a1 : ByteArray) (r1 : ByteArray) (r2 : Bool) (w : World) (h : stringslite_CutPrefix.f a0 a1 = some (r1, r2)) :
  Calls Tryd.prog 69 #[.string a0, .string a1] w fun e w' => e = .returned (.tuple #[.string r1, .bool r2]) ∧ Drawn0 w w' := by
 unfold stringslite_CutPrefix.f at h; have H := h; clear h; replace H := Option.bind_eq_some_iff.mp H; obtain ⟨t133, A30, H⟩ := H; (try dsimp only at H); have A3 := aM A30; clear A30; by_cases c4 : t133 = true
 ·
  subst c4; rw [if_pos rfl] at H; by_cases c5 : 0 ≤ (a1.size : Int)
  ·
   rw [if_pos c5] at H; have c5b0 := eq_true c5; have c5b1 := decide_eq_true c5; clear c5; by_cases c6 : (a1.size : Int) ≤ (a0.size : Int)
   ·
    rw [if_pos c6] at H; have c6b0 := eq_true c6; have c6b1 := decide_eq_true c6; clear c6; simp only [Option.some.injEq, Prod.mk.injEq] at H; obtain ⟨rfl, rfl⟩ := H; go_enter Tryd.func69, Tryd.ntmps69
    go_wp2_with (first | ((with_reducible refine gC 89 rfl ?_); refine gL 8 Tryd.func89 #[.string a0, .string a1] ?_; (with_reducible refine (stringslite_HasPrefix.calls a0 a1 true _ A3.out).mono ?_); rintro e w' ⟨rfl, ⟨nd, rfl⟩⟩; refine ⟨_, rfl, ?_⟩))
    go_ret2
    exact ⟨zq3, zq8⟩
   exact zq103
  exact zq99
 replace c4 := Bool.eq_false_iff.mpr c4; subst c4; rw [if_neg (show ¬ (false = true) by decide)] at H; simp only [Option.some.injEq, Prod.mk.injEq] at H; obtain ⟨rfl, rfl⟩ := H; go_enter Tryd.func69, Tryd.ntmps69
 go_wp2_with (first | ((with_reducible refine gC 89 rfl ?_); refine gL 8 Tryd.func89 #[.string a0, .string a1] ?_; (with_reducible refine (stringslite_HasPrefix.calls a0 a1 false _ A3.out).mono ?_); rintro e w' ⟨rfl, ⟨nd, rfl⟩⟩; refine ⟨_, rfl, ?_⟩))
 go_ret2
 exact ⟨zq3, zq8⟩

/-! ### strings_CutPrefix: function 52 -/
def strings_CutPrefix.f (a0 : ByteArray) (a1 : ByteArray) : Option (ByteArray × Bool) := (stringslite_CutPrefix.f a0 a1).bind fun bt134 => (some (bt134.1, bt134.2))
set_option maxHeartbeats 8000000 in
set_option maxRecDepth 100000 in
theorem strings_CutPrefix.calls (a0 : ByteArray) (a1 : ByteArray) (r1 : ByteArray) (r2 : Bool) (w : World) (h : strings_CutPrefix.f a0 a1 = some (r1, r2)) :
  Calls Tryd.prog 52 #[.string a0, .string a1] w fun e w' => e = .returned (.tuple #[.string r1, .bool r2]) ∧ Drawn0 w w' := by
 unfold strings_CutPrefix.f at h; have H := h; clear h; replace H := Option.bind_eq_some_iff.mp H; obtain ⟨⟨t134, t135⟩, A30, H⟩ := H; replace H : (some (t134, t135)) = some (r1, r2) := H; have A3 := aM A30; clear A30; simp only [Option.some.injEq, Prod.mk.injEq] at H; obtain ⟨rfl, rfl⟩ := H; go_enter Tryd.func52, Tryd.ntmps52
 go_wp2_with (first | ((with_reducible refine gC 69 rfl ?_); refine gL 8 Tryd.func69 #[.string a0, .string a1] ?_; (with_reducible refine (stringslite_CutPrefix.calls a0 a1 t134 t135 _ A3.out).mono ?_); rintro e w' ⟨rfl, ⟨nd, rfl⟩⟩; refine ⟨_, rfl, ?_⟩))
 go_ret2
 exact ⟨zq3, zq8⟩

/-! ### strings_Trim: function 53 (given) -/
def strings_Trim.f (a0 : ByteArray) (a1 : ByteArray) : Option ByteArray := if a0.size ≤ 9223372036854775807 ∧ a1.size < 4294967281 ∧ a1.data.toList.all (fun b => decide (b.toNat < 128)) = true then some ⟨(Lib.trimS a0.data.toList a1.data.toList).toArray⟩ else none
theorem strings_Trim.calls (a0 : ByteArray) (a1 : ByteArray) (r : ByteArray) (w : World) (h : strings_Trim.f a0 a1 = some r) :
    Calls Tryd.prog 53 #[.string a0, .string a1] w fun e w' => e = .returned (.string r) ∧ Below w.heap.size w w' := by
  unfold strings_Trim.f at h
  split at h
  · rename_i hg
    injection h with h
    subst h; exact Any.strings_Trim_laid Tryd.lays160 (by kernel_rfl) a0 a1 w hg.1 hg.2.1 (ascii_of_all hg.2.2)
  · exact absurd h (by simp)

/-! ### impl_isDigest: function 31 -/
def impl_isDigest.f (a0 : ByteArray) : Option (Bool) := (strings_CutPrefix.f a0 (⟨#[115, 104, 97, 50, 53, 54, 58]⟩ : ByteArray)).bind fun bt136 => (if bt136.2 = true then (if (bt136.1.size : Int) = 64 then ((strings_Trim.f bt136.1 (⟨#[48, 49, 50, 51, 52, 53, 54, 55, 56, 57, 97, 98, 99, 100, 101, 102]⟩ : ByteArray)).bind fun t138 => (some (t138.toList == ([] : List UInt8)))) else (some false)) else (some false))
set_option maxHeartbeats 8000000 in
set_option maxRecDepth 100000 in
theorem impl_isDigest.calls (a0 : ByteArray) (r : Bool) (w : World) (h : impl_isDigest.f a0 = some r) :
  Calls Tryd.prog 31 #[.string a0] w fun e w' => e = .returned (.bool r) ∧ Below w.heap.size w w' := by
 have HB := aM (Below.refl w.heap.size w); unfold impl_isDigest.f at h; have H := h; clear h; replace H := Option.bind_eq_some_iff.mp H; obtain ⟨⟨t136, t137⟩, A20, H⟩ := H; (try dsimp only at H); have A2 := aM A20; clear A20; by_cases c3 : t137 = true
 ·
  subst c3; rw [if_pos rfl] at H; by_cases c4 : (t136.size : Int) = 64
  ·
   rw [if_pos c4] at H; have c4b0 : ((t136.size : Int) == 64) = true := beq_iff_eq.mpr c4; have c4b1 : ((t136.size : Int) != 64) = false := bne_eq_false_iff_eq.mpr c4; clear c4; replace H := Option.bind_eq_some_iff.mp H; obtain ⟨t138, A50, H⟩ := H; (try dsimp only at H); have A5 := aM A50; clear A50; obtain rfl := Option.some.inj H; go_enter Tryd.func31, Tryd.ntmps31
   go_wp2_with (first | ((with_reducible refine gC 52 rfl ?_); refine gL 7 Tryd.func52 #[.string a0, .string (⟨#[115, 104, 97, 50, 53, 54, 58]⟩ : ByteArray)] ?_; (with_reducible refine (strings_CutPrefix.calls a0 (⟨#[115, 104, 97, 50, 53, 54, 58]⟩ : ByteArray) t136 true _ A2.out).mono ?_); rintro e w' ⟨rfl, ⟨nd, rfl⟩⟩; refine ⟨_, rfl, ?_⟩) | (go_at_call 53; (with_reducible refine (strings_Trim.calls t136 (⟨#[48, 49, 50, 51, 52, 53, 54, 55, 56, 57, 97, 98, 99, 100, 101, 102]⟩ : ByteArray) t138 _ A5.out).mono ?_); rintro e w6 ⟨rfl, hb⟩; replace HB := sB zq2 hb; clear hb))
   go_ret; exact ⟨zq7, zq2⟩
  rw [if_neg c4] at H; have c4b0 : ((t136.size : Int) == 64) = false := beq_eq_false_iff_ne.mpr c4; have c4b1 : ((t136.size : Int) != 64) = true := bne_iff_ne.mpr c4; obtain rfl := Option.some.inj H; go_enter Tryd.func31, Tryd.ntmps31
  go_wp2_with (first | ((with_reducible refine gC 52 rfl ?_); refine gL 7 Tryd.func52 #[.string a0, .string (⟨#[115, 104, 97, 50, 53, 54, 58]⟩ : ByteArray)] ?_; (with_reducible refine (strings_CutPrefix.calls a0 (⟨#[115, 104, 97, 50, 53, 54, 58]⟩ : ByteArray) t136 true _ A2.out).mono ?_); rintro e w' ⟨rfl, ⟨nd, rfl⟩⟩; refine ⟨_, rfl, ?_⟩))
  go_ret; exact ⟨zq7, zq2⟩
 replace c3 := Bool.eq_false_iff.mpr c3; subst c3; rw [if_neg (show ¬ (false = true) by decide)] at H; obtain rfl := Option.some.inj H; go_enter Tryd.func31, Tryd.ntmps31
 go_wp2_with (first | ((with_reducible refine gC 52 rfl ?_); refine gL 7 Tryd.func52 #[.string a0, .string (⟨#[115, 104, 97, 50, 53, 54, 58]⟩ : ByteArray)] ?_; (with_reducible refine (strings_CutPrefix.calls a0 (⟨#[115, 104, 97, 50, 53, 54, 58]⟩ : ByteArray) t136 false _ A2.out).mono ?_); rintro e w' ⟨rfl, ⟨nd, rfl⟩⟩; refine ⟨_, rfl, ?_⟩))
 go_ret; exact ⟨zq7, zq2⟩

/-! ### strings_genSplit: function 68 (given) -/
def strings_genSplit.f (a0 : ByteArray) (a1 : ByteArray) (a2 : Int) (a3 : Int) : Option (List ByteArray) := if a0.size < 4294967281 ∧ a1.size = 1 ∧ a2 = 0 ∧ a3 = -1 then some (Lib.splitB a1 0 (Lib.countB a0 a1) a0) else none
set_option maxRecDepth 100000 in
theorem strings_genSplit.calls (a0 : ByteArray) (a1 : ByteArray) (a2 : Int) (a3 : Int) (r : List ByteArray) (w : World) (h : strings_genSplit.f a0 a1 a2 a3 = some r) :
    Calls Tryd.prog 68 #[.string a0, .string a1, .int .i64 a2, .int .i64 a3] w fun e w' => ∃ v0_ : Value, e = .returned (v0_) ∧ Kd.R Kd.string 9 w' w.heap.size (fun _ => True) v0_ r ∧ Below w.heap.size w w' := by
  unfold strings_genSplit.f at h
  split at h
  case isFalse => exact absurd h (by simp)
  rename_i hg
  injection h with h
  subst h; obtain ⟨hs, h1, rfl, rfl⟩ := hg; obtain ⟨c, rfl⟩ := Lib.one_byte a1 h1; have hle := Lib.countB_le (⟨#[c]⟩ : ByteArray) (Nat.le_of_eq h1.symm) a0.size a0 (Nat.le_refl _); have hlen := Lib.splitB_all (⟨#[c]⟩ : ByteArray) (Nat.le_of_eq h1.symm) 0 _ a0 rfl
  have hcl : Lib.countB a0 (⟨#[c]⟩ : ByteArray) ≤ a0.size := by
    exact hle
  have hC : Calls Tryd.prog (Tryd.lays221_ren.f 138) #[.string a0, .string (⟨#[c]⟩ : ByteArray)] w fun e w' => e = .returned (.int .i64 (Lib.countB a0 (⟨#[c]⟩ : ByteArray))) ∧ w' = w := by
    refine (Any.strings_Count_one { Tryd.lays221 with } a0 c w).mono ?_; rintro e w' ⟨rfl, rfl⟩; refine ⟨?_, rfl⟩; show _ = Ending.returned (Value.int .i64 ((Lib.count a0.data.toList [c] : Nat) : Int)); rw [Lib.count_one]
    rfl
  have hI : ∀ (x : ByteArray) (cc : Array Value), x.size ≤ a0.size → Calls Tryd.prog (Tryd.lays221_ren.f 143) #[.string x, .string (⟨#[c]⟩ : ByteArray)] (w.alloc (.cells cc (Tryd.lays221_ren.t 9))) fun e w' => e = .returned (.int .i64 (Lib.indexB x (⟨#[c]⟩ : ByteArray))) ∧ w' = w.alloc (.cells cc (Tryd.lays221_ren.t 9)) := by
    intro x cc _; refine (Any.strings_Index_one { Tryd.lays221 with } x c _).mono ?_; rintro e w' ⟨rfl, rfl⟩; refine ⟨?_, rfl⟩; show _ = Ending.returned (Value.int .i64 (Lib.index x.data.toList [c])); rw [Lib.index_one]
  have hc := Any.strings_genSplit_core Tryd.lays221 (by kernel_rfl) a0 (⟨#[c]⟩ : ByteArray) 0 (-1) (Lib.countB a0 (⟨#[c]⟩ : ByteArray) + 1) w hs (Nat.le_of_eq h1.symm) (Nat.zero_le _) hI hC (by decide) (by decide) (by rw [if_pos (by decide)]; omega); rw [Nat.add_sub_cancel, hlen] at hc; have e2 : Lib.cellsOf (Lib.splitB (⟨#[c]⟩ : ByteArray) 0 (Lib.countB a0 (⟨#[c]⟩ : ByteArray)) a0) (Lib.countB a0 (⟨#[c]⟩ : ByteArray) + 1) = ((Lib.splitB (⟨#[c]⟩ : ByteArray) 0 (Lib.countB a0 (⟨#[c]⟩ : ByteArray)) a0).map Value.string).toArray := by rw [← hlen]; exact Lib.cellsOf_full _
  rw [e2] at hc; refine hc.mono ?_; rintro e w' ⟨rfl, rfl⟩; generalize Lib.splitB (⟨#[c]⟩ : ByteArray) 0 (Lib.countB a0 (⟨#[c]⟩ : ByteArray)) a0 = l at hlen; generalize Lib.countB a0 (⟨#[c]⟩ : ByteArray) = n at hlen hcl; have hm : l.length ≤ maxLen := by simp only [maxLen]; omega
  rw [← hlen]; refine ⟨_, rfl, Kd.R_of_own (enc := Value.string) ⟨by simp [encs], .inr ⟨w.heap.size, l.length, (l.map Value.string).toArray, rfl, Nat.le_refl _, Held.of (heap_alloc_new w _), Nat.le_refl _, hm, by simp, by rw [Nat.mul_one, List.toList_toArray]; exact List.take_of_length_le (by simp)⟩⟩ (fun _ _ => trivial), below_alloc (Below.refl _ _) _⟩

/-! ### strings_Split: function 49 -/
def strings_Split.f (a0 : ByteArray) (a1 : ByteArray) : Option (List ByteArray) := (strings_genSplit.f a0 a1 0 (-1)).bind fun t139 => (some t139)
set_option maxHeartbeats 8000000 in
set_option maxRecDepth 100000 in
theorem strings_Split.calls (a0 : ByteArray) (a1 : ByteArray) (r : List ByteArray) (w : World) (h : strings_Split.f a0 a1 = some r) :
  Calls Tryd.prog 49 #[.string a0, .string a1] w fun e w' => ∃ v0_ : Value, e = .returned (v0_) ∧ Kd.R Kd.string 9 w' w.heap.size (fun _ => True) v0_ r ∧ Below w.heap.size w w' := by
 have HB := aM (Below.refl w.heap.size w); unfold strings_Split.f at h; have H := h; clear h; replace H := Option.bind_eq_some_iff.mp H; obtain ⟨t139, A30, H⟩ := H; replace H : (some t139) = some r := H; have A3 := aM A30; clear A30; obtain rfl := Option.some.inj H; go_enter Tryd.func49, Tryd.ntmps49
 go_wp2_with (first | ((with_reducible refine gC 68 rfl ?_); refine gL 7 Tryd.func68 #[.string a0, .string a1, .int .i64 0, .int .i64 (-1)] ?_; (with_reducible refine (strings_genSplit.calls a0 a1 0 (-1) t139 _ A3.out).mono ?_); rintro e w4 ⟨v140, rfl, ho0, hb⟩; refine ⟨_, rfl, ?_⟩; have HO141 := aM (Kd.R_lower ho0 (below_size zq2)); replace HB := sB zq2 hb; clear hb; (try clear ho0)))
 go_ret; exact ⟨_, zq7, by refine dR ?_; exact HO141.out, zq2⟩

/-! ### stringslite_HasSuffix: function 95 -/
def stringslite_HasSuffix.f (a0 : ByteArray) (a1 : ByteArray) : Option (Bool) := if (a0.size : Int) ≥ (a1.size : Int) then (if 0 ≤ (wrap64 ((a0.size : Int) - (a1.size : Int))) then (if (wrap64 ((a0.size : Int) - (a1.size : Int))) ≤ (a0.size : Int) then (some ((a0.extract ((wrap64 ((a0.size : Int) - (a1.size : Int))) : Int).toNat a0.size).toList == a1.toList)) else (none)) else (none)) else (some false)
set_option maxHeartbeats 8000000 in
set_option maxRecDepth 100000 in
theorem stringslite_HasSuffix.calls (a0 : ByteArray) (a1 : ByteArray) (r : Bool) (w : World) (h : stringslite_HasSuffix.f a0 a1 = some r) :
  Calls Tryd.prog 95 #[.string a0, .string a1] w fun e w' => e = .returned (.bool r) ∧ Drawn0 w w' := by
 unfold stringslite_HasSuffix.f at h; have H := h; clear h; by_cases c3 : (a0.size : Int) ≥ (a1.size : Int)
 ·
  rw [if_pos c3] at H; have c3b0 : decide ((a1.size : Int) ≤ (a0.size : Int)) = true := decide_eq_true c3; have c3b1 : decide (a1.size ≤ a0.size) = true := decide_eq_true (Int.ofNat_le.mp c3); clear c3; obtain ⟨ji4, hji4⟩ : ∃ j_ : Int, (wrap64 ((a0.size : Int) - (a1.size : Int))) = j_ := ⟨_, rfl⟩; replace H : (if 0 ≤ (ji4) then (if (ji4) ≤ (a0.size : Int) then (some ((a0.extract ((ji4) : Int).toNat a0.size).toList == a1.toList)) else (none)) else (none)) = some r := by first | (rw [hji4] at H; exact H) | (simp only [hji4] at H ⊢; exact H)
  have hji4w : (IntKind.i64.wrap ((a0.size : Int) - (a1.size : Int))) = ji4 := (i64_w _).trans hji4; by_cases c5 : 0 ≤ (ji4)
  ·
   rw [if_pos c5] at H; have c5b0 := eq_true c5; have c5b1 := decide_eq_true c5; clear c5; by_cases c6 : (ji4) ≤ (a0.size : Int)
   ·
    rw [if_pos c6] at H; have c6b0 := eq_true c6; have c6b1 := decide_eq_true c6; clear c6; obtain rfl := Option.some.inj H; go_enter Tryd.func95, Tryd.ntmps95; go_wp2; go_ret; exact ⟨by first | rfl | (simp; done) | (simp only [← hji4] <;> (first | rfl | simp)) | (simp [*]; done), zq8⟩
   exact zq103
  exact zq99
 rw [if_neg c3] at H; have c3b0 : decide ((a1.size : Int) ≤ (a0.size : Int)) = false := decide_eq_false c3; have c3b1 : decide (a1.size ≤ a0.size) = false := decide_eq_false (fun h => c3 (Int.ofNat_le.mpr h)); clear c3; obtain rfl := Option.some.inj H; go_enter Tryd.func95, Tryd.ntmps95; go_wp2; go_ret; exact ⟨zq3, zq8⟩

/-! ### stringslite_CutSuffix: function 81 -/
def stringslite_CutSuffix.f (a0 : ByteArray) (a1 : ByteArray) : Option (ByteArray × Bool) := (stringslite_HasSuffix.f a0 a1).bind fun t142 => (if t142 = true then (if 0 ≤ (wrap64 ((a0.size : Int) - (a1.size : Int))) then (if (wrap64 ((a0.size : Int) - (a1.size : Int))) ≤ (a0.size : Int) then (some (a0.extract 0 ((wrap64 ((a0.size : Int) - (a1.size : Int))) : Int).toNat, true)) else (none)) else (none)) else (some (a0, false)))
set_option maxHeartbeats 8000000 in
set_option maxRecDepth 100000 in
theorem stringslite_CutSuffix.calls (a0 : ByteArray) (a1 : ByteArray) (r1 : ByteArray) (r2 : Bool) (w : World) (h : stringslite_CutSuffix.f a0 a1 = some (r1, r2)) :
  Calls Tryd.prog 81 #[.string a0, .string a1] w fun e w' => e = .returned (.tuple #[.string r1, .bool r2]) ∧ Drawn0 w w' := by
 unfold stringslite_CutSuffix.f at h; have H := h; clear h; replace H := Option.bind_eq_some_iff.mp H; obtain ⟨t142, A30, H⟩ := H; (try dsimp only at H); have A3 := aM A30; clear A30; by_cases c4 : t142 = true
 ·
  subst c4; rw [if_pos rfl] at H; obtain ⟨ji5, hji5⟩ : ∃ j_ : Int, (wrap64 ((a0.size : Int) - (a1.size : Int))) = j_ := ⟨_, rfl⟩; replace H : (if 0 ≤ (ji5) then (if (ji5) ≤ (a0.size : Int) then (some (a0.extract 0 ((ji5) : Int).toNat, true)) else (none)) else (none)) = some (r1, r2) := by first | (rw [hji5] at H; exact H) | (simp only [hji5] at H ⊢; exact H)
  (try rw [hji5] at A3); have hji5w : (IntKind.i64.wrap ((a0.size : Int) - (a1.size : Int))) = ji5 := (i64_w _).trans hji5; by_cases c6 : 0 ≤ (ji5)
  ·
   rw [if_pos c6] at H; have c6b0 := eq_true c6; have c6b1 := decide_eq_true c6; clear c6; by_cases c7 : (ji5) ≤ (a0.size : Int)
   ·
    rw [if_pos c7] at H; have c7b0 := eq_true c7; have c7b1 := decide_eq_true c7; clear c7; simp only [Option.some.injEq, Prod.mk.injEq] at H; obtain ⟨rfl, rfl⟩ := H; go_enter Tryd.func81, Tryd.ntmps81
    go_wp2_with (first | ((with_reducible refine gC 95 rfl ?_); refine gL 8 Tryd.func95 #[.string a0, .string a1] ?_; (with_reducible refine (stringslite_HasSuffix.calls a0 a1 true _ A3.out).mono ?_); rintro e w' ⟨rfl, ⟨nd, rfl⟩⟩; refine ⟨_, rfl, ?_⟩))
    go_ret2
    exact ⟨by first | rfl | (simp; done) | (simp only [← hji5] <;> (first | rfl | simp)) | (simp [*]; done), zq8⟩
   rw [if_neg c7] at H; exact absurd H (by simp)
  exact zq103
 replace c4 := Bool.eq_false_iff.mpr c4; subst c4; rw [if_neg (show ¬ (false = true) by decide)] at H; simp only [Option.some.injEq, Prod.mk.injEq] at H; obtain ⟨rfl, rfl⟩ := H; go_enter Tryd.func81, Tryd.ntmps81
 go_wp2_with (first | ((with_reducible refine gC 95 rfl ?_); refine gL 8 Tryd.func95 #[.string a0, .string a1] ?_; (with_reducible refine (stringslite_HasSuffix.calls a0 a1 false _ A3.out).mono ?_); rintro e w' ⟨rfl, ⟨nd, rfl⟩⟩; refine ⟨_, rfl, ?_⟩))
 go_ret2
 exact ⟨zq3, zq8⟩

/-! ### strings_CutSuffix: function 60 -/
def strings_CutSuffix.f (a0 : ByteArray) (a1 : ByteArray) : Option (ByteArray × Bool) := (stringslite_CutSuffix.f a0 a1).bind fun bt143 => (some (bt143.1, bt143.2))
set_option maxHeartbeats 8000000 in
set_option maxRecDepth 100000 in
theorem strings_CutSuffix.calls (a0 : ByteArray) (a1 : ByteArray) (r1 : ByteArray) (r2 : Bool) (w : World) (h : strings_CutSuffix.f a0 a1 = some (r1, r2)) :
  Calls Tryd.prog 60 #[.string a0, .string a1] w fun e w' => e = .returned (.tuple #[.string r1, .bool r2]) ∧ Drawn0 w w' := by
 unfold strings_CutSuffix.f at h; have H := h; clear h; replace H := Option.bind_eq_some_iff.mp H; obtain ⟨⟨t143, t144⟩, A30, H⟩ := H; replace H : (some (t143, t144)) = some (r1, r2) := H; have A3 := aM A30; clear A30; simp only [Option.some.injEq, Prod.mk.injEq] at H; obtain ⟨rfl, rfl⟩ := H; go_enter Tryd.func60, Tryd.ntmps60
 go_wp2_with (first | ((with_reducible refine gC 81 rfl ?_); refine gL 8 Tryd.func81 #[.string a0, .string a1] ?_; (with_reducible refine (stringslite_CutSuffix.calls a0 a1 t143 t144 _ A3.out).mono ?_); rintro e w' ⟨rfl, ⟨nd, rfl⟩⟩; refine ⟨_, rfl, ?_⟩))
 go_ret2
 exact ⟨zq3, zq8⟩

/-! ### impl_isManifest: function 61 (walked by hand) -/
set_option maxHeartbeats 8000000 in
/-- The closure: a text that is no digest. -/
theorem impl_isManifest.clo (d : ByteArray) (t : Bool) (w : World) (h : impl_isDigest.f d = some t) :
  Calls Tryd.prog 83 #[.string d] w fun e w' => e = .returned (.bool (!t)) ∧ Below w.heap.size w w' := by
 go_enter Tryd.func83, Tryd.ntmps83
 go_wp2_with (fail)
 refine (impl_isDigest.calls d t _ h).mono ?_; rintro e w2 ⟨rfl, hb⟩
 try dsimp only
 go_wp2; go_ret; exact ⟨rfl, hb⟩
/-- The first place from i on at which there is no digest, or -1. -/
def impl_isManifest.at (l : List ByteArray) : Nat → Nat → Option Int
 | 0, _ => some (-1)
 | d + 1, i => (impl_isDigest.f (rdOf ByteArray.empty l (i : Int))).bind fun t => if t = true then impl_isManifest.at l d (i + 1) else some (i : Int)
set_option maxHeartbeats 8000000 in
theorem impl_isManifest.index (l : List ByteArray) (A : Option Addr) (c : Nat) (r : Int) (w : World) (hr : Kd.C Kd.string w A l.length l) (hc : l.length ≤ c) (hm : l.length ≤ 4611686018427387904) (h : impl_isManifest.at l l.length 0 = some r) :
  Calls Tryd.prog 96 #[.slice A l.length c, .func (.func 83) #[] #[]] w fun e w' => e = .returned (.int .i64 r) ∧ Below w.heap.size w w' := by
 have HR := aM hr; have HC := aM hc; have HM := aM hm; have H := aM h; clear hr hc hm h; go_enter Tryd.func96, Tryd.ntmps96; go_wp2
 go_loopg [8] l.length (fun kq v8 w' => ∃ (i : Nat) (x8 : Int), v8 = .int .i64 x8 ∧ Aside0 (x8 = (i : Int)) ∧ Aside0 (i + kq = l.length) ∧ Aside0 (impl_isManifest.at l kq i = some r) ∧ Aside0 (Below w.heap.size w w'))
 case atStart => exact ⟨0, 0, rfl, ⟨rfl⟩, ⟨by omega⟩, H, ⟨Below.refl _ _⟩⟩
 case round =>
  obtain ⟨i, x8, rfl, HI, hi, HE, HB⟩ := hrel
  cases gk with
  | zero =>
   have c1 : decide (x8 < (l.length : Int)) = false := decide_eq_false zq29; go_wp2; go_ret; have e1 := HE.out; unfold impl_isManifest.at at e1
   injection e1 with e1
   exact ⟨by first | (rw [← e1]; done) | (rw [← e1]; rfl), HB.out⟩
  | succ k1 =>
   have c1 : decide (x8 < (l.length : Int)) = true := decide_eq_true zq29; have b1 := eq_true (show 0 ≤ x8 by have := HI.out; omega); have b2 := eq_true (show x8 < (l.length : Int) by have := HI.out; have := hi.out; omega); obtain ⟨ad, e1, h0⟩ := Kd.at_string HR.out x8 (by have := HI.out; omega) zq29; subst e1; have hx0 : wr.cell? (ad.add x8.toNat) = some (.string (rdOf ByteArray.empty l x8)) := hxB HB h0; clear h0; have E := HE.out; unfold impl_isManifest.at at E; rw [← HI.out] at E; obtain ⟨t, ht, E⟩ := Option.bind_eq_some_iff.mp E; have HT := aM ht; have EE := aM E; clear ht E
   cases t with
   | true =>
    go_wp2_with (fail)
    refine (impl_isManifest.clo _ true _ HT.out).mono ?_; rintro e w7 ⟨rfl, hb⟩; have HB2 := aM (below_step HB.out hb); clear hb
    try dsimp only
    go_wp2
    go_roundg k1
    case measure => omega
    case rel =>
     refine ⟨i + 1, wrap64 (x8 + 1), rfl, ⟨?_⟩, ⟨by have := hi.out; omega⟩, ⟨?_⟩, HB2⟩
     ·
      rw [HI.out]; have := hi.out; have := HM.out; unfold wrap64; omega
     simpa using EE.out
   | false =>
    go_wp2_with (fail)
    refine (impl_isManifest.clo _ false _ HT.out).mono ?_; rintro e w7 ⟨rfl, hb⟩; have HB2 := aM (below_step HB.out hb); clear hb
    try dsimp only
    go_wp2; go_ret; have e2 := EE.out; rw [if_neg (by decide), Option.some.injEq] at e2; exact ⟨by first | (rw [← e2]; done) | (rw [← e2]; rfl), HB2.out⟩
set_option maxHeartbeats 8000000 in
theorem impl_isManifest.contains (l : List ByteArray) (A : Option Addr) (c : Nat) (r : Int) (w : World) (hr : Kd.C Kd.string w A l.length l) (hc : l.length ≤ c) (hm : l.length ≤ 4611686018427387904) (h : impl_isManifest.at l l.length 0 = some r) :
  Calls Tryd.prog 82 #[.slice A l.length c, .func (.func 83) #[] #[]] w fun e w' => e = .returned (.bool (decide (0 ≤ r))) ∧ Below w.heap.size w w' := by
 go_enter Tryd.func82, Tryd.ntmps82
 go_wp2_with (fail)
 refine (impl_isManifest.index l A c r _ hr hc hm h).mono ?_; rintro e w2 ⟨rfl, hb⟩
 try dsimp only
 go_wp2; go_ret; exact ⟨rfl, hb⟩
def impl_isManifest.f (a0_0 : ByteArray) (l0_1 : List ByteArray) : Option Bool := (impl_isDigest.f a0_0).bind fun t => if t = true then (if 1 ≤ (l0_1.length : Int) then (if (l0_1.length : Int) ≤ 40 then ((impl_isManifest.at l0_1 l0_1.length 0).bind fun i => some (!decide (0 ≤ i))) else some false) else some false) else some false
set_option maxHeartbeats 8000000 in
theorem impl_isManifest.calls (a0_0 : ByteArray) (A0_1 : Option Addr) (c0_1 : Nat) (l0_1 : List ByteArray) (r : Bool) (w : World) (hr0_1 : Kd.C Kd.string w A0_1 l0_1.length l0_1) (hc0_1 : l0_1.length ≤ c0_1) (h : impl_isManifest.f a0_0 l0_1 = some r) :
  Calls Tryd.prog 61 #[.agg #[.string a0_0, .slice A0_1 l0_1.length c0_1]] w fun e w' => e = .returned (.bool r) ∧ Below w.heap.size w w' := by
 have HR := aM hr0_1; have HC := aM hc0_1; have HB := aM (Below.refl w.heap.size w); unfold impl_isManifest.f at h; obtain ⟨t, ht, h⟩ := Option.bind_eq_some_iff.mp h; have HT := aM ht; clear hr0_1 hc0_1 ht
 cases t with
 | false =>
  rw [if_neg (by decide)] at h
  injection h with h
  subst h; go_enter Tryd.func61, Tryd.ntmps61
  go_wp2_with ((with_reducible refine gD 1 rfl ?_); refine bE 1 #[.string a0_0, .slice A0_1 l0_1.length c0_1] 35 ?_; intro gb hg w1 hbox hb; have BK := aM hbox; replace HB := sB HB.out hb; clear hb hbox hg; obtain ⟨z0, z1, f0, f1⟩ := cells2_ (w := w1) BK)
  refine (impl_isDigest.calls a0_0 false _ HT.out).mono ?_; rintro e w2 ⟨rfl, hb⟩; replace HB := sB HB.out hb; clear hb
  try dsimp only
  go_wp2; go_ret; exact ⟨rfl, HB.out⟩
 | true =>
  rw [if_pos rfl] at h; by_cases g1 : 1 ≤ (l0_1.length : Int)
  ·
   rw [if_pos g1] at h; have c1 := decide_eq_true g1; by_cases g2 : (l0_1.length : Int) ≤ 40
   ·
    rw [if_pos g2] at h; have c2 := decide_eq_true g2; have HM := aM (show l0_1.length ≤ 4611686018427387904 by omega); clear g1 g2; obtain ⟨i, hi, h⟩ := Option.bind_eq_some_iff.mp h; have HI := aM hi
    injection h with h
    subst h; clear hi; go_enter Tryd.func61, Tryd.ntmps61
    go_wp2_with ((with_reducible refine gD 1 rfl ?_); refine bE 1 #[.string a0_0, .slice A0_1 l0_1.length c0_1] 35 ?_; intro gb hg w1 hbox hb; have BK := aM hbox; replace HB := sB HB.out hb; clear hb hbox hg; obtain ⟨z0, z1, f0, f1⟩ := cells2_ (w := w1) BK)
    refine (impl_isDigest.calls a0_0 true _ HT.out).mono ?_; rintro e w2 ⟨rfl, hb⟩; replace HB := sB HB.out hb; replace BK := bF BK BK.out hb; clear hb
    try dsimp only
    obtain ⟨y0, y1, p0, p1⟩ := cells2_ (w := w2) BK
    go_wp2_with (fail)
    refine (impl_isManifest.contains l0_1 A0_1 c0_1 i _ (Kd.C_below HR.out HB.out) HC.out HM.out HI.out).mono ?_; rintro e w3 ⟨rfl, hb⟩; replace HB := sB HB.out hb; clear hb
    try dsimp only
    go_wp2; go_ret; exact ⟨rfl, HB.out⟩
   rw [if_neg g2] at h; have c2 := decide_eq_false g2
   injection h with h
   subst h; clear g1 g2; go_enter Tryd.func61, Tryd.ntmps61
   go_wp2_with ((with_reducible refine gD 1 rfl ?_); refine bE 1 #[.string a0_0, .slice A0_1 l0_1.length c0_1] 35 ?_; intro gb hg w1 hbox hb; have BK := aM hbox; replace HB := sB HB.out hb; clear hb hbox hg; obtain ⟨z0, z1, f0, f1⟩ := cells2_ (w := w1) BK)
   refine (impl_isDigest.calls a0_0 true _ HT.out).mono ?_; rintro e w2 ⟨rfl, hb⟩; replace HB := sB HB.out hb; replace BK := bF BK BK.out hb; clear hb
   try dsimp only
   obtain ⟨y0, y1, p0, p1⟩ := cells2_ (w := w2) BK; go_wp2; go_ret; exact ⟨rfl, HB.out⟩
  rw [if_neg g1] at h; have c1 := decide_eq_false g1
  injection h with h
  subst h; clear g1; go_enter Tryd.func61, Tryd.ntmps61
  go_wp2_with ((with_reducible refine gD 1 rfl ?_); refine bE 1 #[.string a0_0, .slice A0_1 l0_1.length c0_1] 35 ?_; intro gb hg w1 hbox hb; have BK := aM hbox; replace HB := sB HB.out hb; clear hb hbox hg; obtain ⟨z0, z1, f0, f1⟩ := cells2_ (w := w1) BK)
  refine (impl_isDigest.calls a0_0 true _ HT.out).mono ?_; rintro e w2 ⟨rfl, hb⟩; replace HB := sB HB.out hb; replace BK := bF BK BK.out hb; clear hb
  try dsimp only
  obtain ⟨y0, y1, p0, p1⟩ := cells2_ (w := w2) BK; go_wp2; go_ret; exact ⟨rfl, HB.out⟩

end Go.Proofs.YtldpdaifajjaeaaDoor.QFnExactReadManifest
