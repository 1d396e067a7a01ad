/- Written by wip/myprint.py of this repo (the kit's print, with additions of this session). -/
import Derived.Test.YtldpdaifajjaeaaDoorQFnRefsx0
set_option maxRecDepth 100000
namespace Go.Proofs.YtldpdaifajjaeaaDoor.QFnRefs
open Go.RowKit Go.Proofs.YtldpdaifajjaeaaDoorW.PrintWords Go.Proofs.YtldpdaifajjaeaaDoorW.PrintLast Go.Proofs.YtldpdaifajjaeaaDoorW.PrintMore
attribute [local go_sem] max2_int min2_int max_two min_two max_three min_three max_four min_four   -- for this text's walks alone
set_option linter.unusedVariables false
set_option linter.unusedSimpArgs false

/-! ### strings_genSplit: function 68 (given) -/
def strings_genSplit.f (a0 : ByteArray) (a1 : ByteArray) (a2 : Int) (a3 : Int) : Option (List ByteArray) := if a0.size < 4294967281 ∧ a1.size = 1 ∧ a2 = 0 ∧ a3 = -1 then some (Lib.splitB a1 0 (Lib.countB a0 a1) a0) else none
set_option maxRecDepth 100000 in
theorem strings_genSplit.calls (a0 : ByteArray) (a1 : ByteArray) (a2 : Int) (a3 : Int) (r : List ByteArray) (w : World) (h : strings_genSplit.f a0 a1 a2 a3 = some r) :
    Calls Tryd.prog 68 #[.string a0, .string a1, .int .i64 a2, .int .i64 a3] w fun e w' => ∃ v0_ : Value, e = .returned (v0_) ∧ Kd.R Kd.string 9 w' w.heap.size (fun _ => True) v0_ r ∧ Below w.heap.size w w' := by
  unfold strings_genSplit.f at h
  split at h
  case isFalse => exact absurd h (by simp)
  rename_i hg
  injection h with h
  subst h; obtain ⟨hs, h1, rfl, rfl⟩ := hg; obtain ⟨c, rfl⟩ := Lib.one_byte a1 h1; have hle := Lib.countB_le (⟨#[c]⟩ : ByteArray) (Nat.le_of_eq h1.symm) a0.size a0 (Nat.le_refl _); have hlen := Lib.splitB_all (⟨#[c]⟩ : ByteArray) (Nat.le_of_eq h1.symm) 0 _ a0 rfl
  have hcl : Lib.countB a0 (⟨#[c]⟩ : ByteArray) ≤ a0.size := by
    exact hle
  have hC : Calls Tryd.prog (Tryd.lays221_ren.f 138) #[.string a0, .string (⟨#[c]⟩ : ByteArray)] w fun e w' => e = .returned (.int .i64 (Lib.countB a0 (⟨#[c]⟩ : ByteArray))) ∧ w' = w := by
    refine (Any.strings_Count_one { Tryd.lays221 with } a0 c w).mono ?_; rintro e w' ⟨rfl, rfl⟩; refine ⟨?_, rfl⟩; show _ = Ending.returned (Value.int .i64 ((Lib.count a0.data.toList [c] : Nat) : Int)); rw [Lib.count_one]
    rfl
  have hI : ∀ (x : ByteArray) (cc : Array Value), x.size ≤ a0.size → Calls Tryd.prog (Tryd.lays221_ren.f 143) #[.string x, .string (⟨#[c]⟩ : ByteArray)] (w.alloc (.cells cc (Tryd.lays221_ren.t 9))) fun e w' => e = .returned (.int .i64 (Lib.indexB x (⟨#[c]⟩ : ByteArray))) ∧ w' = w.alloc (.cells cc (Tryd.lays221_ren.t 9)) := by
    intro x cc _; refine (Any.strings_Index_one { Tryd.lays221 with } x c _).mono ?_; rintro e w' ⟨rfl, rfl⟩; refine ⟨?_, rfl⟩; show _ = Ending.returned (Value.int .i64 (Lib.index x.data.toList [c])); rw [Lib.index_one]
  have hc := Any.strings_genSplit_core Tryd.lays221 (by kernel_rfl) a0 (⟨#[c]⟩ : ByteArray) 0 (-1) (Lib.countB a0 (⟨#[c]⟩ : ByteArray) + 1) w hs (Nat.le_of_eq h1.symm) (Nat.zero_le _) hI hC (by decide) (by decide) (by rw [if_pos (by decide)]; omega); rw [Nat.add_sub_cancel, hlen] at hc; have e2 : Lib.cellsOf (Lib.splitB (⟨#[c]⟩ : ByteArray) 0 (Lib.countB a0 (⟨#[c]⟩ : ByteArray)) a0) (Lib.countB a0 (⟨#[c]⟩ : ByteArray) + 1) = ((Lib.splitB (⟨#[c]⟩ : ByteArray) 0 (Lib.countB a0 (⟨#[c]⟩ : ByteArray)) a0).map Value.string).toArray := by rw [← hlen]; exact Lib.cellsOf_full _
  rw [e2] at hc; refine hc.mono ?_; rintro e w' ⟨rfl, rfl⟩; generalize Lib.splitB (⟨#[c]⟩ : ByteArray) 0 (Lib.countB a0 (⟨#[c]⟩ : ByteArray)) a0 = l at hlen; generalize Lib.countB a0 (⟨#[c]⟩ : ByteArray) = n at hlen hcl; have hm : l.length ≤ maxLen := by simp only [maxLen]; omega
  rw [← hlen]; refine ⟨_, rfl, Kd.R_of_own (enc := Value.string) ⟨by simp [encs], .inr ⟨w.heap.size, l.length, (l.map Value.string).toArray, rfl, Nat.le_refl _, Held.of (heap_alloc_new w _), Nat.le_refl _, hm, by simp, by rw [Nat.mul_one, List.toList_toArray]; exact List.take_of_length_le (by simp)⟩⟩ (fun _ _ => trivial), below_alloc (Below.refl _ _) _⟩

/-! ### strings_Split: function 49 -/
def strings_Split.f (a0 : ByteArray) (a1 : ByteArray) : Option (List ByteArray) := (strings_genSplit.f a0 a1 0 (-1)).bind fun t101 => (some t101)
set_option maxHeartbeats 8000000 in
set_option maxRecDepth 100000 in
theorem strings_Split.calls (a0 : ByteArray) (a1 : ByteArray) (r : List ByteArray) (w : World) (h : strings_Split.f a0 a1 = some r) :
  Calls Tryd.prog 49 #[.string a0, .string a1] w fun e w' => ∃ v0_ : Value, e = .returned (v0_) ∧ Kd.R Kd.string 9 w' w.heap.size (fun _ => True) v0_ r ∧ Below w.heap.size w w' := by
 have HB := aM (Below.refl w.heap.size w); unfold strings_Split.f at h; have H := h; clear h; replace H := Option.bind_eq_some_iff.mp H; obtain ⟨t101, A30, H⟩ := H; replace H : (some t101) = some r := H; have A3 := aM A30; clear A30; obtain rfl := Option.some.inj H; go_enter Tryd.func49, Tryd.ntmps49
 go_wp2_with (first | ((with_reducible refine gC 68 rfl ?_); refine gL 7 Tryd.func68 #[.string a0, .string a1, .int .i64 0, .int .i64 (-1)] ?_; (with_reducible refine (strings_genSplit.calls a0 a1 0 (-1) t101 _ A3.out).mono ?_); rintro e w4 ⟨v102, rfl, ho0, hb⟩; refine ⟨_, rfl, ?_⟩; have HO103 := aM (Kd.R_lower ho0 (below_size zq2)); replace HB := sB zq2 hb; clear hb; (try clear ho0)))
 go_ret; exact ⟨_, zq19, by refine dR ?_; exact HO103.out, zq2⟩

/-! ### impl_isWordByte: function 51 -/
def impl_isWordByte.f (a0 : Int) : Option (Bool) := if a0 ≥ 97 then (if a0 ≤ 122 then (some true) else (if a0 ≥ 48 then (some (decide (a0 ≤ 57))) else (some false))) else (if a0 ≥ 48 then (some (decide (a0 ≤ 57))) else (some false))
set_option maxHeartbeats 8000000 in
set_option maxRecDepth 100000 in
theorem impl_isWordByte.calls (a0 : Int) (r : Bool) (w : World) (h : impl_isWordByte.f a0 = some r) :
  Calls Tryd.prog 51 #[.int .u8 a0] w fun e w' => e = .returned (.bool r) ∧ Drawn0 w w' := by
 unfold impl_isWordByte.f at h; have H := h; clear h; by_cases c2 : a0 ≥ 97
 ·
  rw [if_pos c2] at H; have c2b0 : decide (97 ≤ a0) = true := decide_eq_true c2; clear c2; by_cases c3 : a0 ≤ 122
  ·
   rw [if_pos c3] at H; have c3b0 := decide_eq_true c3; clear c3; obtain rfl := Option.some.inj H; go_enter Tryd.func51, Tryd.ntmps51; go_wp2; go_ret; exact ⟨zq6, zq20⟩
  rw [if_neg c3] at H; have c3b0 := decide_eq_false c3; clear c3; by_cases c4 : a0 ≥ 48
  ·
   rw [if_pos c4] at H; have c4b0 : decide (48 ≤ a0) = true := decide_eq_true c4; clear c4; obtain rfl := Option.some.inj H; go_enter Tryd.func51, Tryd.ntmps51; go_wp2; go_ret; exact ⟨zq6, zq20⟩
  rw [if_neg c4] at H; have c4b0 : decide (48 ≤ a0) = false := decide_eq_false c4; clear c4; obtain rfl := Option.some.inj H; go_enter Tryd.func51, Tryd.ntmps51; go_wp2; go_ret; exact ⟨zq6, zq20⟩
 rw [if_neg c2] at H; have c2b0 : decide (97 ≤ a0) = false := decide_eq_false c2; clear c2; by_cases c5 : a0 ≥ 48
 ·
  rw [if_pos c5] at H; have c5b0 : decide (48 ≤ a0) = true := decide_eq_true c5; clear c5; obtain rfl := Option.some.inj H; go_enter Tryd.func51, Tryd.ntmps51; go_wp2; go_ret; exact ⟨zq6, zq20⟩
 rw [if_neg c5] at H; have c5b0 : decide (48 ≤ a0) = false := decide_eq_false c5; clear c5; obtain rfl := Option.some.inj H; go_enter Tryd.func51, Tryd.ntmps51; go_wp2; go_ret; exact ⟨zq6, zq20⟩

/-! ### impl_isRepoPart: function 50 (walked by hand) -/

/-- Words with marks between them, byte by byte: 0: a word must begin, 1: in a word, 3: behind one '_', 5: in a row of '-'. -/
def impl_isRepoPart.A : Nat → List Int → Bool
 | q, [] => q == 1
 | q, c :: l => if impl_isWordByte.f c = some true then impl_isRepoPart.A 1 l else if q = 1 then (if c = 46 then impl_isRepoPart.A 0 l else if c = 95 then impl_isRepoPart.A 3 l else if c = 45 then impl_isRepoPart.A 5 l else false) else if q = 3 then (if c = 95 then impl_isRepoPart.A 0 l else false) else if q = 5 then (if c = 45 then impl_isRepoPart.A 5 l else false) else false
def impl_isRepoPart.f (a0 : ByteArray) : Option Bool := if a0.size ≤ 100 then some (impl_isRepoPart.A 0 (bytesOf a0)) else none
theorem impl_isRepoPart.word (c : Int) : ∃ b, impl_isWordByte.f c = some b := by
 unfold impl_isWordByte.f
 repeat' split
 all_goals exact ⟨_, rfl⟩
/-- How long a mark may be. -/
def impl_isRepoPart.most (c : Int) : Int := if c = 46 then 1 else if c = 95 then 2 else if c = 45 then 100 else 0
theorem impl_isRepoPart.low_not {c : Int} (h : c = 46 ∨ c = 95 ∨ c = 45) : ¬ impl_isWordByte.f c = some true := by
 rcases h with rfl | rfl | rfl <;> decide
theorem impl_isRepoPart.A_other (c : Int) (q : Nat) (l : List Int) (hq : q = 3 ∧ c ≠ 95 ∨ q = 5 ∧ c ≠ 45) (hl : ∀ x ∈ l.head?, x = c → False) : True := trivial
theorem impl_isRepoPart.dashes (l : List Int) (hl : l.head? ≠ some 45) : ∀ n : Nat, impl_isRepoPart.A 5 (List.replicate n 45 ++ l) = impl_isRepoPart.A 0 l := by
 intro n
 induction n with
 | zero =>
  cases l with
  | nil => rfl
  | cons x l =>
   have hx : x ≠ 45 := fun e => hl (by rw [e]; rfl)
   simp [impl_isRepoPart.A, hx]
 | succ n ih =>
  rw [List.replicate_succ, List.cons_append, impl_isRepoPart.A, if_neg (impl_isRepoPart.low_not (.inr (.inr rfl))), if_neg (by decide), if_neg (by decide), if_pos rfl, if_pos rfl, ih]
/-- A row of n alike bytes behind a word. -/
theorem impl_isRepoPart.mark (c : Int) (hc : ¬ impl_isWordByte.f c = some true) (n : Nat) (hn : 1 ≤ n) (h100 : n ≤ 100) (l : List Int) (hl : l.head? ≠ some c) :
  impl_isRepoPart.A 1 (List.replicate n c ++ l) = if (n : Int) > impl_isRepoPart.most c then false else impl_isRepoPart.A 0 l := by
 obtain ⟨m, rfl⟩ : ∃ m, n = m + 1 := ⟨n - 1, by omega⟩; rw [List.replicate_succ, List.cons_append, impl_isRepoPart.A, if_neg hc, if_pos rfl]; unfold impl_isRepoPart.most; by_cases h1 : c = 46
 ·
  subst h1; rw [if_pos rfl, if_pos rfl]
  cases m with
  | zero => rw [if_neg (by decide)]; rfl
  | succ m => rw [if_pos (by omega), List.replicate_succ, List.cons_append, impl_isRepoPart.A, if_neg hc, if_neg (by decide), if_neg (by decide), if_neg (by decide)]
 rw [if_neg h1, if_neg h1]; by_cases h2 : c = 95
 ·
  subst h2; rw [if_pos rfl, if_pos rfl]
  cases m with
  | zero =>
   rw [if_neg (by decide), List.replicate_zero, List.nil_append]
   cases l with
   | nil => rfl
   | cons x l =>
    have hx : x ≠ 95 := fun e => hl (by rw [e]; rfl)
    simp [impl_isRepoPart.A, hx]
  | succ m =>
   rw [List.replicate_succ, List.cons_append, impl_isRepoPart.A, if_neg hc, if_neg (by decide), if_pos rfl, if_pos rfl]
   cases m with
   | zero => rw [if_neg (by decide)]; rfl
   | succ m => rw [if_pos (by omega), List.replicate_succ, List.cons_append, impl_isRepoPart.A, if_neg hc, if_neg (by decide), if_neg (by decide), if_neg (by decide)]
 rw [if_neg h2, if_neg h2]; by_cases h3 : c = 45
 ·
  subst h3; rw [if_pos rfl, if_pos rfl, if_neg (by omega), impl_isRepoPart.dashes l hl]
 rw [if_neg h3, if_neg h3, if_pos (by omega)]
def impl_isRepoPart.en (k v : Int) (b : Nat) : MapEntry := { key := .int .u8 k, val := .int .i64 v, born := b }
def impl_isRepoPart.m (w : World) (es : Array MapEntry) (c : Nat) : World := w.alloc (.map es c)
theorem impl_isRepoPart.ins (w : World) (es : Array MapEntry) (c : Nat) (k v : Int) (hn : Instr.findNow (.int .u8) (.int .u8 k) es.toList 0 = some none) :
  (Instr.mapUpdate 76 (.map (some w.heap.size)) (.int .u8 k) (.int .i64 v)).run Tryd.prog (impl_isRepoPart.m w es c) = .ok () (impl_isRepoPart.m w (es.push (impl_isRepoPart.en k v c)) (c + 1)) := by
 have hb : (impl_isRepoPart.m w es c).heap[w.heap.size]? = some (.map es c) := (MapKept.heap_alloc w _).1
 simp only [Instr.mapUpdate, Sem.run_bind, run_underlying Tryd.underlying76, Result.andThen, MapKept.run_getObj_map hb, MapKept.run_checkKey Tryd.underlying5 (show MapKept.IsKey (.int .u8) (.int .u8 k) from rfl), MapKept.run_findKey Tryd.underlying5 hn, MapKept.run_setObj_map _ hb]
 have e : (w.heap.push (Obj.map es c)).setIfInBounds w.heap.size (Obj.map (es.push (impl_isRepoPart.en k v c)) (c + 1)) = w.heap.push (Obj.map (es.push (impl_isRepoPart.en k v c)) (c + 1)) := by
  apply Array.ext'
  simp [Array.toList_setIfInBounds]
 exact congrArg (fun h => Result.ok () ({ heap := h, tape := w.tape, drawn := w.drawn, os := w.os, output := w.output } : World)) e
def impl_isRepoPart.es3 : Array MapEntry := #[impl_isRepoPart.en 46 1 0, impl_isRepoPart.en 95 2 1, impl_isRepoPart.en 45 100 2]
theorem impl_isRepoPart.look (w : World) (c : Int) : (Instr.lookup 76 (.map (some w.heap.size)) (.int .u8 c) false).run Tryd.prog (impl_isRepoPart.m w impl_isRepoPart.es3 3) = .ok (.int .i64 (impl_isRepoPart.most c)) (impl_isRepoPart.m w impl_isRepoPart.es3 3) := by
 have hb : (impl_isRepoPart.m w impl_isRepoPart.es3 3).heap[w.heap.size]? = some (.map impl_isRepoPart.es3 3) := (MapKept.heap_alloc w _).1
 obtain ⟨a, ha, hv⟩ : ∃ a, Instr.findNow (.int .u8) (.int .u8 c) impl_isRepoPart.es3.toList 0 = some a ∧ (match a with | some (_, v) => v = .int .i64 (impl_isRepoPart.most c) | none => impl_isRepoPart.most c = 0) := by
  unfold impl_isRepoPart.es3 impl_isRepoPart.most; by_cases h1 : c = 46
  ·
   exact ⟨some (0, .int .i64 1), by simp [Instr.findNow, Instr.sameNow, impl_isRepoPart.en, h1], by simp [h1]⟩
  have e1 : (c == 46) = false := beq_eq_false_iff_ne.2 h1; by_cases h2 : c = 95
  ·
   exact ⟨some (1, .int .i64 2), by simp [Instr.findNow, Instr.sameNow, impl_isRepoPart.en, h1, h2], by simp [h1, h2]⟩
  have e2 : (c == 95) = false := beq_eq_false_iff_ne.2 h2; by_cases h3 : c = 45
  ·
   exact ⟨some (2, .int .i64 100), by simp [Instr.findNow, Instr.sameNow, impl_isRepoPart.en, h1, h2, h3], by simp [h1, h2, h3]⟩
  have e3 : (c == 45) = false := beq_eq_false_iff_ne.2 h3; exact ⟨none, by simp [Instr.findNow, Instr.sameNow, impl_isRepoPart.en, e1, e2, e3], by simp [h1, h2, h3]⟩
 cases a with
 | none =>
  simp only at hv
  simp [Instr.lookup, run_underlying Tryd.underlying76, MapKept.run_getObj_map hb, MapKept.run_checkKey Tryd.underlying5 (show MapKept.IsKey (.int .u8) (.int .u8 c) from rfl), MapKept.run_findKey Tryd.underlying5 ha, Tryd.zeroValue3, Result.andThen, hv]
 | some a =>
  obtain ⟨j, v⟩ := a
  simp only at hv
  simp [Instr.lookup, run_underlying Tryd.underlying76, MapKept.run_getObj_map hb, MapKept.run_checkKey Tryd.underlying5 (show MapKept.IsKey (.int .u8) (.int .u8 c) from rfl), MapKept.run_findKey Tryd.underlying5 ha, Result.andThen, hv]
theorem impl_isRepoPart.drop (s : ByteArray) (i : Nat) (h : i < s.size) : (bytesOf s).drop i = bt s i :: (bytesOf s).drop (i + 1) := by
 have hl : i < (bytesOf s).length := by rw [bytesOf_length]; exact h
 rw [List.drop_eq_getElem_cons hl]
 congr 1
 have := rd_bytesOf s i; rw [← this]
 simp [rd, List.getD_eq_getElem?_getD, List.getElem?_eq_getElem hl]
theorem impl_isRepoPart.wsub (m j : Nat) (h : m ≤ 100) (hj : j ≤ m) : wrap64 ((m : Int) - (j : Int)) = ((m - j : Nat) : Int) := by unfold wrap64; omega
set_option maxHeartbeats 8000000 in
set_option maxRecDepth 100000 in
theorem impl_isRepoPart.calls (a0 : ByteArray) (r : Bool) (w : World) (h : impl_isRepoPart.f a0 = some r) :
  Calls Tryd.prog 50 #[.string a0] w fun e w' => e = .returned (.bool r) ∧ Below w.heap.size w w' := by
 unfold impl_isRepoPart.f at h
 split at h
 case isFalse => exact absurd h (by simp)
 rename_i hg
 injection h with h
 have HG := aM hg; have H0 := aM h; have HZ := aM (bytesOf_length a0); clear h hg; go_enter Tryd.func50, Tryd.ntmps50; go_wp2
 go_loopg [3] a0.size (fun kq v3 w' => ∃ i : Nat, v3 = .int .i64 (i : Int) ∧ Aside0 (i + kq = a0.size) ∧ Aside0 (impl_isRepoPart.A 0 ((bytesOf a0).drop i) = r) ∧ Aside0 (Below w.heap.size w w'))
 case atStart => exact ⟨0, rfl, ⟨Nat.zero_add _⟩, ⟨by rw [List.drop_zero]; exact H0.out⟩, ⟨Below.refl _ _⟩⟩
 case round =>
  obtain ⟨i, rfl, HI, HA, HB⟩ := hrel; go_wp2
  go_loopg [3] gk (fun kq v3 w' => ∃ j : Nat, v3 = .int .i64 (j : Int) ∧ Aside0 (j + kq = a0.size) ∧ Aside0 (i ≤ j) ∧ Aside0 (if i = j then impl_isRepoPart.A 0 ((bytesOf a0).drop j) = r else impl_isRepoPart.A 1 ((bytesOf a0).drop j) = r) ∧ Aside0 (Below w.heap.size w w'))
  case atStart => exact ⟨i, rfl, HI, ⟨Nat.le_refl _⟩, ⟨by rw [if_pos rfl]; exact HA.out⟩, HB⟩
  case round =>
   obtain ⟨j, rfl, HJ, HIJ, HA2, HB2⟩ := hrel; by_cases hlt : j < a0.size
   ·
    obtain ⟨b, hb⟩ := impl_isRepoPart.word (bt a0 (j : Int)); have HW := aM hb; have c1 := decide_eq_true (show (j : Int) < (a0.size : Int) by omega); have c2 := decide_eq_true (show j < a0.size from hlt); have c3 := eq_true (show (0 : Int) ≤ (j : Int) by omega); have c4 := eq_true (show (j : Int) < (a0.size : Int) by omega); have hx : ∀ h : j < a0.size, ((a0[j]'h).toNat : Int) = bt a0 (j : Int) := bt_at a0 (j : Int); clear hb
    go_wp2_with (fail)
    refine (impl_isWordByte.calls (bt a0 (j : Int)) b wr HW.out).mono ?_; rintro e w2 ⟨rfl, ⟨nd, rfl⟩⟩
    try dsimp only
    cases b with
    | true =>
     go_wp2
     go_roundg (gk - 1)
     case measure => have := HJ.out; omega
     case rel =>
      refine ⟨j + 1, zq75, ⟨by have := HJ.out; omega⟩, ⟨by have := HIJ.out; omega⟩, ⟨?_⟩, ⟨pw_below_drewN HB2.out nd⟩⟩; have hs := HA2.out; rw [impl_isRepoPart.drop a0 j hlt] at hs; rw [if_neg (by have := HIJ.out; omega)]
      split at hs
      ·
       rw [impl_isRepoPart.A, if_pos HW.out] at hs; exact hs
      rw [impl_isRepoPart.A, if_pos HW.out] at hs; exact hs
    | false =>
     have hno : ¬ impl_isWordByte.f (bt a0 (j : Int)) = some true := by rw [HW.out]; simp
     have HNO := aM hno; clear hno; have hs := HA2.out; rw [impl_isRepoPart.drop a0 j hlt] at hs; by_cases hij : i = j
     ·
      subst hij; rw [if_pos rfl, impl_isRepoPart.A, if_neg HNO.out, if_neg (by decide), if_neg (by decide), if_neg (by decide)] at hs; subst hs; have c5 : ((i : Int) == (i : Int)) = true := beq_self_eq_true _; go_wp2; go_ret; exact ⟨rfl, pw_below_drewN HB2.out nd⟩
     rw [if_neg hij] at hs; have HS := aM hs; clear hs; have c5 : ((j : Int) == (i : Int)) = false := beq_eq_false_iff_ne.2 (by omega); have c6 : ((j : Int) == (a0.size : Int)) = false := beq_eq_false_iff_ne.2 (by omega); go_wp2
     go_loopg [3] gk (fun kq v3 w' => ∃ m : Nat, v3 = .int .i64 (m : Int) ∧ Aside0 (m + kq = a0.size) ∧ Aside0 (j ≤ m) ∧ Aside0 ((bytesOf a0).drop j = List.replicate (m - j) (bt a0 (j : Int)) ++ (bytesOf a0).drop m) ∧ Aside0 (Below w.heap.size w w'))
     case atStart => exact ⟨j, rfl, HJ, ⟨Nat.le_refl _⟩, ⟨by rw [Nat.sub_self]; rfl⟩, ⟨pw_below_drewN HB2.out nd⟩⟩
     case round =>
      obtain ⟨m, rfl, HM, HJM, HD, HB3⟩ := hrel; by_cases hml : m < a0.size
      ·
       have d1 := decide_eq_true (show (m : Int) < (a0.size : Int) by omega); have d2 := decide_eq_true (show m < a0.size from hml); have d3 := eq_true (show (0 : Int) ≤ (m : Int) by omega); have d4 := eq_true (show (m : Int) < (a0.size : Int) by omega); have hy : ∀ h : m < a0.size, ((a0[m]'h).toNat : Int) = bt a0 (m : Int) := bt_at a0 (m : Int); by_cases he : bt a0 (m : Int) = bt a0 (j : Int)
       ·
        have d5 : (bt a0 (m : Int) == bt a0 (j : Int)) = true := beq_iff_eq.2 he; have HE := aM he; clear he; go_wp2
        repeat (go_quiet (fail))
        go_wp2
        go_roundg (gk - 1)
        case measure => have := HM.out; omega
        case rel =>
         refine ⟨m + 1, zq75, ⟨by have := HM.out; omega⟩, ⟨by have := HJM.out; omega⟩, ⟨?_⟩, ⟨pw_below_drewN HB3.out _⟩⟩; rw [HD.out, impl_isRepoPart.drop a0 m hml, HE.out, show m + 1 - j = (m - j) + 1 by have := HJM.out; omega, List.replicate_succ', List.append_assoc]
         rfl
       have d5 : (bt a0 (m : Int) == bt a0 (j : Int)) = false := beq_eq_false_iff_ne.2 he; have HE := aM he; clear he
       have hjm : 1 ≤ m - j := by
        rcases Nat.eq_or_lt_of_le HJM.out with h | h
        ·
         subst h; exact absurd rfl HE.out
        omega
       have HF := aM (show (if ((m - j : Nat) : Int) > impl_isRepoPart.most (bt a0 (j : Int)) then false else impl_isRepoPart.A 0 ((bytesOf a0).drop m)) = r by
        have h1 := impl_isRepoPart.mark (bt a0 (j : Int)) HNO.out (m - j) hjm (by have := HG.out; have := HM.out; omega) ((bytesOf a0).drop m) (by rw [impl_isRepoPart.drop a0 m hml]; intro h; exact HE.out (Option.some.inj h)); rw [← HD.out, impl_isRepoPart.drop a0 j hlt, HS.out] at h1; exact h1.symm)
       have em : ∀ W : World, (Instr.makeMap 76 none).run Tryd.prog W = .ok (.map (some W.heap.size)) (W.alloc (.map #[] 0)) := fun _ => rfl; have e0 : ∀ (W : World) (n : Nat), (Instr.mapUpdate 76 (.map (some W.heap.size)) (.int .u8 46) (.int .i64 1)).run Tryd.prog ((W.drewN n).alloc (.map #[] 0)) = .ok () ((W.drewN n).alloc (.map #[impl_isRepoPart.en 46 1 0] 1)) := fun W n => impl_isRepoPart.ins (W.drewN n) #[] 0 46 1 rfl; have e1 : ∀ (W : World) (n : Nat), (Instr.mapUpdate 76 (.map (some W.heap.size)) (.int .u8 95) (.int .i64 2)).run Tryd.prog ((W.drewN n).alloc (.map #[impl_isRepoPart.en 46 1 0] 1)) = .ok () ((W.drewN n).alloc (.map #[impl_isRepoPart.en 46 1 0, impl_isRepoPart.en 95 2 1] 2)) := fun W n => impl_isRepoPart.ins (W.drewN n) #[impl_isRepoPart.en 46 1 0] 1 95 2 rfl; have e2 : ∀ (W : World) (n : Nat), (Instr.mapUpdate 76 (.map (some W.heap.size)) (.int .u8 45) (.int .i64 100)).run Tryd.prog ((W.drewN n).alloc (.map #[impl_isRepoPart.en 46 1 0, impl_isRepoPart.en 95 2 1] 2)) = .ok () ((W.drewN n).alloc (.map #[impl_isRepoPart.en 46 1 0, impl_isRepoPart.en 95 2 1, impl_isRepoPart.en 45 100 2] 3)) := fun W n => impl_isRepoPart.ins (W.drewN n) #[impl_isRepoPart.en 46 1 0, impl_isRepoPart.en 95 2 1] 2 45 100 rfl
       have e3 : ∀ (W : World) (n : Nat) (c : Int), (Instr.lookup 76 (.map (some W.heap.size)) (.int .u8 c) false).run Tryd.prog ((W.drewN n).alloc (.map #[impl_isRepoPart.en 46 1 0, impl_isRepoPart.en 95 2 1, impl_isRepoPart.en 45 100 2] 3)) = .ok (.int .i64 (impl_isRepoPart.most c)) ((W.drewN n).alloc (.map #[impl_isRepoPart.en 46 1 0, impl_isRepoPart.en 95 2 1, impl_isRepoPart.en 45 100 2] 3)) := fun W n c => impl_isRepoPart.look (W.drewN n) c; go_wp2
       repeat (go_quiet (fail))
       go_wp2
       all_goals rename_i hcmp
       all_goals have hm100 : m ≤ 100 := by have := HG.out; have := HM.out; omega
       all_goals rw [impl_isRepoPart.wsub m j hm100 HJM.out] at hcmp
       all_goals have hf := HF.out
       ·
        rw [if_pos hcmp] at hf; subst hf; go_ret; exact ⟨rfl, below_alloc (pw_below_drewN HB3.out _) _⟩
       rw [if_neg (by omega)] at hf
       go_roundg (a0.size - m)
       case measure =>
        have := HI.out; have := HM.out; have := HJM.out; have := HIJ.out
        omega
       case rel => exact ⟨m, rfl, ⟨by have := HM.out; omega⟩, ⟨hf⟩, ⟨below_alloc (pw_below_drewN HB3.out _) _⟩⟩
      have d1 := decide_eq_false (show ¬ (m : Int) < (a0.size : Int) by omega); have d2 := decide_eq_false (show ¬ m < a0.size from hml); have hjm : 1 ≤ m - j := by have := HM.out; omega
      have HF := aM (show (if ((m - j : Nat) : Int) > impl_isRepoPart.most (bt a0 (j : Int)) then false else impl_isRepoPart.A 0 ((bytesOf a0).drop m)) = r by
       have h1 := impl_isRepoPart.mark (bt a0 (j : Int)) HNO.out (m - j) hjm (by have := HG.out; have := HM.out; omega) ((bytesOf a0).drop m) (by rw [List.drop_eq_nil_of_le (by rw [HZ.out]; omega)]; simp); rw [← HD.out, impl_isRepoPart.drop a0 j hlt, HS.out] at h1; exact h1.symm)
      have em : ∀ W : World, (Instr.makeMap 76 none).run Tryd.prog W = .ok (.map (some W.heap.size)) (W.alloc (.map #[] 0)) := fun _ => rfl; have e0 : ∀ (W : World) (n : Nat), (Instr.mapUpdate 76 (.map (some W.heap.size)) (.int .u8 46) (.int .i64 1)).run Tryd.prog ((W.drewN n).alloc (.map #[] 0)) = .ok () ((W.drewN n).alloc (.map #[impl_isRepoPart.en 46 1 0] 1)) := fun W n => impl_isRepoPart.ins (W.drewN n) #[] 0 46 1 rfl; have e1 : ∀ (W : World) (n : Nat), (Instr.mapUpdate 76 (.map (some W.heap.size)) (.int .u8 95) (.int .i64 2)).run Tryd.prog ((W.drewN n).alloc (.map #[impl_isRepoPart.en 46 1 0] 1)) = .ok () ((W.drewN n).alloc (.map #[impl_isRepoPart.en 46 1 0, impl_isRepoPart.en 95 2 1] 2)) := fun W n => impl_isRepoPart.ins (W.drewN n) #[impl_isRepoPart.en 46 1 0] 1 95 2 rfl; have e2 : ∀ (W : World) (n : Nat), (Instr.mapUpdate 76 (.map (some W.heap.size)) (.int .u8 45) (.int .i64 100)).run Tryd.prog ((W.drewN n).alloc (.map #[impl_isRepoPart.en 46 1 0, impl_isRepoPart.en 95 2 1] 2)) = .ok () ((W.drewN n).alloc (.map #[impl_isRepoPart.en 46 1 0, impl_isRepoPart.en 95 2 1, impl_isRepoPart.en 45 100 2] 3)) := fun W n => impl_isRepoPart.ins (W.drewN n) #[impl_isRepoPart.en 46 1 0, impl_isRepoPart.en 95 2 1] 2 45 100 rfl
      have e3 : ∀ (W : World) (n : Nat) (c : Int), (Instr.lookup 76 (.map (some W.heap.size)) (.int .u8 c) false).run Tryd.prog ((W.drewN n).alloc (.map #[impl_isRepoPart.en 46 1 0, impl_isRepoPart.en 95 2 1, impl_isRepoPart.en 45 100 2] 3)) = .ok (.int .i64 (impl_isRepoPart.most c)) ((W.drewN n).alloc (.map #[impl_isRepoPart.en 46 1 0, impl_isRepoPart.en 95 2 1, impl_isRepoPart.en 45 100 2] 3)) := fun W n c => impl_isRepoPart.look (W.drewN n) c; go_wp2
      repeat (go_quiet (fail))
      go_wp2
      all_goals rename_i hcmp
      all_goals have hm100 : m ≤ 100 := by have := HG.out; have := HM.out; omega
      all_goals rw [impl_isRepoPart.wsub m j hm100 HJM.out] at hcmp
      all_goals have hf := HF.out
      ·
       rw [if_pos hcmp] at hf; subst hf; go_ret; exact ⟨rfl, below_alloc (pw_below_drewN HB3.out _) _⟩
      rw [if_neg (by omega)] at hf
      go_roundg (a0.size - m)
      case measure =>
       have := HI.out; have := HM.out; have := HJM.out; have := HIJ.out
       omega
      case rel => exact ⟨m, rfl, ⟨by have := HM.out; omega⟩, ⟨hf⟩, ⟨below_alloc (pw_below_drewN HB3.out _) _⟩⟩
   have c1 := decide_eq_false (show ¬ (j : Int) < (a0.size : Int) by omega); have c2 := decide_eq_false (show ¬ j < a0.size from hlt); have ej : j = a0.size := by have := HJ.out; omega
   have c6 : ((j : Int) == (a0.size : Int)) = true := beq_iff_eq.2 (by omega); have hs := HA2.out; rw [List.drop_eq_nil_of_le (by rw [HZ.out]; omega)] at hs; by_cases hij : i = j
   ·
    have c5 : ((j : Int) == (i : Int)) = true := beq_iff_eq.2 (by omega); rw [if_pos hij] at hs; subst hs; go_wp2; go_ret; exact ⟨rfl, HB2.out⟩
   have c5 : ((j : Int) == (i : Int)) = false := beq_eq_false_iff_ne.2 (by omega); rw [if_neg hij] at hs; subst hs; go_wp2; go_ret; exact ⟨rfl, HB2.out⟩

/-! ### impl_isRepo: function 28 -/
def impl_isRepo.l0 : Nat → List ByteArray → Int → Int → Option (Bool)
 | 0, _, _, _ => none
 | k + 1, x9, x10, x11 => if x11 < x10 then (if 0 ≤ x11 then (if x11 < (x9.length : Int) then ((impl_isRepoPart.f (rdOf ByteArray.empty x9 x11)).bind fun t108 => (if t108 = true then (impl_isRepo.l0 k x9 x10 (wrap64 (x11 + 1))) else (some false))) else (none)) else (none)) else (some true)
def impl_isRepo.f (k : Nat) (a0 : ByteArray) : Option (Bool) := if (a0.size : Int) > 100 then (some false) else ((strings_Split.f a0 (⟨#[47]⟩ : ByteArray)).bind fun t104 => (impl_isRepo.l0 k t104 (t104.length : Int) 0))
theorem impl_isRepo.mono_l : ∀ k, (∀ y0 y1 y2, LeO (impl_isRepo.l0 k y0 y1 y2) (impl_isRepo.l0 (k + 1) y0 y1 y2))
 | 0 => fun _ _ _ r h => by simp [impl_isRepo.l0] at h
 | k + 1 => by
  have ih0 := impl_isRepo.mono_l k
  ·
   intro y0 y1 y2; unfold impl_isRepo.l0
   repeat' first
   | (with_reducible apply ih0)
   | (with_reducible exact LeO.refl _)
   | (with_reducible exact LeO.none _)
   | (with_reducible refine LeO.ite ?_ ?_)
   | (with_reducible refine LeO.bind ?_ (fun _ => ?_))
   | exact LeO.none _
   | refine LeO.ite ?_ ?_
   | refine LeO.bind ?_ (fun _ => ?_)
theorem impl_isRepo.mono : ∀ a0 k, LeO (impl_isRepo.f k a0) (impl_isRepo.f (k + 1) a0) := by
 intro a0 k; have ih0 := impl_isRepo.mono_l k; unfold impl_isRepo.f
 repeat' first
   | (with_reducible apply ih0)
   | (with_reducible exact LeO.refl _)
   | (with_reducible exact LeO.none _)
   | (with_reducible refine LeO.ite ?_ ?_)
   | (with_reducible refine LeO.bind ?_ (fun _ => ?_))
   | exact LeO.none _
   | refine LeO.ite ?_ ?_
   | refine LeO.bind ?_ (fun _ => ?_)
set_option maxHeartbeats 8000000 in
set_option maxRecDepth 100000 in
theorem impl_isRepo.calls (k : Nat) (a0 : ByteArray) (r : Bool) (w : World) (h : impl_isRepo.f k a0 = some r) :
  Calls Tryd.prog 28 #[.string a0] w fun e w' => e = .returned (.bool r) ∧ Below w.heap.size w w' := by
 have HB := aM (Below.refl w.heap.size w); unfold impl_isRepo.f at h; have H := h; clear h; by_cases c2 : (a0.size : Int) > 100
 ·
  rw [if_pos c2] at H; have c2b0 : decide (100 < (a0.size : Int)) = true := decide_eq_true c2; have c2b1 : decide (100 < a0.size) = true := decide_eq_true (by omega); clear c2; obtain rfl := Option.some.inj H; go_enter Tryd.func28, Tryd.ntmps28; go_wp2; go_ret; exact ⟨zq19, zq2⟩
 rw [if_neg c2] at H; have c2b0 : decide (100 < (a0.size : Int)) = false := decide_eq_false c2; have c2b1 : decide (100 < a0.size) = false := decide_eq_false (by omega); clear c2; replace H := Option.bind_eq_some_iff.mp H; obtain ⟨t104, A30, H⟩ := H; (try dsimp only at H); have A3 := aM A30; clear A30; have H' := aM H; clear H; go_enter Tryd.func28, Tryd.ntmps28
 go_wp2_with (first | ((with_reducible refine gC 49 rfl ?_); refine gL 9 Tryd.func49 #[.string a0, .string (⟨#[47]⟩ : ByteArray)] ?_; (with_reducible refine (strings_Split.calls a0 (⟨#[47]⟩ : ByteArray) t104 _ A3.out).mono ?_); rintro e w4 ⟨v105, rfl, ho0, hb⟩; refine ⟨_, rfl, ?_⟩; have HO106 := aM (Kd.R_lower ho0 (below_size zq2)); replace HB := sB zq2 hb; clear hb; (try clear ho0); obtain ⟨Ao5, co5, eo5⟩ := Kd.R_slice HO106.out; subst eo5))
 go_loopg [11] k (fun kq v11 w' => ∃ (x11_1 : Int), v11 = .int .i64 x11_1 ∧ Aside0 (impl_isRepo.l0 kq t104 (t104.length : Int) x11_1 = some r) ∧ Aside0 (kq ≤ k) ∧ Aside0 (Kd.R Kd.string 9 w' w.heap.size (fun _ => True) (.slice Ao5 t104.length co5) t104) ∧ Aside0 (Below w.heap.size w w'))
 case atStart => exact ⟨(0), zq6, H', ⟨Nat.le_refl _⟩, ⟨by refine dR ?_; exact HO106.out⟩, ⟨zq2⟩⟩
 case round =>
  clear H'; (try clear c2); (try clear c2b0); (try clear c2b1); (try clear p2); (try clear c4); obtain ⟨x11_1, rfl, HA, HK1, HO_9, HB⟩ := hrel
  cases gk with
  | zero => exact absurd HA.out (by simp [impl_isRepo.l0])
  | succ k1 =>
   have H := HA.out; clear HA; simp only [impl_isRepo.l0] at H; by_cases c6 : x11_1 < (t104.length : Int)
   ·
    rw [if_pos c6] at H; have c6b0 := decide_eq_true c6; clear c6; by_cases c7 : 0 ≤ x11_1
    ·
     rw [if_pos c7] at H; have c7b0 := decide_eq_true c7; clear c7; by_cases c8 : x11_1 < (t104.length : Int)
     ·
      rw [if_pos c8] at H; have c8b0 := decide_eq_true c8; clear c8; replace H := Option.bind_eq_some_iff.mp H; obtain ⟨t108, A90, H⟩ := H; (try dsimp only at H); have A9 := aM A90; clear A90; by_cases c10 : t108 = true
      ·
       subst c10; rw [if_pos rfl] at H; have H' := aM H; clear H; have p107 : 0 ≤ (x11_1 : Int) := of_decide_eq_true zq11; have q107 : x11_1 < (t104.length : Int) := of_decide_eq_true zq11; obtain ⟨ad107, e107, hx107_0⟩ := Kd.at_string (Kd.R_reads' HO_9.out).2.2 x11_1 p107 q107; cases e107; replace p107 := eq_true p107; replace q107 := eq_true q107
       go_wp2_with (first | ((with_reducible refine gC 50 rfl ?_); refine gL 16 Tryd.func50 #[.string (rdOf ByteArray.empty t104 x11_1)] ?_; (with_reducible refine (impl_isRepoPart.calls (rdOf ByteArray.empty t104 x11_1) true _ A9.out).mono ?_); rintro e w11 ⟨rfl, hb⟩; refine ⟨_, rfl, ?_⟩; replace HO_9 := rG HO_9 hb; replace HB := sB zq2 hb; clear hb))
       go_roundg k1
       case measure => have := HK1.out; omega
       case rel => exact ⟨(wrap64 (x11_1 + 1)), zq6, H', ⟨zq26⟩, ⟨zq76⟩, ⟨zq2⟩⟩
      replace c10 := Bool.eq_false_iff.mpr c10; subst c10; rw [if_neg (show ¬ (false = true) by decide)] at H; obtain rfl := Option.some.inj H; have p107 : 0 ≤ (x11_1 : Int) := of_decide_eq_true zq11; have q107 : x11_1 < (t104.length : Int) := of_decide_eq_true zq11; obtain ⟨ad107, e107, hx107_0⟩ := Kd.at_string (Kd.R_reads' HO_9.out).2.2 x11_1 p107 q107; cases e107; replace p107 := eq_true p107; replace q107 := eq_true q107
      go_wp2_with (first | ((with_reducible refine gC 50 rfl ?_); refine gL 16 Tryd.func50 #[.string (rdOf ByteArray.empty t104 x11_1)] ?_; (with_reducible refine (impl_isRepoPart.calls (rdOf ByteArray.empty t104 x11_1) false _ A9.out).mono ?_); rintro e w12 ⟨rfl, hb⟩; refine ⟨_, rfl, ?_⟩; replace HO_9 := rG HO_9 hb; replace HB := sB zq2 hb; clear hb))
      go_ret; exact ⟨zq19, zq2⟩
     exact zq125
    exact zq126
   rw [if_neg c6] at H; have c6b0 := decide_eq_false c6; clear c6; obtain rfl := Option.some.inj H; go_wp2; go_ret; exact ⟨zq19, zq2⟩

/-! ### impl_RepoOk: function 9 -/
def impl_RepoOk.f (k : Nat) (a0 : ByteArray) : Option (Bool) := (impl_isRepo.f k a0).bind fun t109 => (some t109)
theorem impl_RepoOk.mono : ∀ a0 k, LeO (impl_RepoOk.f k a0) (impl_RepoOk.f (k + 1) a0) := by
 intro a0 k; unfold impl_RepoOk.f
 repeat' first
   | (with_reducible apply impl_isRepo.mono)
   | (with_reducible exact LeO.refl _)
   | (with_reducible exact LeO.none _)
   | (with_reducible refine LeO.ite ?_ ?_)
   | (with_reducible refine LeO.bind ?_ (fun _ => ?_))
   | exact LeO.none _
   | refine LeO.ite ?_ ?_
   | refine LeO.bind ?_ (fun _ => ?_)
set_option maxHeartbeats 8000000 in
set_option maxRecDepth 100000 in
theorem impl_RepoOk.calls (k : Nat) (a0 : ByteArray) (r : Bool) (w : World) (h : impl_RepoOk.f k a0 = some r) :
  Calls Tryd.prog 9 #[.string a0] w fun e w' => e = .returned (.bool r) ∧ Below w.heap.size w w' := by
 have HB := aM (Below.refl w.heap.size w); unfold impl_RepoOk.f at h; have H := h; clear h; replace H := Option.bind_eq_some_iff.mp H; obtain ⟨t109, A20, H⟩ := H; replace H : (some t109) = some r := H; have A2 := aM A20; clear A20; obtain rfl := Option.some.inj H; go_enter Tryd.func9, Tryd.ntmps9
 go_wp2_with (first | ((with_reducible refine gC 28 rfl ?_); refine gL 4 Tryd.func28 #[.string a0] ?_; (with_reducible refine (impl_isRepo.calls k a0 t109 _ A2.out).mono ?_); rintro e w3 ⟨rfl, hb⟩; refine ⟨_, rfl, ?_⟩; replace HB := sB zq2 hb; clear hb))
 go_ret; exact ⟨zq19, zq2⟩

/-! ### spec_l3Cut: function 26 -/
def spec_l3Cut.l0 : Nat → ByteArray → Int → List ByteArray → Int → Int → Option (List ByteArray)
 | 0, _, _, _, _, _ => none
 | k + 1, x0, x1, x5, x6, x7 => if x7 ≤ (x0.size : Int) then (if x7 = (x0.size : Int) then (if 0 ≤ x6 then (if x6 ≤ x7 then (if x5.length < 8796093022208 then (spec_l3Cut.l0 k x0 x1 (x5 ++ [x0.extract (x6 : Int).toNat (x7 : Int).toNat]) (wrap64 (x7 + 1)) (wrap64 (x7 + 1))) else (none)) else (none)) else (none)) else (if 0 ≤ x7 then (if x7 < (x0.size : Int) then (if (bt x0 x7) = x1 then (if 0 ≤ x6 then (if x6 ≤ x7 then (if x5.length < 8796093022208 then (spec_l3Cut.l0 k x0 x1 (x5 ++ [x0.extract (x6 : Int).toNat (x7 : Int).toNat]) (wrap64 (x7 + 1)) (wrap64 (x7 + 1))) else (none)) else (none)) else (none)) else (spec_l3Cut.l0 k x0 x1 x5 x6 (wrap64 (x7 + 1)))) else (none)) else (none))) else (some x5)
def spec_l3Cut.f (k : Nat) (a0 : ByteArray) (a1 : Int) : Option (List ByteArray) := spec_l3Cut.l0 k a0 a1 (([] : List ByteArray)) 0 0
theorem spec_l3Cut.mono_l : ∀ k, (∀ y0 y1 y2 y3 y4, LeO (spec_l3Cut.l0 k y0 y1 y2 y3 y4) (spec_l3Cut.l0 (k + 1) y0 y1 y2 y3 y4))
 | 0 => fun _ _ _ _ _ r h => by simp [spec_l3Cut.l0] at h
 | k + 1 => by
  have ih0 := spec_l3Cut.mono_l k
  ·
   intro y0 y1 y2 y3 y4; unfold spec_l3Cut.l0
   repeat' first
   | (with_reducible apply ih0)
   | (with_reducible exact LeO.refl _)
   | (with_reducible exact LeO.none _)
   | (with_reducible refine LeO.ite ?_ ?_)
   | (with_reducible refine LeO.bind ?_ (fun _ => ?_))
   | exact LeO.none _
   | refine LeO.ite ?_ ?_
   | refine LeO.bind ?_ (fun _ => ?_)
theorem spec_l3Cut.mono : ∀ a0 a1 k, LeO (spec_l3Cut.f k a0 a1) (spec_l3Cut.f (k + 1) a0 a1) := by
 intro a0 a1 k; have ih0 := spec_l3Cut.mono_l k; unfold spec_l3Cut.f
 repeat' first
   | (with_reducible apply ih0)
   | (with_reducible exact LeO.refl _)
   | (with_reducible exact LeO.none _)
   | (with_reducible refine LeO.ite ?_ ?_)
   | (with_reducible refine LeO.bind ?_ (fun _ => ?_))
   | exact LeO.none _
   | refine LeO.ite ?_ ?_
   | refine LeO.bind ?_ (fun _ => ?_)
set_option maxHeartbeats 8000000 in
set_option maxRecDepth 100000 in
theorem spec_l3Cut.calls (k : Nat) (a0 : ByteArray) (a1 : Int) (r : List ByteArray) (w : World) (h : spec_l3Cut.f k a0 a1 = some r) :
  Calls Tryd.prog 26 #[.string a0, .int .u8 a1] w fun e w' => ∃ v0_ : Value, e = .returned (v0_) ∧ Kd.R Kd.string 9 w' w.heap.size (fun _ => True) v0_ r ∧ Below w.heap.size w w' := by
 have HB := aM (Below.refl w.heap.size w); unfold spec_l3Cut.f at h; have H := h; clear h; obtain ⟨y110, hy110⟩ : ∃ y_ : List ByteArray, y_ = (([] : List ByteArray)) := ⟨_, rfl⟩; have hy_ := hy110; replace H : (spec_l3Cut.l0 k a0 a1 y110 0 0) = some r := hyE; clear hy_; have Ny110 := aM hy110; clear hy110; have H' := aM H; clear H; go_enter Tryd.func26, Tryd.ntmps26
 go_wp2_with (first | ((with_reducible refine gD 8 rfl ?_); refine Kd.R_lit Kd.string _ 9 ?hg (N := 8) ?hd (xs := ([] : List ByteArray)) (inner := []) (ok := fun _ => True) (okp := fun _ => True) ?hr ?hp (fun _ hk => hk) trivial (Below.refl _ _) (Nat.le_refl _) (by simp) ?_; (case hd => rfl); (case hg => rfl); (case hr => exact zq1); (case hp => exact zq30); intro v111 w3 ho4 hb hg_ hnew_; clear hg_ hnew_; (first | rw [← Ny110.out] at ho4 | (simp only [Int.reduceToNat] at ho4; rw [← Ny110.out] at ho4)); have HO112 := aM (Kd.R_lower ho4 (below_size zq2)); replace HB := sB zq2 hb; clear hb ho4))
 go_loopg [5, 6, 7] k (fun kq v5 v6 v7 w' => ∃ (x5_1 : List ByteArray) (x6_1 : Int) (x7_1 : Int), v6 = .int .i64 x6_1 ∧ v7 = .int .i64 x7_1 ∧ Aside0 (spec_l3Cut.l0 kq a0 a1 x5_1 x6_1 x7_1 = some r) ∧ Aside0 (kq ≤ k) ∧ Aside0 (Kd.R Kd.string 9 w' w.heap.size (fun _ => True) v5 x5_1) ∧ Aside0 (Below w.heap.size w w'))
 case atStart => exact ⟨(y110), (0), (0), zq6, zq6, H', ⟨Nat.le_refl _⟩, ⟨by refine dR ?_; exact HO112.out⟩, ⟨zq2⟩⟩
 case round =>
  clear H'; (try clear c2); (try clear p2); obtain ⟨x5_1, x6_1, x7_1, rfl, rfl, HA, HK1, HO_5, HB⟩ := hrel
  cases gk with
  | zero => exact absurd HA.out (by simp [spec_l3Cut.l0])
  | succ k1 =>
   have H := HA.out; clear HA; simp only [spec_l3Cut.l0] at H; by_cases c5 : x7_1 ≤ (a0.size : Int)
   ·
    rw [if_pos c5] at H; have c5b0 := decide_eq_true c5; clear c5; by_cases c6 : x7_1 = (a0.size : Int)
    ·
     rw [if_pos c6] at H; have c6b0 : (x7_1 == (a0.size : Int)) = true := beq_iff_eq.mpr c6; have c6b1 : (x7_1 != (a0.size : Int)) = false := bne_eq_false_iff_eq.mpr c6; clear c6; by_cases c7 : 0 ≤ x6_1
     ·
      rw [if_pos c7] at H; have c7b0 := eq_true c7; have c7b1 := decide_eq_true c7; clear c7; by_cases c8 : x6_1 ≤ x7_1
      ·
       rw [if_pos c8] at H; have c8b0 := eq_true c8; have c8b1 := decide_eq_true c8; clear c8; have c9b0 := eq_true (of_decide_eq_true zq11 : x7_1 ≤ (a0.size : Int)); by_cases c10 : x5_1.length < 8796093022208
       ·
        rw [if_pos c10] at H; have LMc10 := aM c10; clear c10; obtain ⟨y113, hy113⟩ : ∃ y_ : List ByteArray, y_ = (x5_1 ++ [a0.extract (x6_1 : Int).toNat (x7_1 : Int).toNat]) := ⟨_, rfl⟩; have hy_ := hy113; replace H : (spec_l3Cut.l0 k1 a0 a1 y113 (wrap64 (x7_1 + 1)) (wrap64 (x7_1 + 1))) = some r := hyE; clear hy_; have Ny113 := aM hy113; clear hy113; have H' := aM H; clear H
        go_wp2_with (first | ((with_reducible refine gate_builtin (b := .append) (xs := #[.tmp 26, .tmp 31]) rfl ?_); at_builtin; refine Kd.R_append Kd.string (w0 := w) w.heap.size rfl (.tmp 26) (.tmp 31) 33 9 (.string ⟨#[]⟩) 16 rfl Tryd.underlying33 info9 rfl (by decide) (by omega) u5 x5_1 (a0.extract (x6_1 : Int).toNat (x7_1 : Int).toNat) [.string (a0.extract (x6_1 : Int).toNat (x7_1 : Int).toNat)] (fun _ => True) (fun _ => False) rfl rfl ?aP (fun _ hk => hk.elim) ?aF ?aO ?aB ?aS ?aL ?_; (case aP => exact rfl); (case aB => exact zq2); (case aF => exact zq35); (case aO => exact zq77); (case aS => exact zq103); (case aL => have := LMc10.out; omega); intro v114 w11 ho hb hg hat; rw [← Ny113.out] at ho; have n0_ := aM (hb); have n1_ := aM (ho); clear HB; clear HO_5; have HB := n0_; have HO115 := n1_; clear n0_ n1_; clear ho hb hg hat))
        go_roundg k1
        case measure => have := HK1.out; omega
        case rel => exact ⟨(y113), (wrap64 (x7_1 + 1)), (wrap64 (x7_1 + 1)), zq6, zq6, H', ⟨zq26⟩, ⟨by refine dR ?_; exact HO115.out⟩, ⟨zq2⟩⟩
       exact zq137
      exact zq125
     exact zq126
    rw [if_neg c6] at H; have c6b0 : (x7_1 == (a0.size : Int)) = false := beq_eq_false_iff_ne.mpr c6; have c6b1 : (x7_1 != (a0.size : Int)) = true := bne_iff_ne.mpr c6; by_cases c12 : 0 ≤ x7_1
    ·
     rw [if_pos c12] at H; have c12b0 := decide_eq_true c12; clear c12; by_cases c13 : x7_1 < (a0.size : Int)
     ·
      rw [if_pos c13] at H; have c13b0 := decide_eq_true c13; clear c13; by_cases c15 : (bt a0 x7_1) = a1
      ·
       rw [if_pos c15] at H; have c15b0 : ((bt a0 x7_1) == a1) = true := beq_iff_eq.mpr c15; have c15b1 : ((bt a0 x7_1) != a1) = false := bne_eq_false_iff_eq.mpr c15; clear c15; by_cases c16 : 0 ≤ x6_1
       ·
        rw [if_pos c16] at H; have c16b0 := eq_true c16; have c16b1 := decide_eq_true c16; clear c16; by_cases c17 : x6_1 ≤ x7_1
        ·
         rw [if_pos c17] at H; have c17b0 := eq_true c17; have c17b1 := decide_eq_true c17; clear c17; have c18b0 := eq_true (of_decide_eq_true zq11 : x7_1 ≤ (a0.size : Int)); by_cases c19 : x5_1.length < 8796093022208
         ·
          rw [if_pos c19] at H; have LMc19 := aM c19; clear c19; obtain ⟨y116, hy116⟩ : ∃ y_ : List ByteArray, y_ = (x5_1 ++ [a0.extract (x6_1 : Int).toNat (x7_1 : Int).toNat]) := ⟨_, rfl⟩; have hy_ := hy116; replace H : (spec_l3Cut.l0 k1 a0 a1 y116 (wrap64 (x7_1 + 1)) (wrap64 (x7_1 + 1))) = some r := hyE; clear hy_; have Ny116 := aM hy116; clear hy116; have H' := aM H; clear H; have p14 : 0 ≤ (x7_1 : Int) := of_decide_eq_true zq11; have q14 : x7_1 < (a0.size : Int) := of_decide_eq_true zq11; have hx14 := bt_at a0 x7_1; replace p14 := eq_true p14; replace q14 := eq_true q14
          go_wp2_with (first | ((with_reducible refine gate_builtin (b := .append) (xs := #[.tmp 26, .tmp 31]) rfl ?_); at_builtin; refine Kd.R_append Kd.string (w0 := w) w.heap.size rfl (.tmp 26) (.tmp 31) 33 9 (.string ⟨#[]⟩) 16 rfl Tryd.underlying33 info9 rfl (by decide) (by omega) u5 x5_1 (a0.extract (x6_1 : Int).toNat (x7_1 : Int).toNat) [.string (a0.extract (x6_1 : Int).toNat (x7_1 : Int).toNat)] (fun _ => True) (fun _ => False) rfl rfl ?aP (fun _ hk => hk.elim) ?aF ?aO ?aB ?aS ?aL ?_; (case aP => exact rfl); (case aB => exact zq2); (case aF => exact zq35); (case aO => exact zq77); (case aS => exact zq103); (case aL => have := LMc19.out; omega); intro v117 w20 ho hb hg hat; rw [← Ny116.out] at ho; have n0_ := aM (hb); have n1_ := aM (ho); clear HB; clear HO_5; have HB := n0_; have HO118 := n1_; clear n0_ n1_; clear ho hb hg hat))
          go_roundg k1
          case measure => have := HK1.out; omega
          case rel => exact ⟨(y116), (wrap64 (x7_1 + 1)), (wrap64 (x7_1 + 1)), zq6, zq6, H', ⟨zq26⟩, ⟨by refine dR ?_; exact HO118.out⟩, ⟨zq2⟩⟩
         rw [if_neg c19] at H; exact absurd H (by simp)
        rw [if_neg c17] at H; exact absurd H (by simp)
       exact zq134
      rw [if_neg c15] at H; have c15b0 : ((bt a0 x7_1) == a1) = false := beq_eq_false_iff_ne.mpr c15; have c15b1 : ((bt a0 x7_1) != a1) = true := bne_iff_ne.mpr c15; have H' := aM H; clear H; have p14 : 0 ≤ (x7_1 : Int) := of_decide_eq_true zq11; have q14 : x7_1 < (a0.size : Int) := of_decide_eq_true zq11; have hx14 := bt_at a0 x7_1; replace p14 := eq_true p14; replace q14 := eq_true q14; go_wp2
      go_roundg k1
      case measure => have := HK1.out; omega
      case rel => exact ⟨(x5_1), (x6_1), (wrap64 (x7_1 + 1)), zq6, zq6, H', ⟨zq26⟩, ⟨zq77⟩, ⟨zq2⟩⟩
     exact zq135
    exact zq141
   rw [if_neg c5] at H; have c5b0 := decide_eq_false c5; clear c5; obtain rfl := Option.some.inj H; go_wp2; go_ret; exact ⟨_, zq19, zq77, zq2⟩

/-! ### spec_l1Digit: function 67 -/
def spec_l1Digit.f (a0 : Int) : Option (Bool) := if a0 ≥ 48 then (some (decide (a0 ≤ 57))) else (some false)
set_option maxHeartbeats 8000000 in
set_option maxRecDepth 100000 in
theorem spec_l1Digit.calls (a0 : Int) (r : Bool) (w : World) (h : spec_l1Digit.f a0 = some r) :
  Calls Tryd.prog 67 #[.int .u8 a0] w fun e w' => e = .returned (.bool r) ∧ Drawn0 w w' := by
 unfold spec_l1Digit.f at h; have H := h; clear h; by_cases c2 : a0 ≥ 48
 ·
  rw [if_pos c2] at H; have c2b0 : decide (48 ≤ a0) = true := decide_eq_true c2; clear c2; obtain rfl := Option.some.inj H; go_enter Tryd.func67, Tryd.ntmps67; go_wp2; go_ret; exact ⟨zq6, zq20⟩
 rw [if_neg c2] at H; have c2b0 : decide (48 ≤ a0) = false := decide_eq_false c2; clear c2; obtain rfl := Option.some.inj H; go_enter Tryd.func67, Tryd.ntmps67; go_wp2; go_ret; exact ⟨zq6, zq20⟩

end Go.Proofs.YtldpdaifajjaeaaDoor.QFnRefs
