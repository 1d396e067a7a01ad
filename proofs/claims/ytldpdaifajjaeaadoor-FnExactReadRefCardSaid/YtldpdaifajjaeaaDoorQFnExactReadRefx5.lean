/- Written by wip/myprint.py of this repo (the kit's print, with additions of this session). -/
import Derived.Test.YtldpdaifajjaeaaDoorQFnExactReadRefx0
import Derived.Test.YtldpdaifajjaeaaDoorQFnExactReadRefx4
set_option maxRecDepth 100000
namespace Go.Proofs.YtldpdaifajjaeaaDoor.QFnExactReadRef
open Go.RowKit Go.Proofs.YtldpdaifajjaeaaDoorW.PrintWords Go.Proofs.YtldpdaifajjaeaaDoorW.PrintLast Go.Proofs.YtldpdaifajjaeaaDoorW.PrintMore
attribute [local go_sem] max2_int min2_int max_two min_two max_three min_three max_four min_four   -- for this text's walks alone
set_option linter.unusedVariables false
set_option linter.unusedSimpArgs false

/-! ### impl_isRepoPart: function 50 (walked by hand) -/

/-- Words with marks between them, byte by byte: 0: a word must begin, 1: in a word, 3: behind one '_', 5: in a row of '-'. -/
def impl_isRepoPart.A : Nat → List Int → Bool
 | q, [] => q == 1
 | q, c :: l => if impl_isWordByte.f c = some true then impl_isRepoPart.A 1 l else if q = 1 then (if c = 46 then impl_isRepoPart.A 0 l else if c = 95 then impl_isRepoPart.A 3 l else if c = 45 then impl_isRepoPart.A 5 l else false) else if q = 3 then (if c = 95 then impl_isRepoPart.A 0 l else false) else if q = 5 then (if c = 45 then impl_isRepoPart.A 5 l else false) else false
def impl_isRepoPart.f (a0 : ByteArray) : Option Bool := if a0.size ≤ 100 then some (impl_isRepoPart.A 0 (bytesOf a0)) else none
theorem impl_isRepoPart.word (c : Int) : ∃ b, impl_isWordByte.f c = some b := by
 unfold impl_isWordByte.f
 repeat' split
 all_goals exact ⟨_, rfl⟩
/-- How long a mark may be. -/
def impl_isRepoPart.most (c : Int) : Int := if c = 46 then 1 else if c = 95 then 2 else if c = 45 then 100 else 0
theorem impl_isRepoPart.low_not {c : Int} (h : c = 46 ∨ c = 95 ∨ c = 45) : ¬ impl_isWordByte.f c = some true := by
 rcases h with rfl | rfl | rfl <;> decide
theorem impl_isRepoPart.A_other (c : Int) (q : Nat) (l : List Int) (hq : q = 3 ∧ c ≠ 95 ∨ q = 5 ∧ c ≠ 45) (hl : ∀ x ∈ l.head?, x = c → False) : True := trivial
theorem impl_isRepoPart.dashes (l : List Int) (hl : l.head? ≠ some 45) : ∀ n : Nat, impl_isRepoPart.A 5 (List.replicate n 45 ++ l) = impl_isRepoPart.A 0 l := by
 intro n
 induction n with
 | zero =>
  cases l with
  | nil => rfl
  | cons x l =>
   have hx : x ≠ 45 := fun e => hl (by rw [e]; rfl)
   simp [impl_isRepoPart.A, hx]
 | succ n ih =>
  rw [List.replicate_succ, List.cons_append, impl_isRepoPart.A, if_neg (impl_isRepoPart.low_not (.inr (.inr rfl))), if_neg (by decide), if_neg (by decide), if_pos rfl, if_pos rfl, ih]
/-- A row of n alike bytes behind a word. -/
theorem impl_isRepoPart.mark (c : Int) (hc : ¬ impl_isWordByte.f c = some true) (n : Nat) (hn : 1 ≤ n) (h100 : n ≤ 100) (l : List Int) (hl : l.head? ≠ some c) :
  impl_isRepoPart.A 1 (List.replicate n c ++ l) = if (n : Int) > impl_isRepoPart.most c then false else impl_isRepoPart.A 0 l := by
 obtain ⟨m, rfl⟩ : ∃ m, n = m + 1 := ⟨n - 1, by omega⟩; rw [List.replicate_succ, List.cons_append, impl_isRepoPart.A, if_neg hc, if_pos rfl]; unfold impl_isRepoPart.most; by_cases h1 : c = 46
 ·
  subst h1; rw [if_pos rfl, if_pos rfl]
  cases m with
  | zero => rw [if_neg (by decide)]; rfl
  | succ m => rw [if_pos (by omega), List.replicate_succ, List.cons_append, impl_isRepoPart.A, if_neg hc, if_neg (by decide), if_neg (by decide), if_neg (by decide)]
 rw [if_neg h1, if_neg h1]; by_cases h2 : c = 95
 ·
  subst h2; rw [if_pos rfl, if_pos rfl]
  cases m with
  | zero =>
   rw [if_neg (by decide), List.replicate_zero, List.nil_append]
   cases l with
   | nil => rfl
   | cons x l =>
    have hx : x ≠ 95 := fun e => hl (by rw [e]; rfl)
    simp [impl_isRepoPart.A, hx]
  | succ m =>
   rw [List.replicate_succ, List.cons_append, impl_isRepoPart.A, if_neg hc, if_neg (by decide), if_pos rfl, if_pos rfl]
   cases m with
   | zero => rw [if_neg (by decide)]; rfl
   | succ m => rw [if_pos (by omega), List.replicate_succ, List.cons_append, impl_isRepoPart.A, if_neg hc, if_neg (by decide), if_neg (by decide), if_neg (by decide)]
 rw [if_neg h2, if_neg h2]; by_cases h3 : c = 45
 ·
  subst h3; rw [if_pos rfl, if_pos rfl, if_neg (by omega), impl_isRepoPart.dashes l hl]
 rw [if_neg h3, if_neg h3, if_pos (by omega)]
def impl_isRepoPart.en (k v : Int) (b : Nat) : MapEntry := { key := .int .u8 k, val := .int .i64 v, born := b }
def impl_isRepoPart.m (w : World) (es : Array MapEntry) (c : Nat) : World := w.alloc (.map es c)
theorem impl_isRepoPart.ins (w : World) (es : Array MapEntry) (c : Nat) (k v : Int) (hn : Instr.findNow (.int .u8) (.int .u8 k) es.toList 0 = some none) :
  (Instr.mapUpdate 76 (.map (some w.heap.size)) (.int .u8 k) (.int .i64 v)).run Tryd.prog (impl_isRepoPart.m w es c) = .ok () (impl_isRepoPart.m w (es.push (impl_isRepoPart.en k v c)) (c + 1)) := by
 have hb : (impl_isRepoPart.m w es c).heap[w.heap.size]? = some (.map es c) := (MapKept.heap_alloc w _).1
 simp only [Instr.mapUpdate, Sem.run_bind, run_underlying Tryd.underlying76, Result.andThen, MapKept.run_getObj_map hb, MapKept.run_checkKey Tryd.underlying5 (show MapKept.IsKey (.int .u8) (.int .u8 k) from rfl), MapKept.run_findKey Tryd.underlying5 hn, MapKept.run_setObj_map _ hb]
 have e : (w.heap.push (Obj.map es c)).setIfInBounds w.heap.size (Obj.map (es.push (impl_isRepoPart.en k v c)) (c + 1)) = w.heap.push (Obj.map (es.push (impl_isRepoPart.en k v c)) (c + 1)) := by
  apply Array.ext'
  simp [Array.toList_setIfInBounds]
 exact congrArg (fun h => Result.ok () ({ heap := h, tape := w.tape, drawn := w.drawn, os := w.os, output := w.output } : World)) e
def impl_isRepoPart.es3 : Array MapEntry := #[impl_isRepoPart.en 46 1 0, impl_isRepoPart.en 95 2 1, impl_isRepoPart.en 45 100 2]
theorem impl_isRepoPart.look (w : World) (c : Int) : (Instr.lookup 76 (.map (some w.heap.size)) (.int .u8 c) false).run Tryd.prog (impl_isRepoPart.m w impl_isRepoPart.es3 3) = .ok (.int .i64 (impl_isRepoPart.most c)) (impl_isRepoPart.m w impl_isRepoPart.es3 3) := by
 have hb : (impl_isRepoPart.m w impl_isRepoPart.es3 3).heap[w.heap.size]? = some (.map impl_isRepoPart.es3 3) := (MapKept.heap_alloc w _).1
 obtain ⟨a, ha, hv⟩ : ∃ a, Instr.findNow (.int .u8) (.int .u8 c) impl_isRepoPart.es3.toList 0 = some a ∧ (match a with | some (_, v) => v = .int .i64 (impl_isRepoPart.most c) | none => impl_isRepoPart.most c = 0) := by
  unfold impl_isRepoPart.es3 impl_isRepoPart.most; by_cases h1 : c = 46
  ·
   exact ⟨some (0, .int .i64 1), by simp [Instr.findNow, Instr.sameNow, impl_isRepoPart.en, h1], by simp [h1]⟩
  have e1 : (c == 46) = false := beq_eq_false_iff_ne.2 h1; by_cases h2 : c = 95
  ·
   exact ⟨some (1, .int .i64 2), by simp [Instr.findNow, Instr.sameNow, impl_isRepoPart.en, h1, h2], by simp [h1, h2]⟩
  have e2 : (c == 95) = false := beq_eq_false_iff_ne.2 h2; by_cases h3 : c = 45
  ·
   exact ⟨some (2, .int .i64 100), by simp [Instr.findNow, Instr.sameNow, impl_isRepoPart.en, h1, h2, h3], by simp [h1, h2, h3]⟩
  have e3 : (c == 45) = false := beq_eq_false_iff_ne.2 h3; exact ⟨none, by simp [Instr.findNow, Instr.sameNow, impl_isRepoPart.en, e1, e2, e3], by simp [h1, h2, h3]⟩
 cases a with
 | none =>
  simp only at hv
  simp [Instr.lookup, run_underlying Tryd.underlying76, MapKept.run_getObj_map hb, MapKept.run_checkKey Tryd.underlying5 (show MapKept.IsKey (.int .u8) (.int .u8 c) from rfl), MapKept.run_findKey Tryd.underlying5 ha, Tryd.zeroValue3, Result.andThen, hv]
 | some a =>
  obtain ⟨j, v⟩ := a
  simp only at hv
  simp [Instr.lookup, run_underlying Tryd.underlying76, MapKept.run_getObj_map hb, MapKept.run_checkKey Tryd.underlying5 (show MapKept.IsKey (.int .u8) (.int .u8 c) from rfl), MapKept.run_findKey Tryd.underlying5 ha, Result.andThen, hv]
theorem impl_isRepoPart.drop (s : ByteArray) (i : Nat) (h : i < s.size) : (bytesOf s).drop i = bt s i :: (bytesOf s).drop (i + 1) := by
 have hl : i < (bytesOf s).length := by rw [bytesOf_length]; exact h
 rw [List.drop_eq_getElem_cons hl]
 congr 1
 have := rd_bytesOf s i; rw [← this]
 simp [rd, List.getD_eq_getElem?_getD, List.getElem?_eq_getElem hl]
theorem impl_isRepoPart.wsub (m j : Nat) (h : m ≤ 100) (hj : j ≤ m) : wrap64 ((m : Int) - (j : Int)) = ((m - j : Nat) : Int) := by unfold wrap64; omega
set_option maxHeartbeats 8000000 in
set_option maxRecDepth 100000 in
theorem impl_isRepoPart.calls (a0 : ByteArray) (r : Bool) (w : World) (h : impl_isRepoPart.f a0 = some r) :
  Calls Tryd.prog 50 #[.string a0] w fun e w' => e = .returned (.bool r) ∧ Below w.heap.size w w' := by
 unfold impl_isRepoPart.f at h
 split at h
 case isFalse => exact absurd h (by simp)
 rename_i hg
 injection h with h
 have HG := aM hg; have H0 := aM h; have HZ := aM (bytesOf_length a0); clear h hg; go_enter Tryd.func50, Tryd.ntmps50; go_wp2
 go_loopg [3] a0.size (fun kq v3 w' => ∃ i : Nat, v3 = .int .i64 (i : Int) ∧ Aside0 (i + kq = a0.size) ∧ Aside0 (impl_isRepoPart.A 0 ((bytesOf a0).drop i) = r) ∧ Aside0 (Below w.heap.size w w'))
 case atStart => exact ⟨0, rfl, ⟨Nat.zero_add _⟩, ⟨by rw [List.drop_zero]; exact H0.out⟩, ⟨Below.refl _ _⟩⟩
 case round =>
  obtain ⟨i, rfl, HI, HA, HB⟩ := hrel; go_wp2
  go_loopg [3] gk (fun kq v3 w' => ∃ j : Nat, v3 = .int .i64 (j : Int) ∧ Aside0 (j + kq = a0.size) ∧ Aside0 (i ≤ j) ∧ Aside0 (if i = j then impl_isRepoPart.A 0 ((bytesOf a0).drop j) = r else impl_isRepoPart.A 1 ((bytesOf a0).drop j) = r) ∧ Aside0 (Below w.heap.size w w'))
  case atStart => exact ⟨i, rfl, HI, ⟨Nat.le_refl _⟩, ⟨by rw [if_pos rfl]; exact HA.out⟩, HB⟩
  case round =>
   obtain ⟨j, rfl, HJ, HIJ, HA2, HB2⟩ := hrel; by_cases hlt : j < a0.size
   ·
    obtain ⟨b, hb⟩ := impl_isRepoPart.word (bt a0 (j : Int)); have HW := aM hb; have c1 := decide_eq_true (show (j : Int) < (a0.size : Int) by omega); have c2 := decide_eq_true (show j < a0.size from hlt); have c3 := eq_true (show (0 : Int) ≤ (j : Int) by omega); have c4 := eq_true (show (j : Int) < (a0.size : Int) by omega); have hx : ∀ h : j < a0.size, ((a0[j]'h).toNat : Int) = bt a0 (j : Int) := bt_at a0 (j : Int); clear hb
    go_wp2_with (fail)
    refine (impl_isWordByte.calls (bt a0 (j : Int)) b wr HW.out).mono ?_; rintro e w2 ⟨rfl, ⟨nd, rfl⟩⟩
    try dsimp only
    cases b with
    | true =>
     go_wp2
     go_roundg (gk - 1)
     case measure => have := HJ.out; omega
     case rel =>
      refine ⟨j + 1, zq24, ⟨by have := HJ.out; omega⟩, ⟨by have := HIJ.out; omega⟩, ⟨?_⟩, ⟨pw_below_drewN HB2.out nd⟩⟩; have hs := HA2.out; rw [impl_isRepoPart.drop a0 j hlt] at hs; rw [if_neg (by have := HIJ.out; omega)]
      split at hs
      ·
       rw [impl_isRepoPart.A, if_pos HW.out] at hs; exact hs
      rw [impl_isRepoPart.A, if_pos HW.out] at hs; exact hs
    | false =>
     have hno : ¬ impl_isWordByte.f (bt a0 (j : Int)) = some true := by rw [HW.out]; simp
     have HNO := aM hno; clear hno; have hs := HA2.out; rw [impl_isRepoPart.drop a0 j hlt] at hs; by_cases hij : i = j
     ·
      subst hij; rw [if_pos rfl, impl_isRepoPart.A, if_neg HNO.out, if_neg (by decide), if_neg (by decide), if_neg (by decide)] at hs; subst hs; have c5 : ((i : Int) == (i : Int)) = true := beq_self_eq_true _; go_wp2; go_ret; exact ⟨rfl, pw_below_drewN HB2.out nd⟩
     rw [if_neg hij] at hs; have HS := aM hs; clear hs; have c5 : ((j : Int) == (i : Int)) = false := beq_eq_false_iff_ne.2 (by omega); have c6 : ((j : Int) == (a0.size : Int)) = false := beq_eq_false_iff_ne.2 (by omega); go_wp2
     go_loopg [3] gk (fun kq v3 w' => ∃ m : Nat, v3 = .int .i64 (m : Int) ∧ Aside0 (m + kq = a0.size) ∧ Aside0 (j ≤ m) ∧ Aside0 ((bytesOf a0).drop j = List.replicate (m - j) (bt a0 (j : Int)) ++ (bytesOf a0).drop m) ∧ Aside0 (Below w.heap.size w w'))
     case atStart => exact ⟨j, rfl, HJ, ⟨Nat.le_refl _⟩, ⟨by rw [Nat.sub_self]; rfl⟩, ⟨pw_below_drewN HB2.out nd⟩⟩
     case round =>
      obtain ⟨m, rfl, HM, HJM, HD, HB3⟩ := hrel; by_cases hml : m < a0.size
      ·
       have d1 := decide_eq_true (show (m : Int) < (a0.size : Int) by omega); have d2 := decide_eq_true (show m < a0.size from hml); have d3 := eq_true (show (0 : Int) ≤ (m : Int) by omega); have d4 := eq_true (show (m : Int) < (a0.size : Int) by omega); have hy : ∀ h : m < a0.size, ((a0[m]'h).toNat : Int) = bt a0 (m : Int) := bt_at a0 (m : Int); by_cases he : bt a0 (m : Int) = bt a0 (j : Int)
       ·
        have d5 : (bt a0 (m : Int) == bt a0 (j : Int)) = true := beq_iff_eq.2 he; have HE := aM he; clear he; go_wp2
        repeat (go_quiet (fail))
        go_wp2
        go_roundg (gk - 1)
        case measure => have := HM.out; omega
        case rel =>
         refine ⟨m + 1, zq24, ⟨by have := HM.out; omega⟩, ⟨by have := HJM.out; omega⟩, ⟨?_⟩, ⟨pw_below_drewN HB3.out _⟩⟩; rw [HD.out, impl_isRepoPart.drop a0 m hml, HE.out, show m + 1 - j = (m - j) + 1 by have := HJM.out; omega, List.replicate_succ', List.append_assoc]
         rfl
       have d5 : (bt a0 (m : Int) == bt a0 (j : Int)) = false := beq_eq_false_iff_ne.2 he; have HE := aM he; clear he
       have hjm : 1 ≤ m - j := by
        rcases Nat.eq_or_lt_of_le HJM.out with h | h
        ·
         subst h; exact absurd rfl HE.out
        omega
       have HF := aM (show (if ((m - j : Nat) : Int) > impl_isRepoPart.most (bt a0 (j : Int)) then false else impl_isRepoPart.A 0 ((bytesOf a0).drop m)) = r by
        have h1 := impl_isRepoPart.mark (bt a0 (j : Int)) HNO.out (m - j) hjm (by have := HG.out; have := HM.out; omega) ((bytesOf a0).drop m) (by rw [impl_isRepoPart.drop a0 m hml]; intro h; exact HE.out (Option.some.inj h)); rw [← HD.out, impl_isRepoPart.drop a0 j hlt, HS.out] at h1; exact h1.symm)
       have em : ∀ W : World, (Instr.makeMap 76 none).run Tryd.prog W = .ok (.map (some W.heap.size)) (W.alloc (.map #[] 0)) := fun _ => rfl; have e0 : ∀ (W : World) (n : Nat), (Instr.mapUpdate 76 (.map (some W.heap.size)) (.int .u8 46) (.int .i64 1)).run Tryd.prog ((W.drewN n).alloc (.map #[] 0)) = .ok () ((W.drewN n).alloc (.map #[impl_isRepoPart.en 46 1 0] 1)) := fun W n => impl_isRepoPart.ins (W.drewN n) #[] 0 46 1 rfl; have e1 : ∀ (W : World) (n : Nat), (Instr.mapUpdate 76 (.map (some W.heap.size)) (.int .u8 95) (.int .i64 2)).run Tryd.prog ((W.drewN n).alloc (.map #[impl_isRepoPart.en 46 1 0] 1)) = .ok () ((W.drewN n).alloc (.map #[impl_isRepoPart.en 46 1 0, impl_isRepoPart.en 95 2 1] 2)) := fun W n => impl_isRepoPart.ins (W.drewN n) #[impl_isRepoPart.en 46 1 0] 1 95 2 rfl; have e2 : ∀ (W : World) (n : Nat), (Instr.mapUpdate 76 (.map (some W.heap.size)) (.int .u8 45) (.int .i64 100)).run Tryd.prog ((W.drewN n).alloc (.map #[impl_isRepoPart.en 46 1 0, impl_isRepoPart.en 95 2 1] 2)) = .ok () ((W.drewN n).alloc (.map #[impl_isRepoPart.en 46 1 0, impl_isRepoPart.en 95 2 1, impl_isRepoPart.en 45 100 2] 3)) := fun W n => impl_isRepoPart.ins (W.drewN n) #[impl_isRepoPart.en 46 1 0, impl_isRepoPart.en 95 2 1] 2 45 100 rfl
       have e3 : ∀ (W : World) (n : Nat) (c : Int), (Instr.lookup 76 (.map (some W.heap.size)) (.int .u8 c) false).run Tryd.prog ((W.drewN n).alloc (.map #[impl_isRepoPart.en 46 1 0, impl_isRepoPart.en 95 2 1, impl_isRepoPart.en 45 100 2] 3)) = .ok (.int .i64 (impl_isRepoPart.most c)) ((W.drewN n).alloc (.map #[impl_isRepoPart.en 46 1 0, impl_isRepoPart.en 95 2 1, impl_isRepoPart.en 45 100 2] 3)) := fun W n c => impl_isRepoPart.look (W.drewN n) c; go_wp2
       repeat (go_quiet (fail))
       go_wp2
       all_goals rename_i hcmp
       all_goals have hm100 : m ≤ 100 := by have := HG.out; have := HM.out; omega
       all_goals rw [impl_isRepoPart.wsub m j hm100 HJM.out] at hcmp
       all_goals have hf := HF.out
       ·
        rw [if_pos hcmp] at hf; subst hf; go_ret; exact ⟨rfl, below_alloc (pw_below_drewN HB3.out _) _⟩
       rw [if_neg (by omega)] at hf
       go_roundg (a0.size - m)
       case measure =>
        have := HI.out; have := HM.out; have := HJM.out; have := HIJ.out
        omega
       case rel => exact ⟨m, rfl, ⟨by have := HM.out; omega⟩, ⟨hf⟩, ⟨below_alloc (pw_below_drewN HB3.out _) _⟩⟩
      have d1 := decide_eq_false (show ¬ (m : Int) < (a0.size : Int) by omega); have d2 := decide_eq_false (show ¬ m < a0.size from hml); have hjm : 1 ≤ m - j := by have := HM.out; omega
      have HF := aM (show (if ((m - j : Nat) : Int) > impl_isRepoPart.most (bt a0 (j : Int)) then false else impl_isRepoPart.A 0 ((bytesOf a0).drop m)) = r by
       have h1 := impl_isRepoPart.mark (bt a0 (j : Int)) HNO.out (m - j) hjm (by have := HG.out; have := HM.out; omega) ((bytesOf a0).drop m) (by rw [List.drop_eq_nil_of_le (by rw [HZ.out]; omega)]; simp); rw [← HD.out, impl_isRepoPart.drop a0 j hlt, HS.out] at h1; exact h1.symm)
      have em : ∀ W : World, (Instr.makeMap 76 none).run Tryd.prog W = .ok (.map (some W.heap.size)) (W.alloc (.map #[] 0)) := fun _ => rfl; have e0 : ∀ (W : World) (n : Nat), (Instr.mapUpdate 76 (.map (some W.heap.size)) (.int .u8 46) (.int .i64 1)).run Tryd.prog ((W.drewN n).alloc (.map #[] 0)) = .ok () ((W.drewN n).alloc (.map #[impl_isRepoPart.en 46 1 0] 1)) := fun W n => impl_isRepoPart.ins (W.drewN n) #[] 0 46 1 rfl; have e1 : ∀ (W : World) (n : Nat), (Instr.mapUpdate 76 (.map (some W.heap.size)) (.int .u8 95) (.int .i64 2)).run Tryd.prog ((W.drewN n).alloc (.map #[impl_isRepoPart.en 46 1 0] 1)) = .ok () ((W.drewN n).alloc (.map #[impl_isRepoPart.en 46 1 0, impl_isRepoPart.en 95 2 1] 2)) := fun W n => impl_isRepoPart.ins (W.drewN n) #[impl_isRepoPart.en 46 1 0] 1 95 2 rfl; have e2 : ∀ (W : World) (n : Nat), (Instr.mapUpdate 76 (.map (some W.heap.size)) (.int .u8 45) (.int .i64 100)).run Tryd.prog ((W.drewN n).alloc (.map #[impl_isRepoPart.en 46 1 0, impl_isRepoPart.en 95 2 1] 2)) = .ok () ((W.drewN n).alloc (.map #[impl_isRepoPart.en 46 1 0, impl_isRepoPart.en 95 2 1, impl_isRepoPart.en 45 100 2] 3)) := fun W n => impl_isRepoPart.ins (W.drewN n) #[impl_isRepoPart.en 46 1 0, impl_isRepoPart.en 95 2 1] 2 45 100 rfl
      have e3 : ∀ (W : World) (n : Nat) (c : Int), (Instr.lookup 76 (.map (some W.heap.size)) (.int .u8 c) false).run Tryd.prog ((W.drewN n).alloc (.map #[impl_isRepoPart.en 46 1 0, impl_isRepoPart.en 95 2 1, impl_isRepoPart.en 45 100 2] 3)) = .ok (.int .i64 (impl_isRepoPart.most c)) ((W.drewN n).alloc (.map #[impl_isRepoPart.en 46 1 0, impl_isRepoPart.en 95 2 1, impl_isRepoPart.en 45 100 2] 3)) := fun W n c => impl_isRepoPart.look (W.drewN n) c; go_wp2
      repeat (go_quiet (fail))
      go_wp2
      all_goals rename_i hcmp
      all_goals have hm100 : m ≤ 100 := by have := HG.out; have := HM.out; omega
      all_goals rw [impl_isRepoPart.wsub m j hm100 HJM.out] at hcmp
      all_goals have hf := HF.out
      ·
       rw [if_pos hcmp] at hf; subst hf; go_ret; exact ⟨rfl, below_alloc (pw_below_drewN HB3.out _) _⟩
      rw [if_neg (by omega)] at hf
      go_roundg (a0.size - m)
      case measure =>
       have := HI.out; have := HM.out; have := HJM.out; have := HIJ.out
       omega
      case rel => exact ⟨m, rfl, ⟨by have := HM.out; omega⟩, ⟨hf⟩, ⟨below_alloc (pw_below_drewN HB3.out _) _⟩⟩
   have c1 := decide_eq_false (show ¬ (j : Int) < (a0.size : Int) by omega); have c2 := decide_eq_false (show ¬ j < a0.size from hlt); have ej : j = a0.size := by have := HJ.out; omega
   have c6 : ((j : Int) == (a0.size : Int)) = true := beq_iff_eq.2 (by omega); have hs := HA2.out; rw [List.drop_eq_nil_of_le (by rw [HZ.out]; omega)] at hs; by_cases hij : i = j
   ·
    have c5 : ((j : Int) == (i : Int)) = true := beq_iff_eq.2 (by omega); rw [if_pos hij] at hs; subst hs; go_wp2; go_ret; exact ⟨rfl, HB2.out⟩
   have c5 : ((j : Int) == (i : Int)) = false := beq_eq_false_iff_ne.2 (by omega); rw [if_neg hij] at hs; subst hs; go_wp2; go_ret; exact ⟨rfl, HB2.out⟩

/-! ### impl_isRepo: function 28 -/
def impl_isRepo.l0 : Nat → List ByteArray → Int → Int → Option (Bool)
 | 0, _, _, _ => none
 | k + 1, x9, x10, x11 => if x11 < x10 then (if 0 ≤ x11 then (if x11 < (x9.length : Int) then ((impl_isRepoPart.f (rdOf ByteArray.empty x9 x11)).bind fun t139 => (if t139 = true then (impl_isRepo.l0 k x9 x10 (wrap64 (x11 + 1))) else (some false))) else (none)) else (none)) else (some true)
def impl_isRepo.f (k : Nat) (a0 : ByteArray) : Option (Bool) := if (a0.size : Int) > 100 then (some false) else ((strings_Split.f a0 (⟨#[47]⟩ : ByteArray)).bind fun t135 => (impl_isRepo.l0 k t135 (t135.length : Int) 0))
theorem impl_isRepo.mono_l : ∀ k, (∀ y0 y1 y2, LeO (impl_isRepo.l0 k y0 y1 y2) (impl_isRepo.l0 (k + 1) y0 y1 y2))
 | 0 => fun _ _ _ r h => by simp [impl_isRepo.l0] at h
 | k + 1 => by
  have ih0 := impl_isRepo.mono_l k
  ·
   intro y0 y1 y2; unfold impl_isRepo.l0
   repeat' first
   | (with_reducible apply ih0)
   | (with_reducible exact LeO.refl _)
   | (with_reducible exact LeO.none _)
   | (with_reducible refine LeO.ite ?_ ?_)
   | (with_reducible refine LeO.bind ?_ (fun _ => ?_))
   | exact LeO.none _
   | refine LeO.ite ?_ ?_
   | refine LeO.bind ?_ (fun _ => ?_)
theorem impl_isRepo.mono : ∀ a0 k, LeO (impl_isRepo.f k a0) (impl_isRepo.f (k + 1) a0) := by
 intro a0 k; have ih0 := impl_isRepo.mono_l k; unfold impl_isRepo.f
 repeat' first
   | (with_reducible apply ih0)
   | (with_reducible exact LeO.refl _)
   | (with_reducible exact LeO.none _)
   | (with_reducible refine LeO.ite ?_ ?_)
   | (with_reducible refine LeO.bind ?_ (fun _ => ?_))
   | exact LeO.none _
   | refine LeO.ite ?_ ?_
   | refine LeO.bind ?_ (fun _ => ?_)
set_option maxHeartbeats 8000000 in
set_option maxRecDepth 100000 in
theorem impl_isRepo.calls (k : Nat) (a0 : ByteArray) (r : Bool) (w : World) (h : impl_isRepo.f k a0 = some r) :
  Calls Tryd.prog 28 #[.string a0] w fun e w' => e = .returned (.bool r) ∧ Below w.heap.size w w' := by
 have HB := aM (Below.refl w.heap.size w); unfold impl_isRepo.f at h; have H := h; clear h; by_cases c2 : (a0.size : Int) > 100
 ·
  rw [if_pos c2] at H; have c2b0 : decide (100 < (a0.size : Int)) = true := decide_eq_true c2; have c2b1 : decide (100 < a0.size) = true := decide_eq_true (by omega); clear c2; obtain rfl := Option.some.inj H; go_enter Tryd.func28, Tryd.ntmps28; go_wp2; go_ret; exact ⟨zq7, zq2⟩
 rw [if_neg c2] at H; have c2b0 : decide (100 < (a0.size : Int)) = false := decide_eq_false c2; have c2b1 : decide (100 < a0.size) = false := decide_eq_false (by omega); clear c2; replace H := Option.bind_eq_some_iff.mp H; obtain ⟨t135, A30, H⟩ := H; (try dsimp only at H); have A3 := aM A30; clear A30; have H' := aM H; clear H; go_enter Tryd.func28, Tryd.ntmps28
 go_wp2_with (first | ((with_reducible refine gC 49 rfl ?_); refine gL 9 Tryd.func49 #[.string a0, .string (⟨#[47]⟩ : ByteArray)] ?_; (with_reducible refine (strings_Split.calls a0 (⟨#[47]⟩ : ByteArray) t135 _ A3.out).mono ?_); rintro e w4 ⟨v136, rfl, ho0, hb⟩; refine ⟨_, rfl, ?_⟩; have HO137 := aM (Kd.R_lower ho0 (below_size zq2)); replace HB := sB zq2 hb; clear hb; (try clear ho0); obtain ⟨Ao5, co5, eo5⟩ := Kd.R_slice HO137.out; subst eo5))
 go_loopg [11] k (fun kq v11 w' => ∃ (x11_1 : Int), v11 = .int .i64 x11_1 ∧ Aside0 (impl_isRepo.l0 kq t135 (t135.length : Int) x11_1 = some r) ∧ Aside0 (kq ≤ k) ∧ Aside0 (Kd.R Kd.string 9 w' w.heap.size (fun _ => True) (.slice Ao5 t135.length co5) t135) ∧ Aside0 (Below w.heap.size w w'))
 case atStart => exact ⟨(0), zq3, H', ⟨Nat.le_refl _⟩, ⟨by refine dR ?_; exact HO137.out⟩, ⟨zq2⟩⟩
 case round =>
  clear H'; (try clear c2); (try clear c2b0); (try clear c2b1); (try clear p2); (try clear c4); obtain ⟨x11_1, rfl, HA, HK1, HO_9, HB⟩ := hrel
  cases gk with
  | zero => exact absurd HA.out (by simp [impl_isRepo.l0])
  | succ k1 =>
   have H := HA.out; clear HA; simp only [impl_isRepo.l0] at H; by_cases c6 : x11_1 < (t135.length : Int)
   ·
    rw [if_pos c6] at H; have c6b0 := decide_eq_true c6; clear c6; by_cases c7 : 0 ≤ x11_1
    ·
     rw [if_pos c7] at H; have c7b0 := decide_eq_true c7; clear c7; by_cases c8 : x11_1 < (t135.length : Int)
     ·
      rw [if_pos c8] at H; have c8b0 := decide_eq_true c8; clear c8; replace H := Option.bind_eq_some_iff.mp H; obtain ⟨t139, A90, H⟩ := H; (try dsimp only at H); have A9 := aM A90; clear A90; by_cases c10 : t139 = true
      ·
       subst c10; rw [if_pos rfl] at H; have H' := aM H; clear H; have p138 : 0 ≤ (x11_1 : Int) := of_decide_eq_true zq4; have q138 : x11_1 < (t135.length : Int) := of_decide_eq_true zq4; obtain ⟨ad138, e138, hx138_0⟩ := Kd.at_string (Kd.R_reads' HO_9.out).2.2 x11_1 p138 q138; cases e138; replace p138 := eq_true p138; replace q138 := eq_true q138
       go_wp2_with (first | ((with_reducible refine gC 50 rfl ?_); refine gL 16 Tryd.func50 #[.string (rdOf ByteArray.empty t135 x11_1)] ?_; (with_reducible refine (impl_isRepoPart.calls (rdOf ByteArray.empty t135 x11_1) true _ A9.out).mono ?_); rintro e w11 ⟨rfl, hb⟩; refine ⟨_, rfl, ?_⟩; replace HO_9 := rG HO_9 hb; replace HB := sB zq2 hb; clear hb))
       go_roundg k1
       case measure => have := HK1.out; omega
       case rel => exact ⟨(wrap64 (x11_1 + 1)), zq3, H', ⟨zq6⟩, ⟨zq25⟩, ⟨zq2⟩⟩
      replace c10 := Bool.eq_false_iff.mpr c10; subst c10; rw [if_neg (show ¬ (false = true) by decide)] at H; obtain rfl := Option.some.inj H; have p138 : 0 ≤ (x11_1 : Int) := of_decide_eq_true zq4; have q138 : x11_1 < (t135.length : Int) := of_decide_eq_true zq4; obtain ⟨ad138, e138, hx138_0⟩ := Kd.at_string (Kd.R_reads' HO_9.out).2.2 x11_1 p138 q138; cases e138; replace p138 := eq_true p138; replace q138 := eq_true q138
      go_wp2_with (first | ((with_reducible refine gC 50 rfl ?_); refine gL 16 Tryd.func50 #[.string (rdOf ByteArray.empty t135 x11_1)] ?_; (with_reducible refine (impl_isRepoPart.calls (rdOf ByteArray.empty t135 x11_1) false _ A9.out).mono ?_); rintro e w12 ⟨rfl, hb⟩; refine ⟨_, rfl, ?_⟩; replace HO_9 := rG HO_9 hb; replace HB := sB zq2 hb; clear hb))
      go_ret; exact ⟨zq7, zq2⟩
     exact zq65
    exact zq66
   rw [if_neg c6] at H; have c6b0 := decide_eq_false c6; clear c6; obtain rfl := Option.some.inj H; go_wp2; go_ret; exact ⟨zq7, zq2⟩

end Go.Proofs.YtldpdaifajjaeaaDoor.QFnExactReadRef
