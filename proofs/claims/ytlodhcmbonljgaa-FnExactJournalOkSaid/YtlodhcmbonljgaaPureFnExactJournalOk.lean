/- For every journal the program's JournalOk returns what the reference's returns, and leaves the journal as it was. No condition but that the journal can be read. -/
import Derived.Test.YtlodhcmbonljgaaQFnExactJournalOkx4
import Derived.Test.YtlodhcmbonljgaaLoops
namespace Go.Proofs.Ytlodhcmbonljgaa.Pure
open Go.RowKit Go.Proofs.Ytlodhcmbonljgaa.QFnExactJournalOk Go.Proofs.YtlodhcmbonljgaaW.PrintWords Go.Proofs.YtlodhcmbonljgaaW.PrintLast Go.Proofs.YtlodhcmbonljgaaW.PrintMore Go.Proofs.Ytlodhcmbonljgaa.Bits Go.Proofs.Ytlodhcmbonljgaa.Num Go.Proofs.Ytlodhcmbonljgaa.Loops
set_option linter.unusedSimpArgs false
set_option linter.unusedVariables false
namespace JournalOkOf
abbrev LP := S52
abbrev IP := S55
def toP (x : LP) : IP := ⟨x.f0, x.f1, x.f2⟩
theorem rdL (xs : List LP) (i : Nat) (h : i < xs.length) : rd_T52 xs (i : Int) = xs[i] := getD_at xs i _ h
theorem rdI (xs : List IP) (i : Nat) (h : i < xs.length) : rd_T55 xs (i : Int) = xs[i] := getD_at xs i _ h
/-- What the sizes come to: less than nothing, or the list is short and its texts are. -/
theorem sz_loop (xs : List LP) (hx : ∀ x ∈ xs, x.f2.size ≤ maxLen) (hl : xs.length ≤ 1048576) (d : Nat) : ∀ (i : Nat) (left : Int), i + d = xs.length → 0 ≤ left → left ≤ 1048576 →
    ∃ r, Ev (fun k => laws_szEntryS.l0 k xs left (i : Int)) r ∧ r ≤ 1048576 ∧ (0 ≤ r → ∀ j, i ≤ j → (h : j < xs.length) → xs[j].f2.size ≤ 1048576) := by
  induction d with
  | zero =>
    intro i left hi h0 h1
    refine ⟨left, Ev.step (f := fun _ => some left) (fun k => ?_) (Ev.now _), h1, fun _ j hj h => by omega⟩
    simp only [laws_szEntryS.l0]; rw [if_neg (by omega)]
  | succ d ih =>
    intro i left hi h0 h1
    have hlt : i < xs.length := by omega
    have hs := hx _ (List.getElem_mem hlt)
    unfold maxLen at hs
    have ew : wrap64 (left - (xs[i].f2.size : Int)) = left - xs[i].f2.size := by unfold wrap64; omega
    by_cases hn : left - (xs[i].f2.size : Int) < 0
    · refine ⟨-1, Ev.step (f := fun _ => some (-1)) (fun k => ?_) (Ev.now _), by omega, fun h => absurd h (by omega)⟩
      simp only [laws_szEntryS.l0]; rw [if_pos (by omega), if_pos (by omega)]
      unfold laws_szEntry.f; rw [rdL xs i hlt, ew, if_pos hn]; simp
    · obtain ⟨r, hr, hr1, hr2⟩ := ih (i + 1) (left - xs[i].f2.size) (by omega) (by omega) (by omega)
      refine ⟨r, Ev.step (f := fun k => laws_szEntryS.l0 k xs (left - xs[i].f2.size) ((i + 1 : Nat) : Int)) (fun k => ?_) hr, hr1, fun h j hj hjl => ?_⟩
      · simp only [laws_szEntryS.l0]; rw [if_pos (by omega), if_pos (by omega)]
        unfold laws_szEntry.f; rw [rdL xs i hlt, ew, if_neg hn, wrap_nat i (by omega)]; simp only [Option.bind_some]; rw [if_neg hn]
      · by_cases e : i = j
        · subst e; omega
        · exact hr2 h j (by omega) hjl
theorem sz_ok (a b : Int) (xs : List LP) (hl : xs.length ≤ maxLen) (hx : ∀ x ∈ xs, x.f2.size ≤ maxLen) :
    ∃ r, Ev (fun k => laws_szJournal.f k a b xs 1048576) r ∧ r ≤ 1048576 ∧ (0 ≤ r → xs.length ≤ 1048576 ∧ ∀ x ∈ xs, x.f2.size ≤ 1048576) := by
  unfold laws_szJournal.f laws_szEntryS.f
  unfold maxLen at hl
  have ew : wrap64 (1048576 - (xs.length : Int)) = 1048576 - xs.length := by unfold wrap64; omega
  by_cases hn : (1048576 - (xs.length : Int)) < 0
  · refine ⟨-1, ?_, by omega, fun h => absurd h (by omega)⟩
    simp only [ew, if_pos hn, Option.bind_some]; exact Ev.now _
  · obtain ⟨r, hr, hr1, hr2⟩ := sz_loop xs hx (by omega) xs.length 0 (1048576 - xs.length) (by omega) (by omega) (by omega)
    simp only [ew, if_neg hn]
    by_cases h0 : r < 0
    · refine ⟨-1, Ev.bind hr ?_, by omega, fun h => absurd h (by omega)⟩
      simp only [if_pos h0]; exact Ev.now _
    · refine ⟨r, Ev.bind hr ?_, hr1, fun h => ⟨by omega, fun x hxm => ?_⟩⟩
      · simp only [if_neg h0]; exact Ev.now _
      · obtain ⟨j, hj, rfl⟩ := List.getElem_of_mem hxm
        exact hr2 h j (by omega) hj
theorem to_ok (a b : Int) (xs : List LP) (hl : xs.length ≤ 1048576) : Ev (fun k => laws_toJournal.f k a b xs) (a, b, xs.map toP) := by
  unfold laws_toJournal.f laws_toEntryS.f
  simp only [if_pos (show (0 : Int) ≤ (xs.length : Int) by omega), if_pos (show ((xs.length : Int)).toNat ≤ 8796093022208 by omega)]
  refine Ev.bind (a := xs.map toP) ?_ (Ev.now _)
  refine fill_loop xs toP (F := fun k acc i => laws_toEntryS.l0 k xs acc i) (fun i h acc ha k => ?_) (fun acc ha k => ?_) _ (by simp)
  · simp only [laws_toEntryS.l0]; rw [if_pos (by omega), if_pos (by omega)]
    unfold laws_toEntry.f; simp only [Option.bind_some]; rw [if_pos (by omega), rdL xs i h, wrap_nat i (by omega), Int.toNat_natCast]; rfl
  · simp only [laws_toEntryS.l0]; rw [if_neg (by omega)]
theorem eqP_refl (x : IP) : laws_eqEntry.f x.f0 x.f1 x.f2 x.f0 x.f1 x.f2 = some true := by unfold laws_eqEntry.f; simp
theorem eq_refl (a b : Int) (xs : List IP) (hl : xs.length ≤ 2097152) : Ev (fun k => laws_eqJournal.f k a b xs a b xs) true := by
  unfold laws_eqJournal.f laws_eqEntryS.f
  simp only [if_true]
  refine Ev.bind (a := true) ?_ (by simp only [if_true]; exact Ev.now _)
  refine on_loop (n := xs.length) (F := fun k i => laws_eqEntryS.l0 k xs xs i) (fun i hi k => ?_) (Ev.step (f := fun _ => some true) (fun k => ?_) (Ev.now _))
  · simp only [laws_eqEntryS.l0]; rw [if_pos (by omega), if_pos (by omega), if_pos (by omega), rdI xs i hi, eqP_refl, wrap_nat i (by omega)]; rfl
  · simp only [laws_eqEntryS.l0]; rw [if_neg (by omega)]
theorem l1In_eq (a b c : Int) : spec_l1In.f a b c = some (decide (b ≤ a ∧ a ≤ c)) := by
  unfold spec_l1In.f
  by_cases h : a ≥ b
  · rw [if_pos h]; simp [h]
  · rw [if_neg h]; simp [h]
theorem in_eq (a b c : Int) : impl_in.f a b c = some (decide (b ≤ a ∧ a ≤ c)) := by
  unfold impl_in.f
  by_cases h : a ≥ b
  · rw [if_pos h]; simp [h]
  · rw [if_neg h]; simp [h]
def entryOk (a b : Int) (s : ByteArray) : Bool := decide (1 ≤ a ∧ a ≤ 1000000000000) && (decide (0 ≤ b ∧ b ≤ 9) && decide ((s.size : Int) ≤ 4000))
theorem spec_entry (a b : Int) (s : ByteArray) : spec_l5Entry.f a b s = some (entryOk a b s) := by
  unfold spec_l5Entry.f entryOk
  rw [l1In_eq]; simp only [Option.bind_some]
  by_cases h1 : 1 ≤ a ∧ a ≤ 1000000000000
  · simp only [h1, and_self, decide_true, if_true]
    rw [l1In_eq]; simp only [Option.bind_some]
    by_cases h2 : 0 ≤ b ∧ b ≤ 9
    · simp only [h2, and_self, decide_true, if_true, Bool.true_and]
    · simp only [h2, decide_false, Bool.false_eq_true, if_false, Bool.false_and, Bool.true_and]
  · simp only [h1, decide_false, Bool.false_eq_true, if_false, Bool.false_and]
theorem impl_entry (a b : Int) (s : ByteArray) : impl_isEntry.f a b s = some (entryOk a b s) := by
  unfold impl_isEntry.f entryOk
  rw [in_eq]; simp only [Option.bind_some]
  by_cases h1 : 1 ≤ a ∧ a ≤ 1000000000000
  · simp only [h1, and_self, decide_true, if_true]
    rw [in_eq]; simp only [Option.bind_some]
    by_cases h2 : 0 ≤ b ∧ b ≤ 9
    · simp only [h2, and_self, decide_true, if_true, Bool.true_and]
    · simp only [h2, decide_false, Bool.false_eq_true, if_false, Bool.false_and, Bool.true_and]
  · simp only [h1, decide_false, Bool.false_eq_true, if_false, Bool.false_and]
abbrev rE (xs : List IP) (i : Int) : IP := rd_T55 xs i
def entOk (term : Int) (xs : List IP) (i : Nat) : Bool :=
  entryOk (rE xs i).f0 (rE xs i).f1 (rE xs i).f2 && decide ((rE xs i).f0 ≤ term) && (decide (i = 0) || decide (¬ (rE xs i).f0 < (rE xs ((i - 1 : Nat) : Int)).f0))
def journalOk (term vote : Int) (xs : List IP) : Bool := decide (0 ≤ term ∧ term ≤ 1000000000000) && decide (0 ≤ vote ∧ vote ≤ 1000000000000) && decide ((xs.length : Int) ≤ 500) && (List.range xs.length).all (entOk term xs)
theorem stop_or {R : Bool} (F : Nat → Option Bool) (b : Bool) (hr : Ev F R) : Ev (fun k => if b = true then F k else some false) (b && R) := by
  cases b with
  | true => exact hr
  | false => exact Ev.now _
theorem spec_journal (a b : Int) (xs : List IP) (hl : xs.length ≤ 2097152) : Ev (fun k => spec_JournalOk.f k a b xs) (journalOk a b xs) := by
  have loop : Ev (fun k => spec_JournalOk.l0 k 0 a b xs) ((List.range xs.length).all (entOk a xs)) := by
    refine all_loop (F := fun k i => spec_JournalOk.l0 k i a b xs) (fun i hi r hr => ?_) (Ev.step (f := fun _ => some true) (fun k => ?_) (Ev.now _))
    · refine Ev.step (f := fun k => if entOk a xs i = true then spec_JournalOk.l0 k ((i + 1 : Nat) : Int) a b xs else some false) (fun k => ?_) (stop_or _ _ hr)
      simp only [spec_JournalOk.l0]; rw [if_pos (by omega), if_pos (by omega), spec_entry, wrap_nat i (by omega)]; simp only [Option.bind_some]
      unfold entOk rE
      cases entryOk (rd_T55 xs (i : Int)).f0 (rd_T55 xs (i : Int)).f1 (rd_T55 xs (i : Int)).f2 with
      | false => simp only [Bool.false_eq_true, if_false, Bool.false_and]
      | true =>
        simp only [if_true, Bool.true_and]
        by_cases h1 : (rd_T55 xs (i : Int)).f0 > a
        · rw [if_pos h1]; simp only [show ¬ (rd_T55 xs (i : Int)).f0 ≤ a by omega, decide_false, Bool.false_and, Bool.false_eq_true, if_false]
        · rw [if_neg h1]; simp only [show (rd_T55 xs (i : Int)).f0 ≤ a by omega, decide_true, Bool.true_and]
          by_cases h0 : i = 0
          · subst h0; simp
          · rw [if_pos (show (i : Int) > 0 by omega), wrap_pred i (by omega) (by omega), if_pos (by omega), if_pos (by omega)]
            by_cases h3 : (rd_T55 xs (i : Int)).f0 < (rd_T55 xs ((i - 1 : Nat) : Int)).f0
            · rw [if_pos h3]; simp only [h0, h3, not_true, decide_false, Bool.or_false, Bool.false_eq_true, if_false]
            · rw [if_neg h3]; simp only [h0, h3, not_false_eq_true, decide_true, Bool.or_true, if_true]
    · simp only [spec_JournalOk.l0]; rw [if_neg (by omega)]
  have j0 : ∀ c : Bool, Ev (fun k => spec_JournalOk.j0 k c a b xs) (!c && (List.range xs.length).all (entOk a xs)) := by
    intro c
    refine Ev.step (f := fun k => if c = true then some false else spec_JournalOk.l0 k 0 a b xs) (fun k => by simp only [spec_JournalOk.j0]) ?_
    cases c with
    | true => exact Ev.now _
    | false => exact loop
  unfold spec_JournalOk.f journalOk
  simp only [l1In_eq, Option.bind_some]
  by_cases h1 : 0 ≤ a ∧ a ≤ 1000000000000
  · simp only [h1, and_self, decide_true, if_true, Bool.true_and]
    by_cases h2 : 0 ≤ b ∧ b ≤ 1000000000000
    · simp only [h2, and_self, decide_true, if_true, Bool.true_and]
      have := j0 (decide ((xs.length : Int) > 500))
      rwa [show (!decide ((xs.length : Int) > 500)) = decide ((xs.length : Int) ≤ 500) by by_cases h : (xs.length : Int) ≤ 500 <;> simp [h] <;> omega] at this
    · simp only [h2, decide_false, Bool.false_eq_true, if_false, Bool.false_and]
      have := j0 true; simpa using this
  · simp only [h1, decide_false, Bool.false_eq_true, if_false, Bool.false_and]
    have := j0 true; simpa using this
def bef (xs : List IP) (i : Int) : Int := if i ≤ 0 then 0 else (rE xs (i - 1)).f0
theorem impl_journal (a b : Int) (xs : List IP) (hl : xs.length ≤ 2097152) : Ev (fun k => impl_isJournal.f k a b xs) (journalOk a b xs) := by
  have loop : Ev (fun k => impl_isJournal.l0 k 0 xs (xs.length : Int) 0 a b xs) ((List.range xs.length).all (entOk a xs)) := by
    refine all_loop (F := fun k i => impl_isJournal.l0 k (bef xs i) xs (xs.length : Int) i a b xs) (fun i hi r hr => ?_) (Ev.step (f := fun _ => some true) (fun k => ?_) (Ev.now _))
    · refine Ev.step (f := fun k => if entOk a xs i = true then impl_isJournal.l0 k (bef xs ((i + 1 : Nat) : Int)) xs (xs.length : Int) ((i + 1 : Nat) : Int) a b xs else some false) (fun k => ?_) (stop_or _ _ hr)
      have eb : bef xs ((i + 1 : Nat) : Int) = (rd_T55 xs (i : Int)).f0 := by
        unfold bef rE; rw [if_neg (by omega), show ((i + 1 : Nat) : Int) - 1 = (i : Int) by omega]
      simp only [impl_isJournal.l0]; rw [if_pos (by omega), if_pos (by omega), if_pos (by omega), impl_entry, wrap_nat i (by omega), eb]; simp only [Option.bind_some]
      unfold entOk rE
      cases he : entryOk (rd_T55 xs (i : Int)).f0 (rd_T55 xs (i : Int)).f1 (rd_T55 xs (i : Int)).f2 with
      | false => simp only [Bool.false_eq_true, if_false, Bool.false_and]
      | true =>
        simp only [if_true, Bool.true_and]
        have hpos : 1 ≤ (rd_T55 xs (i : Int)).f0 := by
          unfold entryOk at he; simp only [Bool.and_eq_true, decide_eq_true_eq] at he; exact he.1.1
        have hb : bef xs (i : Int) = if i = 0 then 0 else (rd_T55 xs ((i - 1 : Nat) : Int)).f0 := by
          unfold bef rE
          by_cases h0 : i = 0
          · rw [if_pos (by omega), if_pos h0]
          · rw [if_neg (by omega), if_neg h0, show ((i : Int)) - 1 = ((i - 1 : Nat) : Int) by omega]
        rw [hb]
        by_cases h1 : (rd_T55 xs (i : Int)).f0 > a
        · rw [if_pos h1]; simp only [show ¬ (rd_T55 xs (i : Int)).f0 ≤ a by omega, decide_false, Bool.false_and, Bool.false_eq_true, if_false, ite_self]
        · rw [if_neg h1]; simp only [show (rd_T55 xs (i : Int)).f0 ≤ a by omega, decide_true, Bool.true_and]
          by_cases h0 : i = 0
          · rw [if_pos h0, if_neg (by omega)]; simp only [h0, decide_true, Bool.true_or, if_true]
          · rw [if_neg h0]
            by_cases h3 : (rd_T55 xs (i : Int)).f0 < (rd_T55 xs ((i - 1 : Nat) : Int)).f0
            · rw [if_pos h3]; simp only [h0, h3, not_true, decide_false, Bool.or_false, Bool.false_eq_true, if_false]
            · rw [if_neg h3]; simp only [h0, h3, not_false_eq_true, decide_true, Bool.or_true, if_true]
    · simp only [impl_isJournal.l0]; rw [if_neg (by omega)]
  have j0 : ∀ c : Bool, Ev (fun k => impl_isJournal.j0 k c a b xs) (!c && (List.range xs.length).all (entOk a xs)) := by
    intro c
    refine Ev.step (f := fun k => if c = true then some false else impl_isJournal.l0 k 0 xs (xs.length : Int) 0 a b xs) (fun k => by simp only [impl_isJournal.j0]) ?_
    cases c with
    | true => exact Ev.now _
    | false => exact loop
  have hn : ∀ c : Int, impl_isNumber.f c = some (decide (0 ≤ c ∧ c ≤ 1000000000000)) := fun c => by unfold impl_isNumber.f; rw [in_eq]; rfl
  unfold impl_isJournal.f journalOk
  simp only [hn, Option.bind_some]
  by_cases h1 : 0 ≤ a ∧ a ≤ 1000000000000
  · simp only [h1, and_self, decide_true, if_true, Bool.true_and]
    by_cases h2 : 0 ≤ b ∧ b ≤ 1000000000000
    · simp only [h2, and_self, decide_true, if_true, Bool.true_and]
      have := j0 (decide ((xs.length : Int) > 500))
      rwa [show (!decide ((xs.length : Int) > 500)) = decide ((xs.length : Int) ≤ 500) by by_cases h : (xs.length : Int) ≤ 500 <;> simp [h] <;> omega] at this
    · simp only [h2, decide_false, Bool.false_eq_true, if_false, Bool.false_and]
      have := j0 true; simpa using this
  · simp only [h1, decide_false, Bool.false_eq_true, if_false, Bool.false_and]
    have := j0 true; simpa using this
end JournalOkOf
open JournalOkOf

theorem FnExactJournalOk : laws_FnExactJournalOk.Pure := by
  intro a b xs _ _ hx
  refine Ev.rounds (g := fun k => laws_FnExactJournalOk.f k a b xs) ?_
  unfold laws_FnExactJournalOk.f
  obtain ⟨r, hr, _, hr2⟩ := sz_ok a b xs hx.1 (fun x h => (hx.2 x h).2.2)
  refine Ev.bind hr ?_
  by_cases h0 : r < 0
  · simp only [if_pos h0]; exact Ev.now _
  simp only [if_neg h0]
  obtain ⟨hl, _⟩ := hr2 (by omega)
  have ht := to_ok a b xs hl
  have hm : (xs.map toP).length ≤ 2097152 := by rw [List.length_map]; omega
  refine Ev.bind ht (Ev.bind (spec_journal a b _ hm) (Ev.bind ht (Ev.bind (a := journalOk a b (xs.map toP)) ?_ ?_)))
  · unfold impl_JournalOk.f; exact Ev.bind (impl_journal a b _ hm) (Ev.now _)
  · simp only [bne_self_eq_false, Bool.false_eq_true, if_false]
    refine Ev.bind ht (Ev.bind (eq_refl a b _ hm) ?_)
    simp only [if_true]; exact Ev.now _

end Go.Proofs.Ytlodhcmbonljgaa.Pure
