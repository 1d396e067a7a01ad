/- For every text the program's TakeText returns what the reference's returns. No condition but the size that the model lets a text have. -/
import Derived.Test.YtlodhcmbonljgaaPFnExactTakeTextx2
import Derived.Test.YtlodhcmbonljgaaTake
namespace Go.Proofs.Ytlodhcmbonljgaa.Pure
open Go.RowKit Go.Proofs.Ytlodhcmbonljgaa.PFnExactTakeText Go.Proofs.YtlodhcmbonljgaaW.PrintWords Go.Proofs.YtlodhcmbonljgaaW.PrintLast Go.Proofs.YtlodhcmbonljgaaW.PrintMore Go.Proofs.Ytlodhcmbonljgaa.Bits Go.Proofs.Ytlodhcmbonljgaa.Num Go.Proofs.Ytlodhcmbonljgaa.Take
set_option linter.unusedSimpArgs false
set_option linter.unusedVariables false
namespace TakeTextOf
theorem spec_take_loop (s : ByteArray) (hs : s.size ≤ 140737488351232) (f : Nat) : ∀ (i : Nat) (n : Int), f + i = 6 → i ≤ s.size → 0 ≤ n → n < p7 i →
    Ev (fun k => spec_TakeNumber.l0 k s n (p7 i) (i : Int)) (takeR s (takeL f i n ((bytesOf s).drop i))) := by
  induction f with
  | zero =>
    intro i n hi hle h0 h1
    have no : Ev (fun k => spec_TakeNumber.j1 k s n (p7 i) (i : Int) false) (takeR s none) :=
      Ev.step (f := fun _ => some (0, ⟨#[]⟩, false)) (fun k => by simp only [spec_TakeNumber.j1, Bool.false_eq_true, if_false]) (Ev.now _)
    by_cases hlt : (i : Int) < (s.size : Int)
    · refine Ev.step (f := fun k => spec_TakeNumber.j1 k s n (p7 i) (i : Int) false) (fun k => ?_) no
      simp only [spec_TakeNumber.l0]; rw [if_pos hlt, show decide ((i : Int) < 6) = false by simp; omega]
    · refine Ev.step (f := fun k => spec_TakeNumber.j1 k s n (p7 i) (i : Int) false) (fun k => ?_) no
      simp only [spec_TakeNumber.l0]; rw [if_neg hlt]
  | succ f ih =>
    intro i n hi hle h0 h1
    by_cases hlt : (i : Int) < (s.size : Int)
    · refine Ev.step (f := fun k => spec_TakeNumber.j1 k s n (p7 i) (i : Int) true) (fun k => ?_) ?_
      · simp only [spec_TakeNumber.l0]; rw [if_pos hlt, show decide ((i : Int) < 6) = true by simp; omega]
      have hlt' : i < s.size := by omega
      obtain ⟨c0, c1⟩ := bt_range s (i : Int)
      rw [drop_bytes s i hlt']
      have f0 : (0 : Int) ≤ (i : Int) := Int.natCast_nonneg i
      have f2 : (0 : Int) ≤ ((i + 1 : Nat) : Int) := Int.natCast_nonneg (i + 1)
      have f3 : ((i + 1 : Nat) : Int) ≤ (s.size : Int) := by omega
      have g1 : f + (i + 1) = 6 := by omega
      have g2 : i + 1 ≤ s.size := hlt'
      have i5 : i ≤ 5 := by omega
      obtain ⟨p1, p2⟩ := p7_range i i5
      obtain ⟨d1, d2, d3⟩ := digit_le i n (bt s i) i5 h0 h1
      have e1 : wrap64 (bt s i) = bt s i := by unfold wrap64; omega
      have e2 : wrap64 (n + wrap64 (Int.tmod (bt s i) 128 * p7 i)) = n + bt s i % 128 * p7 i := by
        rw [Int.tmod_eq_emod_of_nonneg c0]; unfold wrap64; omega
      have e3 : wrap64 (p7 i * 128) = p7 (i + 1) := by rw [p7_succ]; unfold wrap64; omega
      have e4 : wrap64 ((i : Int) + 1) = ((i + 1 : Nat) : Int) := wrap_succ i _ hlt' hs
      by_cases hc : 128 ≤ bt s i
      · refine Ev.step (f := fun k => spec_TakeNumber.l0 k s (n + bt s i % 128 * p7 i) (p7 (i + 1)) ((i + 1 : Nat) : Int)) (fun k => ?_) ?_
        · simp only [spec_TakeNumber.j1, if_true]; rw [if_pos f0, if_pos hlt, e1, e2, e3, e4, if_neg (Int.not_lt.2 hc)]
        · simp only [takeL, if_pos hc]; exact ih (i + 1) _ g1 g2 (Int.add_nonneg h0 d1) d3
      · simp only [takeL, if_neg hc]
        refine Ev.step (f := fun _ => some (takeR s (if (bt s i = 0 ∧ 0 < i) ∨ 1000000000000 < n + bt s i % 128 * p7 i then none else some (n + bt s i % 128 * p7 i, i + 1)))) (fun k => ?_) (Ev.now _)
        simp only [spec_TakeNumber.j1, if_true]; rw [if_pos f0, if_pos hlt, e1, e2, e3, e4, if_pos (Int.not_le.1 hc)]
        rw [if_pos f2, if_pos f3, Int.toNat_natCast]
        clear e1 e2 e3 e4
        have tot : 0 ≤ n + bt s i % 128 * p7 i := Int.add_nonneg h0 d1
        clear d1 d2 d3 p1 p2 h0 h1
        generalize n + bt s i % 128 * p7 i = T at tot ⊢
        by_cases hz : bt s i = 0
        · rw [if_pos hz]
          by_cases hp : 0 < i
          · rw [if_pos (show (i : Int) > 0 by omega), if_pos (.inl ⟨hz, hp⟩)]; rfl
          · rw [if_neg (show ¬ (i : Int) > 0 by omega)]
            by_cases hb : T > 1000000000000
            · rw [if_pos hb, if_pos (.inr hb)]; rfl
            · rw [if_neg hb, if_neg (by omega)]; rfl
        · rw [if_neg hz]
          by_cases hb : T > 1000000000000
          · rw [if_pos hb, if_pos (.inr hb)]; rfl
          · rw [if_neg hb, if_neg (by omega)]; rfl
    · refine Ev.step (f := fun k => spec_TakeNumber.j1 k s n (p7 i) (i : Int) false) (fun k => ?_) ?_
      · simp only [spec_TakeNumber.l0]; rw [if_neg hlt]
      · rw [List.drop_eq_nil_of_le (by rw [bytesOf_length]; omega)]
        exact Ev.step (f := fun _ => some (0, ⟨#[]⟩, false)) (fun k => by simp only [spec_TakeNumber.j1, Bool.false_eq_true, if_false]) (Ev.now _)
theorem spec_take (s : ByteArray) (hs : s.size ≤ 140737488351232) : Ev (fun k => spec_TakeNumber.f k s) (takeM s) := by
  unfold spec_TakeNumber.f
  exact spec_take_loop s hs 6 0 0 rfl (by omega) (by omega) (by decide)
theorem isNumber_eq (a : Int) : impl_isNumber.f a = some (decide (0 ≤ a ∧ a ≤ 1000000000000)) := by
  unfold impl_isNumber.f impl_in.f
  by_cases h : a ≥ 0
  · rw [if_pos h]; simp [h]
  · rw [if_neg h]; simp [h]
theorem impl_take_loop (s : ByteArray) (hs : s.size ≤ 140737488351232) (f : Nat) : ∀ (i : Nat) (n : Int), f + i = 6 → i ≤ s.size → 0 ≤ n → n < p7 i →
    Ev (fun k => impl_takeNumber.l0 k s n (i : Int)) (takeR s (takeL f i n ((bytesOf s).drop i))) := by
  induction f with
  | zero =>
    intro i n hi hle h0 h1
    have no : Ev (fun k => impl_takeNumber.j1 k s n (i : Int) false) (takeR s none) :=
      Ev.step (f := fun _ => some (0, ⟨#[]⟩, false)) (fun k => by simp only [impl_takeNumber.j1, Bool.false_eq_true, if_false]) (Ev.now _)
    by_cases hlt : (i : Int) < (s.size : Int)
    · refine Ev.step (f := fun k => impl_takeNumber.j1 k s n (i : Int) false) (fun k => ?_) no
      simp only [impl_takeNumber.l0]; rw [if_pos hlt, show decide ((i : Int) < 6) = false by simp; omega]
    · refine Ev.step (f := fun k => impl_takeNumber.j1 k s n (i : Int) false) (fun k => ?_) no
      simp only [impl_takeNumber.l0]; rw [if_neg hlt]
  | succ f ih =>
    intro i n hi hle h0 h1
    by_cases hlt : (i : Int) < (s.size : Int)
    · refine Ev.step (f := fun k => impl_takeNumber.j1 k s n (i : Int) true) (fun k => ?_) ?_
      · simp only [impl_takeNumber.l0]; rw [if_pos hlt, show decide ((i : Int) < 6) = true by simp; omega]
      have hlt' : i < s.size := by omega
      obtain ⟨c0, c1⟩ := bt_range s (i : Int)
      rw [drop_bytes s i hlt']
      have f0 : (0 : Int) ≤ (i : Int) := Int.natCast_nonneg i
      have f2 : (0 : Int) ≤ ((i + 1 : Nat) : Int) := Int.natCast_nonneg (i + 1)
      have f3 : ((i + 1 : Nat) : Int) ≤ (s.size : Int) := by omega
      have g1 : f + (i + 1) = 6 := by omega
      have g2 : i + 1 ≤ s.size := hlt'
      have i5 : i ≤ 5 := by omega
      obtain ⟨p1, p2⟩ := p7_range i i5
      obtain ⟨d1, d2, d3⟩ := digit_le i n (bt s i) i5 h0 h1
      have e1 : wrap64 (bt s i) = bt s i := by unfold wrap64; omega
      have e2 : Go.bits .or .i64 n (shl .i64 (Int.tmod (bt s i) 128) (wrap64 (7 * (i : Int)))) = n + bt s i % 128 * p7 i := or_digit i n _ i5 h0 h1 c0
      have e3 : 0 ≤ wrap64 (7 * (i : Int)) := by
        have : wrap64 (7 * (i : Int)) = 7 * (i : Int) := by clear d1 d2 d3 h0 h1 p1 p2; unfold wrap64; omega
        rw [this]; clear d1 d2 d3 h0 h1 p1 p2; omega
      have e4 : wrap64 ((i : Int) + 1) = ((i + 1 : Nat) : Int) := wrap_succ i _ hlt' hs
      by_cases hc : 128 ≤ bt s i
      · refine Ev.step (f := fun k => impl_takeNumber.l0 k s (n + bt s i % 128 * p7 i) ((i + 1 : Nat) : Int)) (fun k => ?_) ?_
        · simp only [impl_takeNumber.j1, if_true]; rw [if_pos f0, if_pos hlt, if_pos e3, e1, e2, e4, if_pos hc]
        · simp only [takeL, if_pos hc]; exact ih (i + 1) _ g1 g2 (Int.add_nonneg h0 d1) d3
      · simp only [takeL, if_neg hc]
        refine Ev.step (f := fun _ => some (takeR s (if (bt s i = 0 ∧ 0 < i) ∨ 1000000000000 < n + bt s i % 128 * p7 i then none else some (n + bt s i % 128 * p7 i, i + 1)))) (fun k => ?_) (Ev.now _)
        simp only [impl_takeNumber.j1, if_true]; rw [if_pos f0, if_pos hlt, if_pos e3, e1, e2, e4, if_neg hc]
        rw [if_pos f2, if_pos f3, Int.toNat_natCast, isNumber_eq]
        simp only [Option.bind_some, decide_eq_true_eq]
        clear e1 e2 e3 e4
        have tot : 0 ≤ n + bt s i % 128 * p7 i := Int.add_nonneg h0 d1
        clear d1 d2 d3 p1 p2 h0 h1
        generalize n + bt s i % 128 * p7 i = T at tot ⊢
        by_cases hz : bt s i = 0
        · rw [if_pos hz]
          by_cases hp : 0 < i
          · rw [if_pos (show (i : Int) > 0 by omega), if_pos (.inl ⟨hz, hp⟩)]; rfl
          · rw [if_neg (show ¬ (i : Int) > 0 by omega)]
            by_cases hb : T > 1000000000000
            · rw [if_neg (by omega), if_pos (.inr hb)]; rfl
            · rw [if_pos (by omega), if_neg (by omega)]; rfl
        · rw [if_neg hz]
          by_cases hb : T > 1000000000000
          · rw [if_neg (by omega), if_pos (.inr hb)]; rfl
          · rw [if_pos (by omega), if_neg (by omega)]; rfl
    · refine Ev.step (f := fun k => impl_takeNumber.j1 k s n (i : Int) false) (fun k => ?_) ?_
      · simp only [impl_takeNumber.l0]; rw [if_neg hlt]
      · rw [List.drop_eq_nil_of_le (by rw [bytesOf_length]; omega)]
        exact Ev.step (f := fun _ => some (0, ⟨#[]⟩, false)) (fun k => by simp only [impl_takeNumber.j1, Bool.false_eq_true, if_false]) (Ev.now _)
theorem impl_take (s : ByteArray) (hs : s.size ≤ 140737488351232) : Ev (fun k => impl_takeNumber.f k s) (takeM s) := by
  unfold impl_takeNumber.f
  exact impl_take_loop s hs 6 0 0 rfl (by omega) (by omega) (by decide)
theorem takeL_nonneg (f : Nat) : ∀ (i : Nat) (n : Int) (l : List Int) (m : Int) (j : Nat), 0 ≤ n → takeL f i n l = some (m, j) → 0 ≤ m := by
  induction f with
  | zero => intro i n l m j _ h; simp [takeL] at h
  | succ f ih =>
    intro i n l m j h0 h
    have hp := p7_pos i
    cases l with
    | nil => simp [takeL] at h
    | cons c l =>
      have hd : 0 ≤ c % 128 * p7 i := Int.mul_nonneg (Int.emod_nonneg _ (by decide)) (Int.le_of_lt hp)
      simp only [takeL] at h
      split at h
      · exact ih _ _ _ _ _ (by omega) h
      · split at h
        · simp at h
        · simp only [Option.some.injEq, Prod.mk.injEq] at h; omega
theorem takeM_nonneg (s : ByteArray) : 0 ≤ (takeM s).1 := by
  unfold takeM
  cases h : takeL 6 0 0 (bytesOf s) with
  | none => simp [takeR]
  | some x => obtain ⟨m, j⟩ := x; exact takeL_nonneg 6 0 0 _ m j (by omega) h
theorem spec_takeText (s : ByteArray) (hs : s.size ≤ 140737488351232) : Ev (fun k => spec_TakeText.f k s) (takeTextM s) := by
  unfold spec_TakeText.f
  refine Ev.bind (spec_take s hs) ?_
  have h0 := takeM_nonneg s
  unfold takeTextM
  by_cases h1 : (takeM s).2.2 = true
  · by_cases h2 : (takeM s).1 > 20000
    · simp only [if_pos h1, if_pos h2]; rw [if_neg (by omega)]; exact Ev.now _
    · by_cases h3 : (takeM s).1 > ((takeM s).2.1.size : Int)
      · simp only [if_pos h1, if_neg h2, if_pos h3]; rw [if_neg (by omega)]; exact Ev.now _
      · simp only [if_pos h1, if_neg h2, if_neg h3, if_pos h0, if_pos (show (takeM s).1 ≤ ((takeM s).2.1.size : Int) by omega)]
        rw [if_pos ⟨h1, by omega, by omega⟩]; exact Ev.now _
  · simp only [if_neg h1]; rw [if_neg (fun h => h1 h.1)]; exact Ev.now _
theorem impl_takeText_eq (s : ByteArray) (hs : s.size ≤ 140737488351232) : Ev (fun k => impl_takeText.f k s) (takeTextM s) := by
  unfold impl_takeText.f
  refine Ev.bind (impl_take s hs) ?_
  have h0 := takeM_nonneg s
  unfold takeTextM
  by_cases h1 : (takeM s).2.2 = true
  · by_cases h2 : (takeM s).1 > 20000
    · simp only [if_pos h1, if_pos h2]; rw [if_neg (by omega)]; exact Ev.now _
    · by_cases h3 : (takeM s).1 > ((takeM s).2.1.size : Int)
      · simp only [if_pos h1, if_neg h2, if_pos h3]; rw [if_neg (by omega)]; exact Ev.now _
      · simp only [if_pos h1, if_neg h2, if_neg h3, if_pos h0, if_pos (show (takeM s).1 ≤ ((takeM s).2.1.size : Int) by omega)]
        rw [if_pos ⟨h1, by omega, by omega⟩]; exact Ev.now _
  · simp only [if_neg h1]; rw [if_neg (fun h => h1 h.1)]; exact Ev.now _
end TakeTextOf
open TakeTextOf

theorem FnExactTakeText : laws_FnExactTakeText.Pure := by
  intro s hs
  refine Ev.rounds (g := fun k => laws_FnExactTakeText.f k s) ?_
  unfold laws_FnExactTakeText.f
  by_cases h0 : (s.size : Int) > 1048576
  · simp only [if_pos h0]; exact Ev.now _
  · simp only [if_neg h0]
    refine Ev.bind (spec_takeText s hs) (Ev.bind (a := takeTextM s) ?_ ?_)
    · unfold impl_TakeText.f; exact Ev.bind (impl_takeText_eq s hs) (Ev.now _)
    · simp only [if_true, bne_self_eq_false, Bool.false_eq_true, if_false]; exact Ev.now _

end Go.Proofs.Ytlodhcmbonljgaa.Pure
