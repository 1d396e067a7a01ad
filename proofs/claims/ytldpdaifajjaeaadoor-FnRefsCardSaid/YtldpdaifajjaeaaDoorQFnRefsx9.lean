/- Written by wip/myprint.py of this repo (the kit's print, with additions of this session). -/
import Derived.Test.YtldpdaifajjaeaaDoorQFnRefsx0
set_option maxRecDepth 100000
namespace Go.Proofs.YtldpdaifajjaeaaDoor.QFnRefs
open Go.RowKit Go.Proofs.YtldpdaifajjaeaaDoorW.PrintWords Go.Proofs.YtldpdaifajjaeaaDoorW.PrintLast Go.Proofs.YtldpdaifajjaeaaDoorW.PrintMore
attribute [local go_sem] max2_int min2_int max_two min_two max_three min_three max_four min_four   -- for this text's walks alone
set_option linter.unusedVariables false
set_option linter.unusedSimpArgs false

/-! ### strings_IndexAny: function 35 (walked by hand) -/

def strings_IndexAny.cs : ByteArray := ⟨#[58, 64]⟩
def strings_IndexAny.f (a0 : ByteArray) (a1 : ByteArray) : Option Int := if a0.size < 4294967281 ∧ a1 = strings_IndexAny.cs then some (Lib.indexAny a0.data.toList [58, 64]) else none
def strings_IndexAny.adv (w : World) (g : Nat) (s : ByteArray) (j : Nat) : World := { w with heap := w.heap.setIfInBounds g (.stringIter s j) }
theorem strings_IndexAny.next (w : World) (g i : Nat) (s : ByteArray) (hi : i < s.size) (hg : w.heap[g]? = some (.stringIter s i)) (ty : TypeId) :
  (Instr.next (.pointer (some ⟨g, 0, none⟩)) true ty).run Tryd.prog w = .ok (.tuple #[.bool true, .int .i64 i, .int .i32 ((Utf8.decode s i).1 : Nat)]) (strings_IndexAny.adv w g s (i + (Utf8.decode s i).2)) := by
 simp only [Instr.next, getObj, setObj, Sem.run_bind, Sem.run, hg, Result.andThen, hi, if_true]
 simp [goInt, strings_IndexAny.adv]
theorem strings_IndexAny.nextEnd (w : World) (g i : Nat) (s : ByteArray) (hi : ¬ i < s.size) (hg : w.heap[g]? = some (.stringIter s i)) (ty : TypeId) :
  (Instr.next (.pointer (some ⟨g, 0, none⟩)) true ty).run Tryd.prog w = .ok (.tuple #[.bool false]) w := by
 simp [Instr.next, getObj, Sem.run, hg, hi]
theorem strings_IndexAny.below {B g j : Nat} {s : ByteArray} {a w : World} (h : Below B a w) (hg : B ≤ g) : Below B a (strings_IndexAny.adv w g s j) :=
 ⟨h.os, h.tape, h.output, by simpa [strings_IndexAny.adv] using h.size, fun k hk => by
  have : (strings_IndexAny.adv w g s j).heap[k]? = w.heap[k]? := by simp only [strings_IndexAny.adv]; rw [Array.getElem?_setIfInBounds_ne (by omega)]
  exact this.trans (h.block k hk)⟩
theorem strings_IndexAny.at_ {w : World} {g i : Nat} {s : ByteArray} (j : Nat) (hg : w.heap[g]? = some (.stringIter s i)) : (strings_IndexAny.adv w g s j).heap[g]? = some (.stringIter s j) := by
 have hlt : g < w.heap.size := (Array.getElem?_eq_some_iff.1 hg).1
 simp [strings_IndexAny.adv, hlt]
theorem strings_IndexAny.get (s : ByteArray) (i : Nat) (h : i < s.size) : s.get! i = s[i]'h := get_at s i h
/-- A byte above 127 begins a rune above 127, of bytes above 127. -/
theorem strings_IndexAny.dec (s : ByteArray) (i : Nat) (h : i < s.size) (ha : 128 ≤ (s[i]'h).toNat) : i + (Utf8.decode s i).2 ≤ s.size ∧ ∀ j, i ≤ j → j < i + (Utf8.decode s i).2 → ∃ hj : j < s.size, 128 ≤ (s[j]'hj).toNat := by
 have cont : ∀ k, (decide (i + k < s.size) && (s.get! (i + k)).toNat / 64 == 2) = true → ∃ hj : i + k < s.size, 128 ≤ (s[i + k]'hj).toNat := by
  intro k hk; simp only [Bool.and_eq_true, decide_eq_true_eq, beq_iff_eq] at hk; refine ⟨hk.1, ?_⟩; rw [← strings_IndexAny.get s (i + k) hk.1]
  omega
 have one : i + 1 ≤ s.size ∧ ∀ j, i ≤ j → j < i + 1 → ∃ hj : j < s.size, 128 ≤ (s[j]'hj).toNat := ⟨h, fun j h1 h2 => by
  obtain rfl : j = i := by omega
  exact ⟨h, ha⟩⟩
 unfold Utf8.decode
 simp only
 split
 ·
  rename_i hb
  rw [strings_IndexAny.get s (i + 0) h] at hb; exact absurd hb (by show ¬ (s[i]'h).toNat < 128; omega)
 split
 ·
  rename_i hc
  rw [Bool.and_eq_true] at hc; obtain ⟨h1, h2⟩ := cont 1 hc.2
  split
  ·
   refine ⟨by omega, fun j hj1 hj2 => ?_⟩
   rcases Nat.lt_or_ge j (i + 1) with hlt | hge
   ·
    exact one.2 j hj1 hlt
   exact zq143
  exact one
 split
 ·
  rename_i hc
  rw [Bool.and_eq_true, Bool.and_eq_true] at hc; obtain ⟨h1, h2⟩ := cont 1 hc.1.2; obtain ⟨h3, h4⟩ := cont 2 hc.2
  split
  ·
   refine ⟨by omega, fun j hj1 hj2 => ?_⟩
   rcases Nat.lt_or_ge j (i + 1) with hlt | hge
   ·
    exact one.2 j hj1 hlt
   rcases Nat.lt_or_ge j (i + 2) with hlt | hge2
   exact zq143
   ·
    obtain rfl : j = i + 2 := by omega
    exact ⟨h3, h4⟩
  exact one
 split
 ·
  rename_i hc
  rw [Bool.and_eq_true, Bool.and_eq_true, Bool.and_eq_true] at hc; obtain ⟨h1, h2⟩ := cont 1 hc.1.1.2; obtain ⟨h3, h4⟩ := cont 2 hc.1.2; obtain ⟨h5, h6⟩ := cont 3 hc.2
  split
  ·
   refine ⟨by omega, fun j hj1 hj2 => ?_⟩
   rcases Nat.lt_or_ge j (i + 1) with hlt | hge
   ·
    exact one.2 j hj1 hlt
   rcases Nat.lt_or_ge j (i + 2) with hlt | hge2
   exact zq143
   ·
    rcases Nat.lt_or_ge j (i + 3) with hlt | hge3
    ·
     obtain rfl : j = i + 2 := by omega
     exact ⟨h3, h4⟩
    obtain rfl : j = i + 3 := by omega
    exact ⟨h5, h6⟩
  exact one
 exact one
/-- What a rune above 127 is written as. -/
theorem strings_IndexAny.enc (r : Int) (h : 128 ≤ r) : (∃ a b : UInt8, Utf8.encode r = ⟨#[a, b]⟩ ∧ 128 ≤ b.toNat) ∨ (∃ a b c : UInt8, Utf8.encode r = ⟨#[a, b, c]⟩) ∨ (∃ a b c d : UInt8, Utf8.encode r = ⟨#[a, b, c, d]⟩) := by
 have hc : ¬ (if Utf8.valid r then r.toNat else Utf8.runeError) < 128 := by
  split
  ·
   omega
  decide
 unfold Utf8.encode
 simp only
 rw [if_neg hc]; generalize (if Utf8.valid r then r.toNat else Utf8.runeError) = c at hc
 split
 ·
  left
  refine ⟨_, _, rfl, ?_⟩; rw [UInt8.toNat_ofNat']
  omega
 split
 ·
  exact .inr (.inl ⟨_, _, _, rfl⟩)
 exact .inr (.inr ⟨_, _, _, _, rfl⟩)
set_option maxHeartbeats 2000000 in
set_option maxRecDepth 100000 in
theorem strings_IndexAny.valid (r : Int) (w : World) : Calls Tryd.prog 77 #[.int .i32 r] w fun e w' => (e = .returned (.bool true) ∨ e = .returned (.bool false)) ∧ Below w.heap.size w w' := by
 go_enter Tryd.func77, Tryd.ntmps77; go_wp2
 all_goals go_ret
 all_goals first | exact ⟨.inl rfl, Below.refl _ _⟩ | exact ⟨.inr rfl, Below.refl _ _⟩ | exact ⟨.inl rfl, pw_below_drewN (Below.refl _ _) _⟩ | exact ⟨.inr rfl, pw_below_drewN (Below.refl _ _) _⟩
def strings_IndexAny.T7 : Bool × List (List Nat × List Nat) := (true, [([], []), ([], []), ([1], [1]), ([0, 2], [0, 2]), ([], []), ([], []), ([4, 5], [4, 5]), ([3, 6], [3, 6]), ([7, 7, 0, 1, 2, 3, 4, 5, 6, 7], [7])])
def strings_IndexAny.B7 : List Nat := [0, 0, 2, 7, 0, 0, 48, 127, 255]
theorem strings_IndexAny.tab7 : rtab .any (opsOf Tryd.f55 7) = strings_IndexAny.T7 := by kernel_rfl
theorem strings_IndexAny.bits7 : waitsOk strings_IndexAny.T7.2 strings_IndexAny.B7 = true := by kernel_rfl
set_option maxHeartbeats 8000000 in
set_option maxRecDepth 100000 in
theorem strings_IndexAny.rune (r : Int) (w : World) (h : 128 ≤ r) :
  Calls Tryd.prog 55 #[.string strings_IndexAny.cs, .int .i32 r] w fun e w' => e = .returned (.int .i64 (-1)) ∧ Below w.heap.size w w' := by
 have HE := aM (strings_IndexAny.enc r h); have c1 := decide_eq_true (show (0 : Int) ≤ r by omega); have c2 := decide_eq_false (show ¬ r < 128 by omega); clear h; unfold strings_IndexAny.cs; by_cases c3 : r = 65533
 ·
  subst c3; clear HE c1 c2; go_enter Tryd.func55, Tryd.ntmps55; go_wp2
  go_loopg [5, 6] 2 (fun kq _ _ w' => ∃ i : Nat, Aside0 (i + kq = 2) ∧ Aside0 (Below w.heap.size w w') ∧ Aside0 (w'.heap[w.heap.size]? = some (.stringIter (⟨#[58, 64]⟩ : ByteArray) i)))
  case atStart => exact ⟨0, ⟨rfl⟩, ⟨below_alloc (Below.refl _ _) _⟩, ⟨World.iter_heap _ _ _⟩⟩
  case round =>
   obtain ⟨i, hi, HB, HI⟩ := hrel
   cases gk with
   | zero =>
    have e16 : i = 2 := by have := hi.out; omega
    subst e16; have hnx := strings_IndexAny.nextEnd _ _ 2 _ (by decide) HI.out; go_wp2; go_ret; exact ⟨rfl, HB.out⟩
   | succ g1 =>
    have hnx := strings_IndexAny.next _ _ i (⟨#[58, 64]⟩ : ByteArray) (show i < 2 by have := hi.out; omega) HI.out
    have hd : ∃ c : Nat, Utf8.decode (⟨#[58, 64]⟩ : ByteArray) i = (c, 1) ∧ c < 128 := by
     have : i = 0 ∨ i = 1 := by have := hi.out; omega
     rcases this with rfl | rfl
     ·
      exact ⟨58, by decide, by decide⟩
     exact ⟨64, by decide, by decide⟩
    obtain ⟨c, hd, hc⟩ := hd; rw [hd] at hnx; have hne : ((c : Int) == 65533) = false := beq_eq_false_iff_ne.2 (by omega); have HB2 := aM (strings_IndexAny.below (j := i + 1) (s := (⟨#[58, 64]⟩ : ByteArray)) HB.out (Nat.le_refl _)); have HI2 := aM (strings_IndexAny.at_ (i + 1) HI.out); clear hd hc; go_wp2
    go_roundg g1
    case measure => omega
    case rel => exact ⟨i + 1, ⟨by have := hi.out; omega⟩, HB2, HI2⟩
 have c4 : (r == 65533) = false := beq_eq_false_iff_ne.2 c3; clear c3
 rcases HE.out with ⟨a, b, he, hb⟩ | ⟨a, b, c, he⟩ | ⟨a, b, c, d, he⟩
 ·
  clear HE; go_enter Tryd.func55, Tryd.ntmps55
  go_wp2_with (fail)
  refine (strings_IndexAny.valid r _).mono ?_; rintro e w2 ⟨he2, hw⟩; have HB := aM hw; clear hw
  rcases he2 with rfl | rfl
  ·
   try dsimp only
   go_wp2
   go_step3
   go_wp2
   go_loopg [9] 0 (fun _ v9 w' => v9 = .int .i64 1 ∧ Aside0 (Below w.heap.size w w'))
   case atStart => exact ⟨rfl, HB⟩
   case round =>
    obtain ⟨rfl, HB2⟩ := hrel; have hx1 : ∀ h : 1 < (⟨#[58, 64]⟩ : ByteArray).size, (((⟨#[58, 64]⟩ : ByteArray)[1]'h).toNat : Int) = 64 := fun _ => rfl; have hx2 : ∀ h : 1 < (⟨#[a, b]⟩ : ByteArray).size, (((⟨#[a, b]⟩ : ByteArray)[1]'h).toNat : Int) = (b.toNat : Int) := fun _ => rfl; have c7 : ((64 : Int) != (b.toNat : Int)) = true := bne_iff_ne.2 (by omega); go_wp2
    go_step3
    go_wp2
    repeat (go_quiet (fail))
    go_wp2; refine start_ (n := 9) (S := fun w' => True) (ds := []) #[false, false, false, false, false, false, false, false, false] (by kernel_rfl) rfl rfl trivial (fun hHeld => ?_); refine with_tabW strings_IndexAny.tab7 strings_IndexAny.bits7 (fun HT_ HW_ => ?_); refine pure_ (i := 0) (N := some 34) (v := ?_) (a' := ?_) #[true, false, false, false, false, false, false, false, false] rfl rfl (any_of HT_.out (by kernel_rfl)) (fun _ _ _ h => h) (Or.inl ⟨by rfl, ?_⟩) ?_ ?_; rotate_left; exact zq131; rotate_left; exact zq132; refine pure_ (i := 1) (N := some 35) (v := ?_) (a' := ?_) #[true, true, false, false, false, false, false, false, false] rfl rfl (any_of HT_.out (by kernel_rfl)) (fun _ _ _ h => h) (Or.inl ⟨by rfl, ?_⟩) ?_ ?_; rotate_left; exact zq131; rotate_left; exact zq132; refine pure_ (i := 2) (N := some 36) (v := ?_) (a' := ?_) #[true, true, true, false, false, false, false, false, false] rfl rfl (any_of HT_.out (by kernel_rfl)) (fun _ _ _ h => h) (Or.inl ⟨by rfl, ?_⟩) ?_ ?_; rotate_left; exact zq131; rotate_left; exact zq132; refine pure_ (i := 3) (N := some 37) (v := .string (⟨#[]⟩ : ByteArray)) (a' := ?_) #[true, true, true, true, false, false, false, false, false] rfl rfl (any_of HT_.out (by kernel_rfl)) (fun _ _ _ h => h) (Or.inl ⟨by rfl, ?_⟩) ?_ ?_
    ·
     intro w'
     go_simp
     rw [show wrap64 2 = 2 from by unfold wrap64; rfl, if_pos (by decide)]
     rfl
    rotate_left; exact zq132; refine pure_ (i := 4) (N := some 38) (v := ?_) (a' := ?_) #[true, true, true, true, true, false, false, false, false] rfl rfl (any_of HT_.out (by kernel_rfl)) (fun _ _ _ h => h) (Or.inl ⟨by rfl, ?_⟩) ?_ ?_; rotate_left; exact zq131; rotate_left; exact zq132; refine pure_ (i := 5) (N := some 39) (v := ?_) (a' := ?_) #[true, true, true, true, true, true, false, false, false] rfl rfl (any_of HT_.out (by kernel_rfl)) (fun _ _ _ h => h) (Or.inl ⟨by rfl, ?_⟩) ?_ ?_; rotate_left; exact zq131; rotate_left; exact zq132; refine take_ (i := 6) (N := some 40) (v := ?_) (a' := ?_) #[true, true, true, true, true, true, true, false, false] rfl rfl (take_ofW HT_.out HW_.out (by kernel_rfl)) (fun _ _ _ h => h) (Or.inl ⟨by rfl, ?_⟩) hHeld ?_ ?_; rotate_left
    ·
     intro w' _
     go_simp
     with_reducible rfl
    rotate_left; exact zq132; refine one_ (i := 7) (N := some 41) #[true, true, true, true, true, true, true, true, false] rfl rfl (one_of HT_.out (by kernel_rfl)) (by decide) (fun K hK => ?_); refine goes_ Tryd.func76 (by kernel_rfl) rfl #[.string (⟨#[]⟩ : ByteArray), .int .u8 (b.toNat : Int)] (by rfl) rfl rfl (by (try simp only [List.map_toArray, List.map_cons, List.map_nil]); first | done | rfl) ?_; refine (Any.strings_IndexByte { Tryd.lays153 with } (⟨#[]⟩ : ByteArray) (b.toNat : Int) _).mono ?_; rintro e w' ⟨he7, rfl⟩; obtain rfl : e = .returned (.int .i64 (-1)) := he7; refine ⟨_, rfl, ?_⟩; refine hK.out _ _ (trivial) (fun hHeld => ?_); clear hK K; refine norm_ (a' := ?_) ?_ ?_; rotate_left
    ·
     show Act.put _ (some 41) _ = _
     simp only [Act.put, List.setIfInBounds_toArray, List.set_cons_zero, List.set_cons_succ, i64_w, i32_w]
     rfl
    refine pure_ (i := 8) (N := some 11) (v := ?_) (a' := ?_) #[true, true, true, true, true, true, true, true, true] rfl rfl (any_of HT_.out (by kernel_rfl)) (fun _ _ _ h => h) (Or.inl ⟨by rfl, ?_⟩) ?_ ?_; rotate_left; exact zq131; rotate_left; exact zq132; refine dE ?_; go_wp2; (try simp only [Exit.noGoto, Exit.inBlock, Exit.then]); go_ret; exact ⟨rfl, pw_below_drewN HB2.out _⟩
  exact zq144
 ·
  clear HE; go_enter Tryd.func55, Tryd.ntmps55
  go_wp2_with (fail)
  refine (strings_IndexAny.valid r _).mono ?_; rintro e w2 ⟨he2, hw⟩; have HB := aM hw; clear hw
  rcases he2 with rfl | rfl
  ·
   try dsimp only
   go_wp2
   go_step3
   go_wp2
   go_loopg [9] 0 (fun _ v9 w' => v9 = .int .i64 2 ∧ Aside0 (Below w.heap.size w w'))
   case atStart => exact ⟨rfl, HB⟩
   case round =>
    obtain ⟨rfl, HB2⟩ := hrel; go_wp2; (try simp only [Exit.noGoto, Exit.inBlock, Exit.then]); go_ret; exact ⟨rfl, HB2.out⟩
  exact zq144
 clear HE; go_enter Tryd.func55, Tryd.ntmps55
 go_wp2_with (fail)
 refine (strings_IndexAny.valid r _).mono ?_; rintro e w2 ⟨he2, hw⟩; have HB := aM hw; clear hw
 rcases he2 with rfl | rfl
 ·
  try dsimp only
  go_wp2
  go_step3
  go_wp2
  go_loopg [9] 0 (fun _ v9 w' => v9 = .int .i64 3 ∧ Aside0 (Below w.heap.size w w'))
  case atStart => exact ⟨rfl, HB⟩
  case round =>
   obtain ⟨rfl, HB2⟩ := hrel; go_wp2; (try simp only [Exit.noGoto, Exit.inBlock, Exit.then]); go_ret; exact ⟨rfl, HB2.out⟩
 exact zq144
/-- The steps of a rune above 127: none of its bytes is in the set. -/
theorem strings_IndexAny.steps (s : ByteArray) (n : Nat) : ∀ i, (∀ j, i ≤ j → j < i + n → ∃ hj : j < s.size, 128 ≤ (s[j]'hj).toNat) → Lib.NoAny s.data.toList [58, 64] i → Lib.NoAny s.data.toList [58, 64] (i + n) := by
 induction n with
 | zero => exact fun i _ h => h
 | succ n ih =>
  intro i h hn; obtain ⟨hj, h1⟩ := h i (Nat.le_refl i) (by omega); have hx := Lib.data_getElem? s i hj
  have := ih (i + 1) (fun j h1 h2 => h j (by omega) (by omega)) (hn.succ hx (by
   generalize s[i]'hj = x at h1
   cases hc : ([58, 64] : List UInt8).contains x
   ·
    rfl
   rw [List.contains_iff_mem, List.mem_cons, List.mem_cons] at hc
   rcases hc with rfl | rfl | hc
   ·
    exact absurd h1 (by decide)
   ·
    exact absurd h1 (by decide)
   cases hc))
  rwa [show i + 1 + n = i + (n + 1) from by omega] at this
set_option maxHeartbeats 8000000 in
set_option maxRecDepth 100000 in
theorem strings_IndexAny.calls (a0 : ByteArray) (a1 : ByteArray) (r : Int) (w : World) (h : strings_IndexAny.f a0 a1 = some r) :
  Calls Tryd.prog 35 #[.string a0, .string a1] w fun e w' => e = .returned (.int .i64 r) ∧ Below w.heap.size w w' := by
 unfold strings_IndexAny.f at h
 split at h
 ·
  rename_i hc
  obtain ⟨hsz, rfl⟩ := hc; obtain rfl := Option.some.inj h; clear h; by_cases h8 : 8 < a0.size
  ·
   have H116 := zero_of_info (show (Tryd.prog.info? (Tryd.lays153_ren.t 116)).map (fun i => (i.zero, i.size)) = some (some (.agg (Array.replicate 256 (.bool false))), 256) from by kernel_rfl); refine (Any.strings_IndexAny_long { Tryd.lays153 with } H116.1 H116.2 a0 strings_IndexAny.cs w (by decide) h8 hsz (by decide) ?_).mono ?_
   ·
    intro j b hb
    match j, hb with
    | 0, hb => obtain rfl : (58 : UInt8) = b := Option.some.inj hb; decide
    | 1, hb => obtain rfl : (64 : UInt8) = b := Option.some.inj hb; decide
   rintro e w' ⟨h1, h2⟩; exact ⟨h1, h2 ▸ below_alloc (below_alloc (Below.refl _ _) _) _⟩
  have hn1 : ((2 : Int) == 1) = false := rfl; have h8z : decide ((8 : Int) < (a0.size : Int)) = false := decide_eq_false (by omega); have HZ := aM hsz; clear hsz; have hemp : (strings_IndexAny.cs).toList.isEmpty = false := by rw [Lib.toList_data]; rfl
  go_enter Tryd.func35, Tryd.ntmps35
  go_wp2_with (go_at_call 56; refine (Any.strings_shouldUseASCIISet { Tryd.lays153 with } _ _).mono ?_; rintro e w' ⟨rfl, hw⟩; rw [hw, h8z])
  go_loopg [9, 10] a0.size (fun g _ _ w' => ∃ i : Nat, Aside0 (a0.size ≤ i + g ∧ i ≤ a0.size) ∧ Aside0 (Below w.heap.size w w') ∧ Aside0 (w'.heap[w.heap.size]? = some (.stringIter a0 i)) ∧ Aside0 (Lib.NoAny a0.data.toList [58, 64] i))
  case atStart => exact ⟨0, ⟨by omega⟩, ⟨below_alloc (Below.refl _ _) _⟩, ⟨World.iter_heap _ _ _⟩, ⟨Lib.NoAny.zero _ _⟩⟩
  case round =>
   obtain ⟨i, hig, HB, HI, HN⟩ := hrel; by_cases hi : i < a0.size
   ·
    obtain ⟨g, rfl⟩ : ∃ g, gk = g + 1 := ⟨gk - 1, by have := hig.out; omega⟩; have hnx := strings_IndexAny.next _ _ i a0 hi HI.out; by_cases hx : (a0[i]'hi).toNat < 128
    ·
     rw [decode_ascii a0 i hi hx] at hnx; have hxl := aM (Lib.data_getElem? a0 i hi); generalize a0[i]'hi = x at hnx hx hxl; have HB2 := aM (strings_IndexAny.below (j := i + 1) (s := a0) HB.out (Nat.le_refl _)); have HI2 := aM (strings_IndexAny.at_ (i + 1) HI.out); have hcon := Lib.contains_iff_indexByte [58, 64] x; have hback : ((x.toNat : Int)).toNat.toUInt8 = x := by simp
     dsimp only at hnx
     cases hin : ([58, 64] : List UInt8).contains x
     ·
      rw [hin] at hcon; have hlt : ¬ ((0 : Int) ≤ Lib.indexByte [58, 64] x) := of_decide_eq_false hcon.symm; clear hcon; have HN2 := aM (HN.out.succ hxl.out hin)
      go_wp2_with (go_at_call 55; refine (Any.strings_IndexRune_ascii { Tryd.lays153 with } _ _ _ (by omega) (by omega)).mono ?_; rintro e w' ⟨he, rfl⟩; rw [hback] at he; obtain rfl : e = .returned (.int .i64 (Lib.indexByte [58, 64] x)) := he)
      go_roundg g
      case measure => omega
      case rel => exact ⟨i + 1, ⟨by have := hig.out; omega⟩, HB2, HI2, HN2⟩
     rw [hin] at hcon; have hge : (0 : Int) ≤ Lib.indexByte [58, 64] x := of_decide_eq_true hcon.symm; clear hcon; have HR := aM (Lib.indexAny_hit HN.out hxl.out hin)
     go_wp2_with (go_at_call 55; refine (Any.strings_IndexRune_ascii { Tryd.lays153 with } _ _ _ (by omega) (by omega)).mono ?_; rintro e w' ⟨he, rfl⟩; rw [hback] at he; obtain rfl : e = .returned (.int .i64 (Lib.indexByte [58, 64] x)) := he)
     go_ret; exact ⟨by rw [HR.out]; rfl, HB2.out⟩
    have hx2 : 128 ≤ (a0[i]'hi).toNat := by omega
    have hd := decode_high a0 i hi hx2; have hs := strings_IndexAny.dec a0 i hi hx2; have HN2 := aM (strings_IndexAny.steps a0 (Utf8.decode a0 i).2 i hs.2 HN.out); replace hs := hs.1; clear hx hx2; generalize Utf8.decode a0 i = d at hnx hd hs HN2; have hd1 : (128 : Int) ≤ (d.1 : Int) := by omega
    have hd2 := aM hd.2; have hs2 := aM hs; clear hd hs; have HB2 := aM (strings_IndexAny.below (j := i + d.2) (s := a0) HB.out (Nat.le_refl _)); have HI2 := aM (strings_IndexAny.at_ (i + d.2) HI.out)
    go_wp2_with (go_at_call 55; refine (strings_IndexAny.rune _ _ hd1).mono ?_; rintro e w' ⟨rfl, hw⟩; have HB3 := aM (below_step HB2.out hw); have HI3 := aM ((hw.block _ (Array.getElem?_eq_some_iff.1 HI2.out).1).trans HI2.out); clear hw)
    go_roundg g
    case measure => omega
    case rel => exact ⟨i + d.2, ⟨by have := hig.out; have := hd2.out; have := hs2.out; omega⟩, HB3, HI3, HN2⟩
   obtain rfl : i = a0.size := by have := hig.out; omega
   have hnx := strings_IndexAny.nextEnd _ _ a0.size a0 (by omega) HI.out; have HR := aM (Lib.indexAny_none (by rw [← Lib.size_eq]; exact HN.out)); go_wp2; go_ret; exact ⟨by rw [HR.out]; rfl, HB.out⟩
 exact absurd h (by simp)

/-! ### stringslite_Index: function 80 (given) -/
def stringslite_Index.f (a0 : ByteArray) (a1 : ByteArray) : Option Int := if a1.size = 1 then some (Lib.indexByte a0.data.toList (a1.data.getD 0 0)) else none
theorem stringslite_Index.calls (a0 : ByteArray) (a1 : ByteArray) (r : Int) (w : World) (h : stringslite_Index.f a0 a1 = some r) :
    Calls Tryd.prog 80 #[.string a0, .string a1] w fun e w' => e = .returned (.int .i64 r) ∧ Drawn0 w w' := by
  unfold stringslite_Index.f at h
  split at h
  case isFalse => exact absurd h (by simp)
  rename_i hg
  injection h with h
  subst h; obtain ⟨c, rfl⟩ := Lib.one_byte a1 hg; refine (Any.stringslite_Index_one Tryd.lays219 a0 c w).mono ?_; rintro e w' ⟨rfl, rfl⟩; exact ⟨rfl, Drawn0.refl _⟩

/-! ### stringslite_Cut: function 59 -/
def stringslite_Cut.f (a0 : ByteArray) (a1 : ByteArray) : Option (ByteArray × ByteArray × Bool) := (stringslite_Index.f a0 a1).bind fun t160 => (if t160 ≥ 0 then (if 0 ≤ t160 then (if t160 ≤ (a0.size : Int) then (if 0 ≤ (wrap64 (t160 + (a1.size : Int))) then (if (wrap64 (t160 + (a1.size : Int))) ≤ (a0.size : Int) then (some (a0.extract 0 (t160 : Int).toNat, a0.extract ((wrap64 (t160 + (a1.size : Int))) : Int).toNat a0.size, true)) else (none)) else (none)) else (none)) else (none)) else (some (a0, (⟨#[]⟩ : ByteArray), false)))
set_option maxHeartbeats 8000000 in
set_option maxRecDepth 100000 in
theorem stringslite_Cut.calls (a0 : ByteArray) (a1 : ByteArray) (r1 : ByteArray) (r2 : ByteArray) (r3 : Bool) (w : World) (h : stringslite_Cut.f a0 a1 = some (r1, r2, r3)) :
  Calls Tryd.prog 59 #[.string a0, .string a1] w fun e w' => e = .returned (.tuple #[.string r1, .string r2, .bool r3]) ∧ Drawn0 w w' := by
 unfold stringslite_Cut.f at h; have H := h; clear h; replace H := Option.bind_eq_some_iff.mp H; obtain ⟨t160, A30, H⟩ := H; (try dsimp only at H); have A3 := aM A30; clear A30; by_cases c4 : t160 ≥ 0
 ·
  rw [if_pos c4] at H; have c4b0 : decide (0 ≤ t160) = true := decide_eq_true c4; clear c4; by_cases c5 : 0 ≤ t160
  ·
   rw [if_pos c5] at H; have c5b0 := eq_true c5; have c5b1 := decide_eq_true c5; clear c5; by_cases c6 : t160 ≤ (a0.size : Int)
   ·
    rw [if_pos c6] at H; have c6b0 := eq_true c6; have c6b1 := decide_eq_true c6; clear c6; obtain ⟨ji7, hji7⟩ : ∃ j_ : Int, (wrap64 (t160 + (a1.size : Int))) = j_ := ⟨_, rfl⟩; replace H : (if 0 ≤ (ji7) then (if (ji7) ≤ (a0.size : Int) then (some (a0.extract 0 (t160 : Int).toNat, a0.extract ((ji7) : Int).toNat a0.size, true)) else (none)) else (none)) = some (r1, r2, r3) := by first | (rw [hji7] at H; exact H) | (simp only [hji7] at H ⊢; exact H)
    (try rw [hji7] at A3); have hji7w : (IntKind.i64.wrap (t160 + (a1.size : Int))) = ji7 := (i64_w _).trans hji7; by_cases c8 : 0 ≤ (ji7)
    ·
     rw [if_pos c8] at H; have c8b0 := eq_true c8; have c8b1 := decide_eq_true c8; clear c8; by_cases c9 : (ji7) ≤ (a0.size : Int)
     ·
      rw [if_pos c9] at H; have c9b0 := eq_true c9; have c9b1 := decide_eq_true c9; clear c9; simp only [Option.some.injEq, Prod.mk.injEq] at H; obtain ⟨rfl, rfl, rfl⟩ := H; go_enter Tryd.func59, Tryd.ntmps59
      go_wp2_with (first | (go_at_call 80; (with_reducible refine (stringslite_Index.calls a0 a1 t160 _ A3.out).mono ?_); rintro e w' ⟨rfl, ⟨nd, rfl⟩⟩; (try first | exact ⟨rfl, _, World.drewN_drewN _ _ _⟩ | exact ⟨rfl, _, Eq.trans (World.drewN_drewN _ _ _) (congrArg (World.drewN _) (Nat.add_assoc _ _ _))⟩)))
      repeat (go_quiet (first | (go_at_call 80; (with_reducible refine (stringslite_Index.calls a0 a1 t160 _ A3.out).mono ?_); rintro e w' ⟨rfl, ⟨nd, rfl⟩⟩; (try first | exact ⟨rfl, _, World.drewN_drewN _ _ _⟩ | exact ⟨rfl, _, Eq.trans (World.drewN_drewN _ _ _) (congrArg (World.drewN _) (Nat.add_assoc _ _ _))⟩))); try go_wp2_with (first | (go_at_call 80; (with_reducible refine (stringslite_Index.calls a0 a1 t160 _ A3.out).mono ?_); rintro e w' ⟨rfl, ⟨nd, rfl⟩⟩; (try first | exact ⟨rfl, _, World.drewN_drewN _ _ _⟩ | exact ⟨rfl, _, Eq.trans (World.drewN_drewN _ _ _) (congrArg (World.drewN _) (Nat.add_assoc _ _ _))⟩))))
      go_ret3
      exact ⟨by first | rfl | (simp; done) | (simp only [← hji7] <;> (first | rfl | simp)) | (simp [*]; done), zq20⟩
     exact zq140
    exact zq125
   exact zq127
  exact zq128
 rw [if_neg c4] at H; have c4b0 : decide (0 ≤ t160) = false := decide_eq_false c4; clear c4; simp only [Option.some.injEq, Prod.mk.injEq] at H; obtain ⟨rfl, rfl, rfl⟩ := H; go_enter Tryd.func59, Tryd.ntmps59
 go_wp2_with (first | (go_at_call 80; (with_reducible refine (stringslite_Index.calls a0 a1 t160 _ A3.out).mono ?_); rintro e w' ⟨rfl, ⟨nd, rfl⟩⟩; (try first | exact ⟨rfl, _, World.drewN_drewN _ _ _⟩ | exact ⟨rfl, _, Eq.trans (World.drewN_drewN _ _ _) (congrArg (World.drewN _) (Nat.add_assoc _ _ _))⟩)))
 repeat (go_quiet (first | (go_at_call 80; (with_reducible refine (stringslite_Index.calls a0 a1 t160 _ A3.out).mono ?_); rintro e w' ⟨rfl, ⟨nd, rfl⟩⟩; (try first | exact ⟨rfl, _, World.drewN_drewN _ _ _⟩ | exact ⟨rfl, _, Eq.trans (World.drewN_drewN _ _ _) (congrArg (World.drewN _) (Nat.add_assoc _ _ _))⟩))); try go_wp2_with (first | (go_at_call 80; (with_reducible refine (stringslite_Index.calls a0 a1 t160 _ A3.out).mono ?_); rintro e w' ⟨rfl, ⟨nd, rfl⟩⟩; (try first | exact ⟨rfl, _, World.drewN_drewN _ _ _⟩ | exact ⟨rfl, _, Eq.trans (World.drewN_drewN _ _ _) (congrArg (World.drewN _) (Nat.add_assoc _ _ _))⟩))))
 go_ret3
 exact ⟨zq6, zq20⟩

/-! ### strings_Cut: function 36 -/
def strings_Cut.f (a0 : ByteArray) (a1 : ByteArray) : Option (ByteArray × ByteArray × Bool) := (stringslite_Cut.f a0 a1).bind fun bt161 => (some (bt161.1, bt161.2.1, bt161.2.2))
set_option maxHeartbeats 8000000 in
set_option maxRecDepth 100000 in
theorem strings_Cut.calls (a0 : ByteArray) (a1 : ByteArray) (r1 : ByteArray) (r2 : ByteArray) (r3 : Bool) (w : World) (h : strings_Cut.f a0 a1 = some (r1, r2, r3)) :
  Calls Tryd.prog 36 #[.string a0, .string a1] w fun e w' => e = .returned (.tuple #[.string r1, .string r2, .bool r3]) ∧ Drawn0 w w' := by
 unfold strings_Cut.f at h; have H := h; clear h; replace H := Option.bind_eq_some_iff.mp H; obtain ⟨⟨t161, t162, t163⟩, A30, H⟩ := H; (try dsimp only at H); have A3 := aM A30; clear A30; simp only [Option.some.injEq, Prod.mk.injEq] at H; obtain ⟨rfl, rfl, rfl⟩ := H; go_enter Tryd.func36, Tryd.ntmps36
 go_wp2_with (first | ((with_reducible refine gC 59 rfl ?_); refine gL 9 Tryd.func59 #[.string a0, .string a1] ?_; (with_reducible refine (stringslite_Cut.calls a0 a1 t161 t162 t163 _ A3.out).mono ?_); rintro e w' ⟨rfl, ⟨nd, rfl⟩⟩; refine ⟨_, rfl, ?_⟩))
 go_ret3
 exact ⟨zq6, zq20⟩

end Go.Proofs.YtldpdaifajjaeaaDoor.QFnRefs
