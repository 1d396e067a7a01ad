/- Written by wip/myprint.py of this repo (the kit's print, with additions of this session). -/
import Derived.Test.YtoeomljkhabifaaDoorQFnExactStepsx0
import Derived.Test.YtoeomljkhabifaaDoorQFnExactStepsx6
import Derived.Test.YtoeomljkhabifaaDoorQFnExactStepsx7
import Derived.Test.YtoeomljkhabifaaDoorQFnExactStepsx9
set_option maxRecDepth 100000
namespace Go.Proofs.YtoeomljkhabifaaDoor.QFnExactSteps
open Go.RowKit Go.Proofs.YtoeomljkhabifaaDoorW.PrintWords Go.Proofs.YtoeomljkhabifaaDoorW.PrintLast Go.Proofs.YtoeomljkhabifaaDoorW.PrintMore
attribute [local go_sem] max2_int min2_int max_two min_two max_three min_three max_four min_four   -- for this text's walks alone
set_option linter.unusedVariables false
set_option linter.unusedSimpArgs false

/-! ### impl_Steps: function 12 (walked by hand) -/

def impl_Steps.T3 (w W : World) (v8 v9 v10 : Value) (x8 x9 x10 : List ByteArray) : Prop :=
 Kd.R Kd.string 9 W w.heap.size (fun k => some k ≠ v9.ownBlock ∧ some k ≠ v10.ownBlock) v8 x8 ∧ Kd.R Kd.string 9 W w.heap.size (fun k => some k ≠ v8.ownBlock ∧ some k ≠ v10.ownBlock) v9 x9 ∧ Kd.R Kd.string 9 W w.heap.size (fun k => some k ≠ v8.ownBlock ∧ some k ≠ v9.ownBlock) v10 x10 ∧ Below w.heap.size w W
section
variable {w W w1 : World} {v8 v9 v10 v1 : Value} {x8 x9 x10 y : List ByteArray}
theorem impl_Steps.T3_below (h : impl_Steps.T3 w W v8 v9 v10 x8 x9 x10) (hb : Below W.heap.size W w1) : impl_Steps.T3 w w1 v8 v9 v10 x8 x9 x10 := ⟨Kd.R_below h.1 hb, Kd.R_below h.2.1 hb, Kd.R_below h.2.2.1 hb, below_step h.2.2.2 hb⟩
theorem impl_Steps.T3_rot (h : impl_Steps.T3 w W v8 v9 v10 x8 x9 x10) : impl_Steps.T3 w W v9 v10 v8 x9 x10 x8 := ⟨Kd.R_mono h.2.1 (fun _ hk => ⟨hk.2, hk.1⟩), Kd.R_mono h.2.2.1 (fun _ hk => ⟨hk.2, hk.1⟩), h.1, h.2.2.2⟩
theorem impl_Steps.T3_wrote (h : impl_Steps.T3 w W v8 v9 v10 x8 x9 x10) (ho : Kd.R Kd.string 9 w1 w.heap.size (fun k => some k ≠ v9.ownBlock ∧ some k ≠ v10.ownBlock) v1 y) (hb : Below w.heap.size w w1) (hg : W.grownBy w1 v8.ownBlock) (hat : v1.ownBlock = v8.ownBlock ∨ ∃ b, v1.ownBlock = some b ∧ W.heap.size ≤ b) : impl_Steps.T3 w w1 v1 v9 v10 y x9 x10 :=
 ⟨ho, Kd.R_mono (Kd.R_after (ok := fun k => some k ≠ v10.ownBlock) (Kd.R_mono h.2.1 (fun _ hk => ⟨hk.2, hk.1⟩)) hg hat) (fun _ hk => ⟨hk.2, hk.1⟩), Kd.R_mono (Kd.R_after (ok := fun k => some k ≠ v9.ownBlock) (Kd.R_mono h.2.2.1 (fun _ hk => ⟨hk.2, hk.1⟩)) hg hat) (fun _ hk => ⟨hk.2, hk.1⟩), hb⟩
theorem impl_Steps.T3_fresh (h : impl_Steps.T3 w W v8 v9 v10 x8 x9 x10) : ∀ k, W.heap.size ≤ k → some k ≠ v9.ownBlock ∧ some k ≠ v10.ownBlock := fun k hk => ⟨Kd.fresh' (Kd.R_lt h.2.1) k hk, Kd.fresh' (Kd.R_lt h.2.2.1) k hk⟩
theorem impl_Steps.R_adv {v : Value} {x : List ByteArray} {base g i j : Nat} {ok : Nat → Prop} (h : Kd.R Kd.string 9 W base ok v x) (hg : W.heap[g]? = some (.stringIter impl_nodeOf.hexs i)) : Kd.R Kd.string 9 (impl_nodeOf.adv W g j) base ok v x :=
 Kd.R_mono (Kd.R_step (Kd.R_bound h) (fun k hk _ => (impl_nodeOf.kept W g j).2 k hk.2.2.1 (fun e => by
  subst e; obtain ⟨_, _, _, _, hc, _⟩ := hk.2.2.2; rw [hg] at hc
  cases hc))) (fun _ hk => hk.1)
theorem impl_Steps.T3_adv {g i j : Nat} (h : impl_Steps.T3 w W v8 v9 v10 x8 x9 x10) (hg : W.heap[g]? = some (.stringIter impl_nodeOf.hexs i)) (hle : w.heap.size ≤ g) : impl_Steps.T3 w (impl_nodeOf.adv W g j) v8 v9 v10 x8 x9 x10 :=
 ⟨impl_Steps.R_adv h.1 hg, impl_Steps.R_adv h.2.1 hg, impl_Steps.R_adv h.2.2.1 hg, impl_nodeOf.below h.2.2.2 hle⟩
theorem impl_Steps.iter_far {g i : Nat} (hg : W.heap[g]? = some (.stringIter impl_nodeOf.hexs i)) (h : impl_Steps.T3 w W v8 v9 v10 x8 x9 x10) (hgr : W.grownBy w1 v8.ownBlock) : w1.heap[g]? = some (.stringIter impl_nodeOf.hexs i) := by
 refine (hgr.block g (Array.getElem?_eq_some_iff.1 hg).1 (fun e => ?_)).trans hg; obtain ⟨_, _, _, _, _, _, hc⟩ := (Kd.R_bound h.1).1 g e.symm; obtain ⟨_, hc, _⟩ := hc; rw [hg] at hc; cases hc
theorem impl_Steps.T3_made {W0 w2 w3 : World} (HB : Below w.heap.size w W0) (ho1 : Kd.R Kd.string 9 w1 W0.heap.size (fun _ => True) v8 x8) (hb1 : Below W0.heap.size W0 w1) (ho2 : Kd.R Kd.string 9 w2 w1.heap.size (fun _ => True) v9 x9) (hb2 : Below w1.heap.size w1 w2) (ho3 : Kd.R Kd.string 9 w3 w2.heap.size (fun _ => True) v10 x10) (hb3 : Below w2.heap.size w2 w3) : impl_Steps.T3 w w3 v8 v9 v10 x8 x9 x10 := by
 have s1 := HB.size; have s2 := hb1.size; have s3 := hb2.size; have o1 := Kd.R_elder' ho1 (Kd.R_base ho2) hb2; have o2 := Kd.R_new' ho2 (Kd.R_lt ho1); refine ⟨Kd.R_mono (Kd.R_lower (Kd.R_elder' o1 (Kd.R_base ho3) hb3) s1) (fun _ hk => ⟨hk.1.2, hk.2⟩), Kd.R_mono (Kd.R_lower (Kd.R_elder' o2 (Kd.R_base ho3) hb3) (by omega)) (fun _ hk => ⟨hk.1.2, hk.2⟩), Kd.R_mono (Kd.R_lower (Kd.R_new' (Kd.R_new' ho3 (Kd.R_lt o1)) (Kd.R_lt o2)) (by omega)) (fun _ hk => ⟨hk.1.2, hk.2⟩), below_step (below_step (below_step HB hb1) hb2) hb3⟩
theorem impl_Steps.R_new3 {W0 : World} {base : Nat} {v : Value} {x : List ByteArray} (h : Kd.R Kd.string 9 W base (fun _ => True) v x) (hb : W0.heap.size ≤ base) : Kd.R Kd.string 9 W base (fun k => W0.heap.size ≤ k) v x := Kd.R_mono (Kd.R_bound h) (fun _ hk => Nat.le_trans hb hk.2.1)
end
/-- The rounds over the sixteen digits. -/
def impl_Steps.lp (p : ByteArray) : Nat → Nat → List ByteArray → Option (List ByteArray)
 | 0, _, acc => some acc
 | d + 1, i, acc => if p.size + (Utf8.encode (impl_nodeOf.hexC i)).size ≤ 9223372036854775807 then (if acc.length < 8796093022208 then impl_Steps.lp p d (i + 1) (acc ++ [p ++ Utf8.encode (impl_nodeOf.hexC i)]) else none) else none
def impl_Steps.l0 : Nat → List ByteArray → List ByteArray → List ByteArray → List ByteArray → List ByteArray → Int → Option (List ByteArray × List ByteArray × List ByteArray × Bool)
 | 0, _, _, _, _, _, _ => none
 | k + 1, l0, l1, x8, x9, x10, x11 => if x11 < (x8.length : Int) then (if 0 ≤ x11 then ((impl_nodeOf.f k l0 (rdOf ByteArray.empty x8 x11)).bind fun n0 => ((impl_nodeOf.f k l1 (rdOf ByteArray.empty x8 x11)).bind fun n1 => (if n0.toList = n1.toList then (impl_Steps.l0 k l0 l1 x8 x9 x10 (wrap64 (x11 + 1))) else (if ((rdOf ByteArray.empty x8 x11).size : Int) < 2 then ((impl_Steps.lp (rdOf ByteArray.empty x8 x11) 16 0 x8).bind fun y => impl_Steps.l0 k l0 l1 y x9 x10 (wrap64 (x11 + 1))) else ((impl_under.f k l0 (rdOf ByteArray.empty x8 x11)).bind fun one => ((impl_under.f k l1 (rdOf ByteArray.empty x8 x11)).bind fun two => ((impl_missing.f one two).bind fun m1 => (if x9.length + m1.length < 8796093022208 then ((impl_missing.f two one).bind fun m2 => (if x10.length + m2.length < 8796093022208 then impl_Steps.l0 k l0 l1 x8 (x9 ++ m1) (x10 ++ m2) (wrap64 (x11 + 1)) else none)) else none)))))))) else none) else some (x8, x9, x10, true)
def impl_Steps.f (k : Nat) (l0 : List ByteArray) (l1 : List ByteArray) : Option (List ByteArray × List ByteArray × List ByteArray × Bool) := (impl_isSet.f k l0).bind fun b0 => if b0 = true then ((impl_isSet.f k l1).bind fun b1 => if b1 = true then impl_Steps.l0 k l0 l1 [(⟨#[]⟩ : ByteArray)] [] [] 0 else some ([], [], [], false)) else some ([], [], [], false)
theorem impl_Steps.mono_l : ∀ k, ∀ l0 l1 x8 x9 x10 x11, LeO (impl_Steps.l0 k l0 l1 x8 x9 x10 x11) (impl_Steps.l0 (k + 1) l0 l1 x8 x9 x10 x11)
 | 0 => fun _ _ _ _ _ _ r h => by simp [impl_Steps.l0] at h
 | k + 1 => fun l0 l1 x8 x9 x10 x11 => by
  have ih := impl_Steps.mono_l k; rw [impl_Steps.l0.eq_2, impl_Steps.l0.eq_2]; exact LeO.ite (LeO.ite (LeO.bind (impl_nodeOf.mono _ _ _) (fun n0 => LeO.bind (impl_nodeOf.mono _ _ _) (fun n1 => LeO.ite (ih _ _ _ _ _ _) (LeO.ite (LeO.bind (LeO.refl _) (fun y => ih _ _ _ _ _ _)) (LeO.bind (impl_under.mono _ _ _) (fun one => LeO.bind (impl_under.mono _ _ _) (fun two => LeO.bind (LeO.refl _) (fun m1 => LeO.ite (LeO.bind (LeO.refl _) (fun m2 => LeO.ite (ih _ _ _ _ _ _) (LeO.refl _))) (LeO.refl _))))))))) (LeO.refl _)) (LeO.refl _)
theorem impl_Steps.mono : ∀ a0 a1 k, LeO (impl_Steps.f k a0 a1) (impl_Steps.f (k + 1) a0 a1) := fun a0 a1 k => by
 unfold impl_Steps.f; exact LeO.bind (impl_isSet.mono _ _) (fun b0 => LeO.ite (LeO.bind (impl_isSet.mono _ _) (fun b1 => LeO.ite (impl_Steps.mono_l k _ _ _ _ _ _) (LeO.refl _))) (LeO.refl _))
set_option maxHeartbeats 8000000 in
set_option maxRecDepth 100000 in
theorem impl_Steps.calls (k : Nat) (A0 : Option Addr) (c0 : Nat) (l0 : List ByteArray) (A1 : Option Addr) (c1 : Nat) (l1 : List ByteArray) (r1 : List ByteArray) (r2 : List ByteArray) (r3 : List ByteArray) (r4 : Bool) (w : World) (hr0 : Kd.C Kd.string w A0 l0.length l0) (hc0 : l0.length ≤ c0) (hr1 : Kd.C Kd.string w A1 l1.length l1) (hc1 : l1.length ≤ c1) (h : impl_Steps.f k l0 l1 = some (r1, r2, r3, r4)) :
  Calls Tryd.prog 12 #[.slice A0 l0.length c0, .slice A1 l1.length c1] w fun e w' => ∃ v0_ v1_ v2_ : Value, e = .returned (.tuple #[v0_, v1_, v2_, .bool r4]) ∧ Kd.R Kd.string 9 w' w.heap.size (fun k_ => some k_ ≠ (v1_ : Value).ownBlock ∧ some k_ ≠ (v2_ : Value).ownBlock) v0_ r1 ∧ Kd.R Kd.string 9 w' w.heap.size (fun k_ => some k_ ≠ (v0_ : Value).ownBlock ∧ some k_ ≠ (v2_ : Value).ownBlock) v1_ r2 ∧ Kd.R Kd.string 9 w' w.heap.size (fun k_ => some k_ ≠ (v0_ : Value).ownBlock ∧ some k_ ≠ (v1_ : Value).ownBlock) v2_ r3 ∧ Below w.heap.size w w' := by
 have HR0 := aM hr0; have HC0 := aM hc0; have HR1 := aM hr1; have HC1 := aM hc1; clear hr0 hr1 hc0 hc1; unfold impl_Steps.f at h; obtain ⟨b0, hb0, h⟩ := Option.bind_eq_some_iff.mp h; have B0 := aM hb0; clear hb0
 cases b0 with
 | false =>
  simp only [Bool.false_eq_true, if_false, Option.some.injEq, Prod.mk.injEq] at h; obtain ⟨rfl, rfl, rfl, rfl⟩ := h; go_enter Tryd.func12, Tryd.ntmps12
  go_wp2_with (fail)
  refine (impl_isSet.calls k A0 c0 l0 false _ HR0.out HC0.out B0.out).mono ?_; rintro e w2 ⟨rfl, hb⟩; have HB := aM hb; clear hb
  try dsimp only
  go_wp2; refine bodyPost_ret (results_list (rs := [.tmp 4, .tmp 5, .tmp 6, .tmp 7]) rfl (by simp) (.tmp (.tmp (.tmp (.tmp .nil))))) rfl ?_; exact ⟨_, _, _, rfl, Kd.R_nil _ _ _ _ _, Kd.R_nil _ _ _ _ _, Kd.R_nil _ _ _ _ _, HB.out⟩
 | true =>
  rw [if_pos rfl] at h; obtain ⟨b1, hb1, h⟩ := Option.bind_eq_some_iff.mp h; have B1 := aM hb1; clear hb1
  cases b1 with
  | false =>
   simp only [Bool.false_eq_true, if_false, Option.some.injEq, Prod.mk.injEq] at h; obtain ⟨rfl, rfl, rfl, rfl⟩ := h; go_enter Tryd.func12, Tryd.ntmps12
   go_wp2_with (fail)
   refine (impl_isSet.calls k A0 c0 l0 true _ HR0.out HC0.out B0.out).mono ?_; rintro e w2 ⟨rfl, hb⟩; have HB := aM hb; clear hb
   try dsimp only
   go_wp2_with (fail)
   refine (impl_isSet.calls k A1 c1 l1 false _ (Kd.C_below HR1.out HB.out) HC1.out B1.out).mono ?_; rintro e w3 ⟨rfl, hb⟩; replace HB := aM (below_step HB.out hb); clear hb
   try dsimp only
   go_wp2; refine bodyPost_ret (results_list (rs := [.tmp 4, .tmp 5, .tmp 6, .tmp 7]) rfl (by simp) (.tmp (.tmp (.tmp (.tmp .nil))))) rfl ?_; exact ⟨_, _, _, rfl, Kd.R_nil _ _ _ _ _, Kd.R_nil _ _ _ _ _, Kd.R_nil _ _ _ _ _, HB.out⟩
  | true =>
   rw [if_pos rfl] at h; have H0 := aM h; clear h; go_enter Tryd.func12, Tryd.ntmps12
   go_wp2_with (fail)
   refine (impl_isSet.calls k A0 c0 l0 true _ HR0.out HC0.out B0.out).mono ?_; rintro e w2 ⟨rfl, hb⟩; have HB := aM hb; clear hb
   try dsimp only
   go_wp2_with (fail)
   refine (impl_isSet.calls k A1 c1 l1 true _ (Kd.C_below HR1.out HB.out) HC1.out B1.out).mono ?_; rintro e w3 ⟨rfl, hb⟩; replace HB := aM (below_step HB.out hb); clear hb
   try dsimp only
   go_wp2_with (first | ((with_reducible refine gD 25 rfl ?_); refine Kd.R_lit Kd.string _ 9 ?hg (N := 25) ?hd (xs := ([(⟨#[]⟩ : ByteArray)] : List ByteArray)) (inner := [.string (⟨#[]⟩ : ByteArray)]) (ok := fun _ => True) (okp := fun _ => True) ?hr ?hp (fun _ hk => hk) trivial (Below.refl _ _) (Nat.le_refl _) (by simp) ?_; (case hd => rfl); (case hg => rfl); (case hr => exact zq6); (case hp => exact (Reps.one (show Kd.M Kd.string _ _ _ (⟨#[]⟩ : ByteArray) [.string (⟨#[]⟩ : ByteArray)] from rfl) (Reps.none _ _))); intro v1 w4 ho hb hg_ hnew_; have O1 := aM ho; have D1 := aM hb; clear ho hb hg_ hnew_) | ((with_reducible refine gD 26 rfl ?_); refine Kd.R_lit Kd.string _ 9 ?hg (N := 26) ?hd (xs := ([] : List ByteArray)) (inner := []) (ok := fun _ => True) (okp := fun _ => True) ?hr ?hp (fun _ hk => hk) trivial (Below.refl _ _) (Nat.le_refl _) (by simp) ?_; (case hd => rfl); (case hg => rfl); (case hr => exact zq6); (case hp => exact zq10); intro v2 w5 ho hb hg_ hnew_; have O2 := aM ho; have D2 := aM hb; clear ho hb hg_ hnew_) | ((with_reducible refine gD 27 rfl ?_); refine Kd.R_lit Kd.string _ 9 ?hg (N := 27) ?hd (xs := ([] : List ByteArray)) (inner := []) (ok := fun _ => True) (okp := fun _ => True) ?hr ?hp (fun _ hk => hk) trivial (Below.refl _ _) (Nat.le_refl _) (by simp) ?_; (case hd => rfl); (case hg => rfl); (case hr => exact zq6); (case hp => exact zq10); intro v3 w6 ho hb hg_ hnew_; have O3 := aM ho; have D3 := aM hb; clear ho hb hg_ hnew_))
   have HT := aM (impl_Steps.T3_made HB.out O1.out D1.out O2.out D2.out O3.out D3.out); clear O1 D1 O2 D2 O3 D3
   go_loopg [8, 9, 10, 11] k (fun kq v8 v9 v10 v11 w' => ∃ (x8 : List ByteArray) (x9 : List ByteArray) (x10 : List ByteArray) (x11 : Int), v11 = .int .i64 x11 ∧ Aside0 (impl_Steps.l0 kq l0 l1 x8 x9 x10 x11 = some (r1, r2, r3, r4)) ∧ Aside0 (impl_Steps.T3 w w' v8 v9 v10 x8 x9 x10))
   case atStart => exact ⟨_, _, _, 0, rfl, H0, HT⟩
   case round =>
    clear H0; obtain ⟨x8, x9, x10, x11, rfl, HA, HT⟩ := hrel
    cases gk with
    | zero => exact absurd HA.out (by simp [impl_Steps.l0])
    | succ k1 =>
     have H := HA.out; clear HA; rw [impl_Steps.l0.eq_2] at H; obtain ⟨Ao, co, rfl⟩ := Kd.R_slice HT.out.1; by_cases c1 : x11 < (x8.length : Int)
     ·
      rw [if_pos c1] at H; by_cases c2 : 0 ≤ x11
      ·
       rw [if_pos c2] at H; obtain ⟨p, hp⟩ : ∃ p, p = rdOf ByteArray.empty x8 x11 := ⟨_, rfl⟩; rw [← hp] at H; obtain ⟨n0, hn0, H⟩ := Option.bind_eq_some_iff.mp H; obtain ⟨n1, hn1, H⟩ := Option.bind_eq_some_iff.mp H; have N0 := aM hn0; have N1 := aM hn1; have b1 := decide_eq_true c1; obtain ⟨ad, e1, hx⟩ := Kd.at_string (Kd.R_reads' HT.out.1).2.2 x11 c2 c1; cases e1; rw [← hp] at hx; have p1 := eq_true c1; have p2 := eq_true c2; have HH := aM H; clear c1 c2 hn0 hn1 hp H
       go_wp2_with (fail)
       refine (impl_nodeOf.calls k1 A0 c0 l0 p n0 _ (Kd.C_below HR0.out HT.out.2.2.2) HC0.out N0.out).mono ?_; rintro e w4 ⟨rfl, hb⟩; replace HT := aM (impl_Steps.T3_below HT.out hb); clear hb hx
       try dsimp only
       go_wp2_with (fail)
       refine (impl_nodeOf.calls k1 A1 c1 l1 p n1 _ (Kd.C_below HR1.out HT.out.2.2.2) HC1.out N1.out).mono ?_; rintro e w5 ⟨rfl, hb⟩; replace HT := aM (impl_Steps.T3_below HT.out hb); clear hb
       try dsimp only
       have H := HH.out; clear HH; by_cases c3 : n0.toList = n1.toList
       ·
        rw [if_pos c3] at H; have d1 : (n0.toList == n1.toList) = true := beq_iff_eq.2 c3; have H' := aM H; clear H c3; go_wp2
        go_roundg k1
        case measure => omega
        case rel => exact ⟨x8, x9, x10, wrap64 (x11 + 1), rfl, H', HT⟩
       rw [if_neg c3] at H; have d1 : (n0.toList == n1.toList) = false := beq_eq_false_iff_ne.2 c3; clear c3; by_cases c4 : (p.size : Int) < 2
       ·
        rw [if_pos c4] at H; obtain ⟨y, hy, H⟩ := Option.bind_eq_some_iff.mp H; have HY := aM hy; have H' := aM H; have d2 := decide_eq_true c4; have d3 : decide (p.size < 2) = true := decide_eq_true (by omega); have HG := aM HT.out.2.2.2.size; clear H hy c4; go_wp2
        go_loopg [8] 16 (fun kq v8 w' => ∃ (i : Nat) (acc : List ByteArray), Aside0 (i + kq = 16) ∧ Aside0 (impl_Steps.lp p kq i acc = some y) ∧ Aside0 (impl_Steps.T3 w w' v8 u9 u10 acc x9 x10) ∧ Aside0 (w'.heap[w5.heap.size]? = some (.stringIter impl_nodeOf.hexs i)))
        case atStart => exact ⟨0, x8, ⟨rfl⟩, HY, ⟨impl_Steps.T3_below HT.out (below_alloc (Below.refl _ _) _)⟩, ⟨World.iter_heap _ _ _⟩⟩
        case round =>
         obtain ⟨i, acc, hi, HL, HT2, HI⟩ := hrel
         cases gk with
         | zero =>
          have e16 : i = 16 := by have := hi.out; omega
          subst e16; have hnx := impl_nodeOf.nextEnd _ _ HI.out; have e1 := HL.out; unfold impl_Steps.lp at e1
          injection e1 with e1
          subst e1; go_wp2
          go_roundg k1
          case measure => omega
          case rel => exact ⟨acc, x9, x10, wrap64 (x11 + 1), rfl, H', HT2⟩
         | succ j1 =>
          have hnx := impl_nodeOf.next _ _ i zq11 HI.out; have E := HL.out; unfold impl_Steps.lp at E; clear HL; generalize impl_nodeOf.hexC i = ch at hnx E
          split at E
          case isFalse => cases E
          rename_i g1
          split at E
          case isFalse => cases E
          rename_i g2
          have HE := aM E; have LM := aM g2; have HT3 := aM (impl_Steps.T3_adv (j := i + 1) HT2.out HI.out HG.out); have HI2 := aM (impl_nodeOf.at_ (i + 1) HI.out); clear E g2
          go_wp2_with (first | ((with_reducible refine gate_builtin (b := .append) (xs := #[.tmp 52, .tmp 57]) rfl ?_); at_builtin; refine Kd.R_append Kd.string (w0 := w) w.heap.size rfl (.tmp 52) (.tmp 57) 22 9 (.string ⟨#[]⟩) 16 rfl Tryd.underlying22 info9 rfl (by decide) (by omega) u8 acc (p ++ Utf8.encode ch) [.string (p ++ Utf8.encode ch)] (fun k_ => some k_ ≠ (u9 : Value).ownBlock ∧ some k_ ≠ (u10 : Value).ownBlock) (fun _ => False) rfl rfl ?aP (fun _ hk => hk.elim) ?aF ?aO ?aB ?aS ?aL ?_; (case aP => exact rfl); (case aB => exact HT3.out.2.2.2); (case aF => exact impl_Steps.T3_fresh HT3.out); (case aO => exact HT3.out.1); (case aS => exact HT3.out.2.2.2.size); (case aL => have := LM.out; omega); intro v259 w12 ho hb hg hat; have HT4 := aM (impl_Steps.T3_wrote HT3.out ho hb hg hat); have HI3 := aM (impl_Steps.iter_far HI2.out HT3.out hg); clear ho hb hg hat))
          go_roundg j1
          case measure => omega
          case rel => exact ⟨i + 1, _, ⟨zq11⟩, HE, HT4, HI3⟩
       rw [if_neg c4] at H; obtain ⟨one, h1, H⟩ := Option.bind_eq_some_iff.mp H; obtain ⟨two, h2, H⟩ := Option.bind_eq_some_iff.mp H; obtain ⟨m1, h3, H⟩ := Option.bind_eq_some_iff.mp H
       have g1 : x9.length + m1.length < 8796093022208 := by
        rcases Nat.lt_or_ge (x9.length + m1.length) 8796093022208 with h | h
        ·
         exact h
        rw [if_neg (by omega)] at H; cases H
       rw [if_pos g1] at H; obtain ⟨m2, h4, H⟩ := Option.bind_eq_some_iff.mp H
       have g2 : x10.length + m2.length < 8796093022208 := by
        rcases Nat.lt_or_ge (x10.length + m2.length) 8796093022208 with h | h
        ·
         exact h
        rw [if_neg (by omega)] at H; cases H
       rw [if_pos g2] at H; have E1 := aM h1; have E2 := aM h2; have E3 := aM h3; have E4 := aM h4; have LM1 := aM g1; have LM2 := aM g2; have H' := aM H; have d2 := decide_eq_false c4; have d3 : decide (p.size < 2) = false := decide_eq_false (by omega); have HT0 := HT; clear H h1 h2 h3 h4 g1 g2 c4
       go_wp2_with (fail)
       refine (impl_under.calls k1 A0 c0 l0 p one _ (Kd.C_below HR0.out HT.out.2.2.2) HC0.out E1.out).mono ?_; rintro e w6 ⟨v6, rfl, ho, hb⟩; obtain ⟨A6, c6, rfl⟩ := Kd.R_slice ho; have O6 := aM (impl_Steps.R_new3 (W0 := w5) ho (Nat.le_refl _)); have S6 := aM hb.size; replace HT := aM (impl_Steps.T3_below HT.out hb); clear ho hb
       try dsimp only
       go_wp2_with (fail)
       refine (impl_under.calls k1 A1 c1 l1 p two _ (Kd.C_below HR1.out HT.out.2.2.2) HC1.out E2.out).mono ?_; rintro e w7 ⟨v7, rfl, ho, hb⟩; obtain ⟨A7, c7, rfl⟩ := Kd.R_slice ho; have O7 := aM (impl_Steps.R_new3 (W0 := w5) ho S6.out); replace O6 := aM (Kd.R_below O6.out hb); replace HT := aM (impl_Steps.T3_below HT.out hb); clear ho hb
       try dsimp only
       go_wp2_with (fail)
       refine (impl_missing.calls A6 c6 one A7 c7 two m1 _ (Kd.R_reads' O6.out).2.2 (Kd.R_reads' O6.out).2.1 (Kd.R_reads' O7.out).2.2 (Kd.R_reads' O7.out).2.1 E3.out).mono ?_; rintro e w8 ⟨v8, rfl, ho, hb⟩; obtain ⟨A8, c8, rfl⟩ := Kd.R_slice ho; have O8 := aM ho; replace O6 := aM (Kd.R_below O6.out hb); replace O7 := aM (Kd.R_below O7.out hb); replace HT := aM (impl_Steps.T3_below HT.out hb); clear ho hb
       try dsimp only
       go_wp2_with (first | ((with_reducible refine gate_builtin (b := .append) (xs := #[.tmp 65, .tmp 68]) rfl ?_); at_builtin; refine Kd.R_append_rows Kd.string (w0 := w) w.heap.size rfl (.tmp 65) (.tmp 68) 22 9 (.string ⟨#[]⟩) 16 rfl Tryd.underlying22 info9 rfl (by decide) (by omega) u9 x9 m1 _ _ _ (fun k_ => some k_ ≠ (u10 : Value).ownBlock ∧ some k_ ≠ (.slice (some ad) x8.length co : Value).ownBlock) (fun _ => False) rfl rfl ?aO ?aR (fun _ _ h => h) (fun _ h => h.elim) ?aF ?aB ?aS ?aL ?_; (case aR => exact (Kd.R_reads' O8.out).2.2); (case aB => exact HT.out.2.2.2); (case aF => exact impl_Steps.T3_fresh (impl_Steps.T3_rot HT.out)); (case aO => exact (impl_Steps.T3_rot HT.out).1); (case aS => exact HT.out.2.2.2.size); (case aL => have := LM1.out; omega); intro v283 w9 ho hb hg hat; have HT1 := aM (impl_Steps.T3_rot (impl_Steps.T3_rot (impl_Steps.T3_wrote (impl_Steps.T3_rot HT.out) ho hb hg hat))); have Q6 := aM (Kd.R_step O6.out (fun k hk hl => hg.block k hl (impl_Steps.T3_fresh HT0.out k hk).1)); have Q7 := aM (Kd.R_step O7.out (fun k hk hl => hg.block k hl (impl_Steps.T3_fresh HT0.out k hk).1)); clear ho hb hg hat) | fail)
       refine (impl_missing.calls A7 c7 two A6 c6 one m2 _ (Kd.R_reads' Q7.out).2.2 (Kd.R_reads' Q7.out).2.1 (Kd.R_reads' Q6.out).2.2 (Kd.R_reads' Q6.out).2.1 E4.out).mono ?_; rintro e w10 ⟨v10, rfl, ho, hb⟩; obtain ⟨A10, c10, rfl⟩ := Kd.R_slice ho; have O10 := aM ho; have HT2 := aM (impl_Steps.T3_below HT1.out hb); clear ho hb
       try dsimp only
       go_wp2_with (first | ((with_reducible refine gate_builtin (b := .append) (xs := #[.tmp 70, .tmp 73]) rfl ?_); at_builtin; refine Kd.R_append_rows Kd.string (w0 := w) w.heap.size rfl (.tmp 70) (.tmp 73) 22 9 (.string ⟨#[]⟩) 16 rfl Tryd.underlying22 info9 rfl (by decide) (by omega) u10 x10 m2 _ _ _ (fun k_ => some k_ ≠ (.slice (some ad) x8.length co : Value).ownBlock ∧ some k_ ≠ (v283 : Value).ownBlock) (fun _ => False) rfl rfl ?aO ?aR (fun _ _ h => h) (fun _ h => h.elim) ?aF ?aB ?aS ?aL ?_; (case aR => exact (Kd.R_reads' O10.out).2.2); (case aB => exact HT2.out.2.2.2); (case aF => exact impl_Steps.T3_fresh (impl_Steps.T3_rot (impl_Steps.T3_rot HT2.out))); (case aO => exact (impl_Steps.T3_rot (impl_Steps.T3_rot HT2.out)).1); (case aS => exact HT2.out.2.2.2.size); (case aL => have := LM2.out; omega); intro v284 w11 ho hb hg hat; have HT3 := aM (impl_Steps.T3_rot (impl_Steps.T3_wrote (impl_Steps.T3_rot (impl_Steps.T3_rot HT2.out)) ho hb hg hat)); clear ho hb hg hat) | fail)
       go_roundg k1
       case measure => omega
       case rel => exact ⟨x8, _, _, wrap64 (x11 + 1), rfl, H', HT3⟩
      rw [if_neg c2] at H; exact absurd H (by simp)
     rw [if_neg c1] at H; have b1 := decide_eq_false c1; simp only [Option.some.injEq, Prod.mk.injEq] at H; obtain ⟨rfl, rfl, rfl, rfl⟩ := H; clear c1; go_wp2; refine bodyPost_ret (results_list (rs := [.tmp 4, .tmp 5, .tmp 6, .tmp 7]) rfl (by simp) (.tmp (.tmp (.tmp (.tmp .nil))))) rfl ?_; exact ⟨_, _, _, rfl, HT.out.1, HT.out.2.1, HT.out.2.2.1, HT.out.2.2.2⟩

/-! ### laws_markText: function 31 -/
def laws_markText.l0 : Nat → Int → ByteArray → Option (ByteArray)
 | 0, _, _ => none
 | k + 1, x0, x3 => if x0 > 0 then ((some (([(wrap64 (48 + (Int.tmod x0 10))) % 256] : List Int) : List Int)).bind fun y333 => (if (strOfNums y333).size + x3.size ≤ 9223372036854775807 then (laws_markText.l0 k (wrap64 (Int.tdiv x0 10)) ((strOfNums y333) ++ x3)) else (none))) else (if 1 + x3.size ≤ 9223372036854775807 then (some ((⟨#[109]⟩ : ByteArray) ++ x3)) else (none))
def laws_markText.f (k : Nat) (a0 : Int) : Option (ByteArray) := if a0 ≤ 0 then (some (⟨#[109, 48]⟩ : ByteArray)) else (laws_markText.l0 k a0 (⟨#[]⟩ : ByteArray))
theorem laws_markText.mono_l : ∀ k, (∀ y0 y1, LeO (laws_markText.l0 k y0 y1) (laws_markText.l0 (k + 1) y0 y1))
 | 0 => fun _ _ r h => by simp [laws_markText.l0] at h
 | k + 1 => by
  have ih0 := laws_markText.mono_l k
  ·
   intro y0 y1; unfold laws_markText.l0
   repeat' first
   | (with_reducible apply ih0)
   | (with_reducible exact LeO.refl _)
   | (with_reducible exact LeO.none _)
   | (with_reducible refine LeO.ite ?_ ?_)
   | (with_reducible refine LeO.bind ?_ (fun _ => ?_))
   | exact LeO.none _
   | refine LeO.ite ?_ ?_
   | refine LeO.bind ?_ (fun _ => ?_)
theorem laws_markText.mono : ∀ a0 k, LeO (laws_markText.f k a0) (laws_markText.f (k + 1) a0) := by
 intro a0 k; have ih0 := laws_markText.mono_l k; unfold laws_markText.f
 repeat' first
   | (with_reducible apply ih0)
   | (with_reducible exact LeO.refl _)
   | (with_reducible exact LeO.none _)
   | (with_reducible refine LeO.ite ?_ ?_)
   | (with_reducible refine LeO.bind ?_ (fun _ => ?_))
   | exact LeO.none _
   | refine LeO.ite ?_ ?_
   | refine LeO.bind ?_ (fun _ => ?_)
set_option maxHeartbeats 8000000 in
set_option maxRecDepth 100000 in
theorem laws_markText.calls (k : Nat) (a0 : Int) (r : ByteArray) (w : World) (h : laws_markText.f k a0 = some r) :
  Calls Tryd.prog 31 #[.int .i64 a0] w fun e w' => e = .returned (.string r) ∧ Below w.heap.size w w' := by
 have HB := aM (Below.refl w.heap.size w); unfold laws_markText.f at h; have H := h; clear h; by_cases c2 : a0 ≤ 0
 ·
  rw [if_pos c2] at H; have c2b0 := decide_eq_true c2; clear c2; obtain rfl := Option.some.inj H; go_enter Tryd.func31, Tryd.ntmps31; go_wp2; go_ret; exact ⟨zq8, zq5⟩
 rw [if_neg c2] at H; have c2b0 := decide_eq_false c2; clear c2; have H' := aM H; clear H; go_enter Tryd.func31, Tryd.ntmps31; go_wp2
 go_loopg [0, 3] k (fun kq v0 v3 w' => ∃ (x0_1 : Int) (x3_1 : ByteArray), v0 = .int .i64 x0_1 ∧ v3 = .string x3_1 ∧ Aside0 (laws_markText.l0 kq x0_1 x3_1 = some r) ∧ Aside0 (kq ≤ k) ∧ Aside0 (Below w.heap.size w w'))
 case atStart => exact ⟨(a0), ((⟨#[]⟩ : ByteArray)), zq1, zq1, H', ⟨Nat.le_refl _⟩, ⟨zq5⟩⟩
 case round =>
  clear H'; (try clear c2); (try clear c2b0); (try clear p2); obtain ⟨x0_1, x3_1, rfl, rfl, HA, HK1, HB⟩ := hrel
  cases gk with
  | zero => exact absurd HA.out (by simp [laws_markText.l0])
  | succ k1 =>
   have H := HA.out; clear HA; simp only [laws_markText.l0] at H; by_cases c3 : x0_1 > 0
   ·
    rw [if_pos c3] at H; have c3b0 : decide (0 < x0_1) = true := decide_eq_true c3; clear c3; obtain ⟨y333, hy333⟩ : ∃ y_ : List Int, y_ = (([(wrap64 (48 + (Int.tmod x0_1 10))) % 256] : List Int)) := ⟨_, rfl⟩; have hy_ := hy333; replace H : (if (strOfNums y333).size + x3_1.size ≤ 9223372036854775807 then (laws_markText.l0 k1 (wrap64 (Int.tdiv x0_1 10)) ((strOfNums y333) ++ x3_1)) else (none)) = some r := hyE; clear hy_; have Ny333 := aM hy333; clear hy333; by_cases c4 : (strOfNums y333).size + x3_1.size ≤ 9223372036854775807
    ·
     rw [if_pos c4] at H; have c4b0 := eq_true c4; have c4b1 := decide_eq_true c4
     try have c4b2 : (9223372036854775807 < (strOfNums y333).size + x3_1.size) = False := eq_false (Nat.not_lt.2 c4)
     have H' := aM H; clear H
     go_wp2_with (first | ((with_reducible refine gD 12 rfl ?_); refine Kd.R_lit (Kd.int .u8) _ 5 ?hg (N := 12) ?hd (xs := ([(wrap64 (48 + (Int.tmod x0_1 10))) % 256] : List Int)) (inner := [.int .u8 ((wrap64 (48 + (Int.tmod x0_1 10))) % 256)]) (ok := fun _ => True) (okp := fun _ => True) ?hr ?hp (fun _ hk => hk) trivial (Below.refl _ _) (Nat.le_refl _) (by simp) ?_; (case hd => rfl); (case hg => rfl); (case hr => exact zq6); (case hp => exact (Reps.one (show Kd.M (Kd.int .u8) _ _ _ ((wrap64 (48 + (Int.tmod x0_1 10))) % 256) [.int .u8 ((wrap64 (48 + (Int.tmod x0_1 10))) % 256)] from rfl) (Reps.none _ _))); intro v334 w5 ho6 hb hg_ hnew_; clear hg_ hnew_; (first | rw [← Ny333.out] at ho6 | (simp only [Int.reduceToNat] at ho6; rw [← Ny333.out] at ho6)); have HO335 := aM (Kd.R_lower ho6 (below_size zq5)); replace HB := sB zq5 hb; clear hb ho6; have hcv7 := own_string (P := Tryd.prog) Tryd.underlying31 Tryd.underlying5 Tryd.underlying9 (Kd.own_of_R HO335.out)))
     go_roundg k1
     case measure => have := HK1.out; omega
     case rel => exact ⟨(wrap64 (Int.tdiv x0_1 10)), ((strOfNums y333) ++ x3_1), zq1, zq1, H', ⟨zq4⟩, ⟨zq5⟩⟩
    exact zq166
   rw [if_neg c3] at H; have c3b0 : decide (0 < x0_1) = false := decide_eq_false c3; clear c3; by_cases c8 : 1 + x3_1.size ≤ 9223372036854775807
   ·
    rw [if_pos c8] at H; have c8b0 := eq_true c8; have c8b1 := decide_eq_true c8
    try have c8b2 : (9223372036854775807 < 1 + x3_1.size) = False := eq_false (Nat.not_lt.2 c8)
    obtain rfl := Option.some.inj H; go_wp2; go_ret; exact ⟨zq8, zq5⟩
   exact zq162

/-! ### laws_markStringS: function 13 -/
def laws_markStringS.l0 : Nat → List ByteArray → Int → Int → Option (Int × List ByteArray)
 | 0, _, _, _ => none
 | k + 1, x0, x1, x5 => if x5 < (x0.length : Int) then ((laws_markText.f k x1).bind fun t336 => (if 0 ≤ x5 then (laws_markStringS.l0 k (x0.set (x5 : Int).toNat t336) (wrap64 (x1 + 1)) (wrap64 (x5 + 1))) else (none))) else (some (x1, x0))
def laws_markStringS.f (k : Nat) (l0 : List ByteArray) (a1 : Int) : Option (Int × List ByteArray) := laws_markStringS.l0 k l0 a1 0
theorem laws_markStringS.mono_l : ∀ k, (∀ y0 y1 y2, LeO (laws_markStringS.l0 k y0 y1 y2) (laws_markStringS.l0 (k + 1) y0 y1 y2))
 | 0 => fun _ _ _ r h => by simp [laws_markStringS.l0] at h
 | k + 1 => by
  have ih0 := laws_markStringS.mono_l k
  ·
   intro y0 y1 y2; unfold laws_markStringS.l0
   repeat' first
   | (with_reducible apply ih0)
   | (with_reducible apply laws_markText.mono)
   | (with_reducible exact LeO.refl _)
   | (with_reducible exact LeO.none _)
   | (with_reducible refine LeO.ite ?_ ?_)
   | (with_reducible refine LeO.bind ?_ (fun _ => ?_))
   | exact LeO.none _
   | refine LeO.ite ?_ ?_
   | refine LeO.bind ?_ (fun _ => ?_)
theorem laws_markStringS.mono : ∀ a0 a1 k, LeO (laws_markStringS.f k a0 a1) (laws_markStringS.f (k + 1) a0 a1) := by
 intro a0 a1 k; have ih0 := laws_markStringS.mono_l k; unfold laws_markStringS.f
 repeat' first
   | (with_reducible apply ih0)
   | (with_reducible apply laws_markText.mono)
   | (with_reducible exact LeO.refl _)
   | (with_reducible exact LeO.none _)
   | (with_reducible refine LeO.ite ?_ ?_)
   | (with_reducible refine LeO.bind ?_ (fun _ => ?_))
   | exact LeO.none _
   | refine LeO.ite ?_ ?_
   | refine LeO.bind ?_ (fun _ => ?_)
set_option maxHeartbeats 8000000 in
set_option maxRecDepth 100000 in
theorem laws_markStringS.calls (k : Nat) (P0_ : Nat → Prop) (u9000_ : Value) (l0 : List ByteArray) (a1 : Int) (r1 : Int) (r2 : List ByteArray) (w0 w : World) (hB : Below w0.heap.size w0 w) (ho0 : Kd.R Kd.string 9 w w0.heap.size P0_ u9000_ l0) (h : laws_markStringS.f k l0 a1 = some (r1, r2)) :
  Calls Tryd.prog 13 #[u9000_, .int .i64 a1] w fun e w' => e = .returned (.int .i64 r1) ∧ Kd.R Kd.string 9 w' w0.heap.size (fun k_ => (P0_ k_ ∨ w.heap.size ≤ k_)) u9000_ r2 ∧ Below w0.heap.size w0 w' ∧ Kept w w' (fun k_ => P0_ k_) := by
 have HO0 := aM (show Kd.R Kd.string 9 w w0.heap.size (fun k_ => (P0_ k_ ∨ w.heap.size ≤ k_)) u9000_ l0 from Kd.R_mono ho0 (fun k_ hk => (.inl hk))); have HK := aM (Kept.refl w (fun k_ => P0_ k_)); have HW0 := aM hB.size; have HB := aM hB; clear hB; unfold laws_markStringS.f at h; have H := h; clear h; have H' := aM H; clear H; go_enter Tryd.func13, Tryd.ntmps13; go_wp2
 go_loopg [1, 5] k (fun kq v1 v5 w' => ∃ (x0_1 : List ByteArray) (x1_1 : Int) (x5_1 : Int), v1 = .int .i64 x1_1 ∧ v5 = .int .i64 x5_1 ∧ Aside0 (laws_markStringS.l0 kq x0_1 x1_1 x5_1 = some (r1, r2)) ∧ Aside0 (kq ≤ k) ∧ Aside0 (Kd.R Kd.string 9 w' w0.heap.size (fun k_ => (P0_ k_ ∨ w.heap.size ≤ k_)) u9000_ x0_1) ∧ Aside0 (Kept w w' (fun k_ => P0_ k_)) ∧ Aside0 (Below w0.heap.size w0 w'))
 case atStart => exact ⟨(l0), (a1), (0), zq1, zq1, H', ⟨Nat.le_refl _⟩, ⟨by refine dR ?_; exact HO0.out⟩, ⟨zq12⟩, ⟨zq5⟩⟩
 case round =>
  clear H'; (try clear c1); (try clear p2); obtain ⟨x0_1, x1_1, x5_1, rfl, rfl, HA, HK1, HO_0, HK, HB⟩ := hrel
  cases gk with
  | zero => exact absurd HA.out (by simp [laws_markStringS.l0])
  | succ k1 =>
   have H := HA.out; clear HA; simp only [laws_markStringS.l0] at H; by_cases c3 : x5_1 < (x0_1.length : Int)
   ·
    rw [if_pos c3] at H; have c3b0 := decide_eq_true c3; clear c3; replace H := Option.bind_eq_some_iff.mp H; obtain ⟨t336, A40, H⟩ := H; (try dsimp only at H); have A4 := aM A40; clear A40; by_cases c5 : 0 ≤ x5_1
    ·
     rw [if_pos c5] at H; have c5b0 := decide_eq_true c5; clear c5; obtain ⟨y337, hy337⟩ : ∃ y_ : List ByteArray, y_ = (x0_1.set (x5_1 : Int).toNat t336) := ⟨_, rfl⟩; have hy_ := hy337; replace H : (laws_markStringS.l0 k1 y337 (wrap64 (x1_1 + 1)) (wrap64 (x5_1 + 1))) = some (r1, r2) := hyE; clear hy_; have Ny337 := aM hy337; clear hy337; have H' := aM H; clear H; obtain ⟨Ao7, co7, eo7⟩ := Kd.R_slice HO_0.out; subst eo7
     go_wp2_with (first | ((with_reducible refine gC 31 rfl ?_); refine gL 15 Tryd.func31 #[.int .i64 x1_1] ?_; (with_reducible refine (laws_markText.calls k1 x1_1 t336 _ A4.out).mono ?_); rintro e w8 ⟨rfl, hb⟩; refine ⟨_, rfl, ?_⟩; replace HO_0 := rG HO_0 hb; replace HK := aM (Kept.below (S := (fun k_ => P0_ k_)) zq12 hb); replace HB := sB zq5 hb; clear hb; have p6 : 0 ≤ (x5_1 : Int) := of_decide_eq_true zq3; have q6 : (x5_1 : Int) < ((x0_1.length : Int) : Int) := of_decide_eq_true zq3; obtain ⟨go6, co6, eo6, gb6, gl6, cl6, HG6⟩ := Kd.R_form HO_0.out (by omega); (first | cases eo6 | (injection eo6 with ea_ en_ ec_; (first | subst ea_ | (injection ea_ with ea_; subst ea_)); subst ec_; clear en_)); have GB6 := aM gb6; have GG6 := aM HG6; clear gb6 gl6 HG6; have HMgo6 := aM (show (P0_ go6 ∨ w.heap.size ≤ go6) from (HO_0.out.1 _ rfl)); obtain ⟨hx6_0, hf6_0⟩ := Kd.R_celln (⟨#[]⟩ : ByteArray) HO_0.out (x5_1 : Int) p6 q6; replace p6 := eq_true p6; replace q6 := eq_true q6; obtain ⟨hy9_, hz9_⟩ := Kd.R_celln (⟨#[]⟩ : ByteArray) HO_0.out (x5_1 : Int) (of_decide_eq_true zq3) (of_decide_eq_true zq3); have HP9 := Kd.R_putg HO_0.out (x5_1 : Int) t336) | ((with_reducible refine gate_store (t := 9) (p := 16) rfl ?_); refine store_event (t := 9) (p := 16) (v := ?vo_w10) (w1 := (w8.setCell ⟨go6, (x5_1 : Int).toNat, none⟩ (.string t336))) ?hg ?ho ?hn ?hr ?_; (case ho => rfl); (case hg => rfl); (case hn => rfl); (case hr => exact zq6); intro w10 hw; have hg : w8.grownBy w10 (some go6) := (by rw [hw]; exact HP9.2); have hp_ : Kd.R Kd.string 9 w10 w0.heap.size (fun k_ => (P0_ k_ ∨ w.heap.size ≤ k_)) (.slice (some ⟨go6, 0, none⟩) x0_1.length co7) y337 := (by rw [hw, Ny337.out]; exact HP9.1); clear HP9; replace HB := aM (by rw [hw]; exact below_set (HB.out) GB6.out : Below w0.heap.size w0 w10); replace HK := aM (Kept.of_grown (S := (fun k_ => P0_ k_)) hg zq12 (fun k_ e_ => (HO_0.out.1 k_ e_))); replace HO_0 := aM hp_; clear hg hw hp_))
     go_roundg k1
     case measure => have := HK1.out; omega
     case rel => exact ⟨(y337), (wrap64 (x1_1 + 1)), (wrap64 (x5_1 + 1)), zq1, zq1, H', ⟨zq4⟩, ⟨zq13⟩, ⟨zq12⟩, ⟨zq5⟩⟩
    exact zq161
   rw [if_neg c3] at H; have c3b0 := decide_eq_false c3; clear c3; simp only [Option.some.injEq, Prod.mk.injEq] at H; obtain ⟨rfl, rfl⟩ := H; obtain ⟨Ao11, co11, eo11⟩ := Kd.R_slice HO_0.out; subst eo11; go_wp2; go_ret; exact ⟨zq8, zq13, zq5, zq12⟩

/-! ### laws_heldStringS: function 14 -/
def laws_heldStringS.l0 : Nat → List ByteArray → Int → Int → Option (Int)
 | 0, _, _, _ => none
 | k + 1, x0, x1, x5 => if x5 < (x0.length : Int) then (if 0 ≤ x5 then ((laws_markText.f k x1).bind fun t339 => (if (rdOf ByteArray.empty x0 x5).toList = t339.toList then (laws_heldStringS.l0 k x0 (wrap64 (x1 + 1)) (wrap64 (x5 + 1))) else (some (-1)))) else (none)) else (some x1)
def laws_heldStringS.f (k : Nat) (l0 : List ByteArray) (a1 : Int) : Option (Int) := laws_heldStringS.l0 k l0 a1 0
theorem laws_heldStringS.mono_l : ∀ k, (∀ y0 y1 y2, LeO (laws_heldStringS.l0 k y0 y1 y2) (laws_heldStringS.l0 (k + 1) y0 y1 y2))
 | 0 => fun _ _ _ r h => by simp [laws_heldStringS.l0] at h
 | k + 1 => by
  have ih0 := laws_heldStringS.mono_l k
  ·
   intro y0 y1 y2; unfold laws_heldStringS.l0
   repeat' first
   | (with_reducible apply ih0)
   | (with_reducible apply laws_markText.mono)
   | (with_reducible exact LeO.refl _)
   | (with_reducible exact LeO.none _)
   | (with_reducible refine LeO.ite ?_ ?_)
   | (with_reducible refine LeO.bind ?_ (fun _ => ?_))
   | exact LeO.none _
   | refine LeO.ite ?_ ?_
   | refine LeO.bind ?_ (fun _ => ?_)
theorem laws_heldStringS.mono : ∀ a0 a1 k, LeO (laws_heldStringS.f k a0 a1) (laws_heldStringS.f (k + 1) a0 a1) := by
 intro a0 a1 k; have ih0 := laws_heldStringS.mono_l k; unfold laws_heldStringS.f
 repeat' first
   | (with_reducible apply ih0)
   | (with_reducible apply laws_markText.mono)
   | (with_reducible exact LeO.refl _)
   | (with_reducible exact LeO.none _)
   | (with_reducible refine LeO.ite ?_ ?_)
   | (with_reducible refine LeO.bind ?_ (fun _ => ?_))
   | exact LeO.none _
   | refine LeO.ite ?_ ?_
   | refine LeO.bind ?_ (fun _ => ?_)
set_option maxHeartbeats 8000000 in
set_option maxRecDepth 100000 in
theorem laws_heldStringS.calls (k : Nat) (A0 : Option Addr) (c0 : Nat) (l0 : List ByteArray) (a1 : Int) (r : Int) (w : World) (hr0 : Kd.C Kd.string w A0 l0.length l0) (hc0 : l0.length ≤ c0) (h : laws_heldStringS.f k l0 a1 = some r) :
  Calls Tryd.prog 14 #[.slice A0 l0.length c0, .int .i64 a1] w fun e w' => e = .returned (.int .i64 r) ∧ Below w.heap.size w w' := by
 have HR0 := aM hr0; have HC0 := aM hc0; clear hr0 hc0; have HB := aM (Below.refl w.heap.size w); have H : (laws_heldStringS.l0 k l0 a1 0) = some r := h; clear h; have H' := aM H; clear H; go_enter Tryd.func14, Tryd.ntmps14; go_wp2
 go_loopg [1, 5] k (fun kq v1 v5 w' => ∃ (x1_1 : Int) (x5_1 : Int), v1 = .int .i64 x1_1 ∧ v5 = .int .i64 x5_1 ∧ Aside0 (laws_heldStringS.l0 kq l0 x1_1 x5_1 = some r) ∧ Aside0 (kq ≤ k) ∧ Aside0 (Below w.heap.size w w'))
 case atStart => exact ⟨(a1), (0), zq1, zq1, H', ⟨Nat.le_refl _⟩, ⟨zq5⟩⟩
 case round =>
  clear H'; (try clear c1); (try clear p2); obtain ⟨x1_1, x5_1, rfl, rfl, HA, HK1, HB⟩ := hrel
  cases gk with
  | zero => exact absurd HA.out (by simp [laws_heldStringS.l0])
  | succ k1 =>
   have H := HA.out; clear HA; simp only [laws_heldStringS.l0] at H; by_cases c3 : x5_1 < (l0.length : Int)
   ·
    rw [if_pos c3] at H; have c3b0 := decide_eq_true c3; clear c3; by_cases c4 : 0 ≤ x5_1
    ·
     rw [if_pos c4] at H; have c4b0 := decide_eq_true c4; clear c4; replace H := Option.bind_eq_some_iff.mp H; obtain ⟨t339, A50, H⟩ := H; (try dsimp only at H); have A5 := aM A50; clear A50; by_cases c6 : (rdOf ByteArray.empty l0 x5_1).toList = t339.toList
     ·
      rw [if_pos c6] at H; have c6b0 : ((rdOf ByteArray.empty l0 x5_1).toList == t339.toList) = true := beq_iff_eq.mpr c6; have c6b1 : ((rdOf ByteArray.empty l0 x5_1).toList != t339.toList) = false := bne_eq_false_iff_eq.mpr c6; clear c6; have H' := aM H; clear H
      try go_wp2
      replace HB := aM (below_drew1 HB.out); have p338 : 0 ≤ (x5_1 : Int) := of_decide_eq_true zq3; have q338 : x5_1 < (l0.length : Int) := of_decide_eq_true zq3; obtain ⟨ad338, e338, hx338_0⟩ := Kd.at_string HR0.out x5_1 p338 q338; have hw338_0 := hx338_0; cases e338; replace hx338_0 := hxB HB hx338_0; replace p338 := eq_true p338; replace q338 := eq_true q338; refine start_ (n := 7) (S := fun w' => w'.cell? (ad338.add (x5_1).toNat) = some (.string (rdOf ByteArray.empty l0 x5_1))) (ds := []) #[false, false, false, false, false, false, false] (by kernel_rfl) rfl rfl ((hxB HB hw338_0 : _)) (fun hHeld => ?_); generalize wr.drew = w7 at HB hx338_0 hHeld ⊢; refine pure_ (i := 0) (N := some 12) (v := ?_) (a' := ?_) #[true, false, false, false, false, false, false] rfl rfl (by kernel_rfl) (fun _ _ _ h => h) (Or.inl ⟨by rfl, ?_⟩) ?_ ?_; rotate_left; exact zq167; rotate_left; exact zq168; refine pure_ (i := 1) (N := some 13) (v := ?_) (a' := ?_) #[true, true, false, false, false, false, false] rfl rfl (by kernel_rfl) (fun _ _ _ h => h) (Or.inl ⟨by rfl, ?_⟩) ?_ ?_; rotate_left; exact zq167; rotate_left; exact zq168; refine pure_ (i := 2) (N := some 14) (v := ?_) (a' := ?_) #[true, true, true, false, false, false, false] rfl rfl (by kernel_rfl) (fun _ _ _ h => h) (Or.inl ⟨by rfl, ?_⟩) ?_ ?_; rotate_left; exact zq167; rotate_left; exact zq168
      refine pure_ (i := 4) (N := some 16) (v := ?_) (a' := ?_) #[true, true, true, false, true, false, false] rfl rfl (by kernel_rfl) (fun _ _ _ h => h) (Or.inl ⟨by rfl, ?_⟩) ?_ ?_; rotate_left; exact zq167; rotate_left; exact zq168; refine take_ (i := 3) (N := some 15) (v := ?_) (a' := ?_) #[true, true, true, true, true, false, false] rfl rfl (by kernel_rfl) (fun _ _ _ h => h) (Or.inl ⟨by rfl, ?_⟩) hHeld ?_ ?_; rotate_left
      ·
       intro w' s0
       go_simp
       with_reducible rfl
      rotate_left; exact zq168; refine one_ (i := 5) (N := some 17) #[true, true, true, true, true, true, false] rfl rfl (by kernel_rfl) (by decide) (fun K hK => ?_); refine goes_ Tryd.func31 (by kernel_rfl) rfl #[.int .i64 x1_1] (by rfl) rfl rfl zq9 ?_
      with_reducible refine (laws_markText.calls k1 x1_1 t339 _ A5.out).mono ?_
      rintro e w8 ⟨rfl, hb⟩; refine ⟨_, rfl, ?_⟩; replace HB := sB zq5 hb; (try clear hb); (try clear hb2); (try clear hk); (try clear hi); refine hK.out _ _ ((hxB HB hw338_0 : _)) (fun hHeld => ?_); clear hK K; refine norm_ (a' := ?_) ?_ ?_; rotate_left
      ·
       show Act.put _ (some 17) _ = _
       simp only [Act.put, List.setIfInBounds_toArray, List.set_cons_zero, List.set_cons_succ, i64_w, i32_w]
       rfl
      refine pure_ (i := 6) (N := some 18) (v := ?_) (a' := ?_) #[true, true, true, true, true, true, true] rfl rfl (by kernel_rfl) (fun _ _ _ h => h) (Or.inl ⟨by rfl, ?_⟩) ?_ ?_; rotate_left; exact zq167; rotate_left; exact zq168; refine done_ (by kernel_rfl) ?_
      try go_wp2
      go_roundg k1
      case measure => have := HK1.out; omega
      case rel => exact ⟨(wrap64 (x1_1 + 1)), (wrap64 (x5_1 + 1)), zq1, zq1, H', ⟨zq4⟩, ⟨zq5⟩⟩
     rw [if_neg c6] at H; have c6b0 : ((rdOf ByteArray.empty l0 x5_1).toList == t339.toList) = false := beq_eq_false_iff_ne.mpr c6; have c6b1 : ((rdOf ByteArray.empty l0 x5_1).toList != t339.toList) = true := bne_iff_ne.mpr c6; obtain rfl := Option.some.inj H
     try go_wp2
     replace HB := aM (below_drew1 HB.out); have p338 : 0 ≤ (x5_1 : Int) := of_decide_eq_true zq3; have q338 : x5_1 < (l0.length : Int) := of_decide_eq_true zq3; obtain ⟨ad338, e338, hx338_0⟩ := Kd.at_string HR0.out x5_1 p338 q338; have hw338_0 := hx338_0; cases e338; replace hx338_0 := hxB HB hx338_0; replace p338 := eq_true p338; replace q338 := eq_true q338; refine start_ (n := 7) (S := fun w' => w'.cell? (ad338.add (x5_1).toNat) = some (.string (rdOf ByteArray.empty l0 x5_1))) (ds := []) #[false, false, false, false, false, false, false] (by kernel_rfl) rfl rfl ((hxB HB hw338_0 : _)) (fun hHeld => ?_); generalize wr.drew = w9 at HB hx338_0 hHeld ⊢; refine pure_ (i := 0) (N := some 12) (v := ?_) (a' := ?_) #[true, false, false, false, false, false, false] rfl rfl (by kernel_rfl) (fun _ _ _ h => h) (Or.inl ⟨by rfl, ?_⟩) ?_ ?_; rotate_left; exact zq167; rotate_left; exact zq168; refine pure_ (i := 1) (N := some 13) (v := ?_) (a' := ?_) #[true, true, false, false, false, false, false] rfl rfl (by kernel_rfl) (fun _ _ _ h => h) (Or.inl ⟨by rfl, ?_⟩) ?_ ?_; rotate_left; exact zq167; rotate_left; exact zq168; refine pure_ (i := 2) (N := some 14) (v := ?_) (a' := ?_) #[true, true, true, false, false, false, false] rfl rfl (by kernel_rfl) (fun _ _ _ h => h) (Or.inl ⟨by rfl, ?_⟩) ?_ ?_; rotate_left; exact zq167; rotate_left; exact zq168
     refine pure_ (i := 4) (N := some 16) (v := ?_) (a' := ?_) #[true, true, true, false, true, false, false] rfl rfl (by kernel_rfl) (fun _ _ _ h => h) (Or.inl ⟨by rfl, ?_⟩) ?_ ?_; rotate_left; exact zq167; rotate_left; exact zq168; refine take_ (i := 3) (N := some 15) (v := ?_) (a' := ?_) #[true, true, true, true, true, false, false] rfl rfl (by kernel_rfl) (fun _ _ _ h => h) (Or.inl ⟨by rfl, ?_⟩) hHeld ?_ ?_; rotate_left
     ·
      intro w' s0
      go_simp
      with_reducible rfl
     rotate_left; exact zq168; refine one_ (i := 5) (N := some 17) #[true, true, true, true, true, true, false] rfl rfl (by kernel_rfl) (by decide) (fun K hK => ?_); refine goes_ Tryd.func31 (by kernel_rfl) rfl #[.int .i64 x1_1] (by rfl) rfl rfl zq9 ?_
     with_reducible refine (laws_markText.calls k1 x1_1 t339 _ A5.out).mono ?_
     rintro e w10 ⟨rfl, hb⟩; refine ⟨_, rfl, ?_⟩; replace HB := sB zq5 hb; (try clear hb); (try clear hb2); (try clear hk); (try clear hi); refine hK.out _ _ ((hxB HB hw338_0 : _)) (fun hHeld => ?_); clear hK K; refine norm_ (a' := ?_) ?_ ?_; rotate_left
     ·
      show Act.put _ (some 17) _ = _
      simp only [Act.put, List.setIfInBounds_toArray, List.set_cons_zero, List.set_cons_succ, i64_w, i32_w]
      rfl
     refine pure_ (i := 6) (N := some 18) (v := ?_) (a' := ?_) #[true, true, true, true, true, true, true] rfl rfl (by kernel_rfl) (fun _ _ _ h => h) (Or.inl ⟨by rfl, ?_⟩) ?_ ?_; rotate_left; exact zq167; rotate_left; exact zq168; refine done_ (by kernel_rfl) ?_
     try go_wp2
     go_ret; exact ⟨zq8, zq5⟩
    exact zq166
   rw [if_neg c3] at H; have c3b0 := decide_eq_false c3; clear c3; obtain rfl := Option.some.inj H; go_wp2; go_ret; exact ⟨zq8, zq5⟩

end Go.Proofs.YtoeomljkhabifaaDoor.QFnExactSteps
