/- Written by wip/myprint.py of this repo (the kit's print, with additions of this session). -/
import Derived.Test.YtjcejdajbapliaaQFnBitFoundx0
import Derived.Test.YtjcejdajbapliaaQFnBitFoundx2
set_option maxRecDepth 100000
namespace Go.Proofs.Ytjcejdajbapliaa.QFnBitFound
open Go.RowKit Go.Proofs.YtjcejdajbapliaaW.PrintWords Go.Proofs.YtjcejdajbapliaaW.PrintLast Go.Proofs.YtjcejdajbapliaaW.PrintMore
attribute [local go_sem] max2_int min2_int max_two min_two max_three min_three max_four min_four   -- for this text's walks alone
set_option linter.unusedVariables false
set_option linter.unusedSimpArgs false

/-! ### impl_readFrames: function 58 -/
mutual
def impl_readFrames.l0 : Nat → ByteArray → List (S31) → Int → Option ((List (S31)) × Int × Int)
 | 0, _, _, _ => none
 | k + 1, x0, x5, x6 => if 0 ≤ x6 then (if x6 ≤ (x0.size : Int) then (if ((x0.extract (x6 : Int).toNat x0.size).size : Int) ≤ 140737488351232 then ((some (bytesOf (x0.extract (x6 : Int).toNat x0.size) : List Int)).bind fun y110 => (if (y110.length : Int) = 0 then (some (x5, x6, 0)) else (if (x5.length : Int) = 2000 then (some (x5, x6, 5)) else (if 0 < (y110.length : Int) then (if (rd y110 0) < 1 then (impl_readFrames.j1 k x0 x5 x6 y110 true) else (impl_readFrames.j1 k x0 x5 x6 y110 (decide ((rd y110 0) > 100)))) else (none))))) else (none)) else (none)) else (none)
def impl_readFrames.j1 : Nat → ByteArray → List (S31) → Int → List Int → Bool → Option ((List (S31)) × Int × Int)
 | 0, _, _, _, _, _ => none
 | k + 1, x0, x5, x6, x7, x28 => if x28 = true then (some (x5, x6, 2)) else (if (x7.length : Int) < 5 then (some (x5, x6, 1)) else (if 1 ≤ (x7.length : Int) then ((binary_littleEndian_Uint32.f (x7.drop 1)).bind fun t119 => (if t119 > 20000 then (some (x5, x6, 3)) else (if (x7.length : Int) < (wrap64 ((wrap64 (5 + (wrap64 (t119)))) + 4)) then (some (x5, x6, 1)) else (if 0 ≤ (wrap64 (5 + (wrap64 (t119)))) then (if (wrap64 (5 + (wrap64 (t119)))) ≤ (x7.length : Int) then ((some (x7.take ((wrap64 (5 + (wrap64 (t119)))) : Int).toNat : List Int)).bind fun y120 => ((binary_littleEndian_Uint32.f (x7.drop ((wrap64 (5 + (wrap64 (t119)))) : Int).toNat)).bind fun t128 => ((impl_crc.f k (strOfNums y120)).bind fun t129 => (if t128 = t129 then (if 0 < (x7.length : Int) then (if 5 ≤ ((strOfNums y120).size : Int) then (if x5.length < 5864062014805 then (impl_readFrames.l0 k x0 (x5 ++ [(⟨wrap64 (rd x7 0), (strOfNums y120).extract 5 (strOfNums y120).size⟩ : S31)]) (wrap64 (x6 + (wrap64 ((wrap64 (5 + (wrap64 (t119)))) + 4))))) else (none)) else (none)) else (none)) else (some (x5, x6, 4)))))) else (none)) else (none))))) else (none)))
end
def impl_readFrames.f (k : Nat) (a0 : ByteArray) : Option ((List (S31)) × Int × Int) := impl_readFrames.l0 k a0 (([] : List (S31))) 0
theorem impl_readFrames.mono_l : ∀ k, (∀ y0 y1 y2, LeO (impl_readFrames.l0 k y0 y1 y2) (impl_readFrames.l0 (k + 1) y0 y1 y2)) ∧ (∀ y0 y1 y2 y3 y4, LeO (impl_readFrames.j1 k y0 y1 y2 y3 y4) (impl_readFrames.j1 (k + 1) y0 y1 y2 y3 y4))
 | 0 => ⟨fun _ _ _ r h => by simp [impl_readFrames.l0] at h, fun _ _ _ _ _ r h => by simp [impl_readFrames.j1] at h⟩
 | k + 1 => by
  obtain ⟨ih0, ih1⟩ := impl_readFrames.mono_l k
  refine ⟨?_, ?_⟩
  ·
   intro y0 y1 y2
   unfold impl_readFrames.l0
   repeat' first
   | (with_reducible exact ih0 _ _ _)
   | (with_reducible exact ih1 _ _ _ _ _)
   | (with_reducible exact impl_crc.mono _ _)
   | (with_reducible exact LeO.refl _)
   | (with_reducible exact LeO.none _)
   | (with_reducible refine LeO.ite ?_ ?_)
   | (with_reducible refine LeO.bind ?_ (fun _ => ?_))
   | exact ih0 _ _ _
   | exact ih1 _ _ _ _ _
   | exact impl_crc.mono _ _
   | exact LeO.none _
   | refine LeO.ite ?_ ?_
   | refine LeO.bind ?_ (fun _ => ?_)
  ·
   intro y0 y1 y2 y3 y4
   unfold impl_readFrames.j1
   repeat' first
   | (with_reducible exact ih0 _ _ _)
   | (with_reducible exact ih1 _ _ _ _ _)
   | (with_reducible exact impl_crc.mono _ _)
   | (with_reducible exact LeO.refl _)
   | (with_reducible exact LeO.none _)
   | (with_reducible refine LeO.ite ?_ ?_)
   | (with_reducible refine LeO.bind ?_ (fun _ => ?_))
   | exact ih0 _ _ _
   | exact ih1 _ _ _ _ _
   | exact impl_crc.mono _ _
   | exact LeO.none _
   | refine LeO.ite ?_ ?_
   | refine LeO.bind ?_ (fun _ => ?_)
theorem impl_readFrames.mono : ∀ a0 k, LeO (impl_readFrames.f k a0) (impl_readFrames.f (k + 1) a0) := by
 intro a0 k
 obtain ⟨ih0, ih1⟩ := impl_readFrames.mono_l k
 unfold impl_readFrames.f
 repeat' first
   | (with_reducible exact ih0 _ _ _)
   | (with_reducible exact ih1 _ _ _ _ _)
   | (with_reducible exact impl_crc.mono _ _)
   | (with_reducible exact LeO.refl _)
   | (with_reducible exact LeO.none _)
   | (with_reducible refine LeO.ite ?_ ?_)
   | (with_reducible refine LeO.bind ?_ (fun _ => ?_))
   | exact ih0 _ _ _
   | exact ih1 _ _ _ _ _
   | exact impl_crc.mono _ _
   | exact LeO.none _
   | refine LeO.ite ?_ ?_
   | refine LeO.bind ?_ (fun _ => ?_)
def impl_readFrames.T19 : Bool × List (List Nat × List Nat) := (true, [([], []), ([], []), ([], []), ([1, 2], [1, 2]), ([0, 3], [0, 3]), ([], []), ([5, 4], [5]), ([4, 6], [4, 6])])
def impl_readFrames.B19 : List Nat := [0, 0, 0, 6, 15, 0, 63, 127]
theorem impl_readFrames.tab19 : rtab .any (opsOf Try.f58 19) = impl_readFrames.T19 := by kernel_rfl
theorem impl_readFrames.bits19 : waitsOk impl_readFrames.T19.2 impl_readFrames.B19 = true := by kernel_rfl
def impl_readFrames.T21 : Bool × List (List Nat × List Nat) := (true, [([], []), ([], []), ([1], [1]), ([2], [2]), ([3], [3]), ([], []), ([5], [5]), ([4, 6], [4, 6]), ([7], [7]), ([0, 8], [0, 8]), ([9, 9, 0, 1, 2, 3, 4, 5, 6, 7, 8, 9], [0, 9])])
def impl_readFrames.B21 : List Nat := [0, 0, 2, 6, 14, 0, 32, 126, 254, 511, 1023]
theorem impl_readFrames.tab21 : rtab .any (opsOf Try.f58 21) = impl_readFrames.T21 := by kernel_rfl
theorem impl_readFrames.bits21 : waitsOk impl_readFrames.T21.2 impl_readFrames.B21 = true := by kernel_rfl
set_option maxHeartbeats 8000000 in
set_option maxRecDepth 100000 in
theorem impl_readFrames.calls (k : Nat) (a0 : ByteArray) (r1 : List (S31)) (r2 : Int) (r3 : Int) (w : World) (h : impl_readFrames.f k a0 = some (r1, r2, r3)) :
  Calls Try.prog 58 #[.string a0] w fun e w' => ∃ v0_ : Value, e = .returned (.tuple #[v0_, .int .i64 r2, .int .i64 r3]) ∧ Kd.R k31 31 w' w.heap.size (fun _ => True) v0_ r1 ∧ Below w.heap.size w w' := by
 have hu107 := Try.underlying107
 have hu31 := Try.underlying31
 have HB := Aside0.mk (Below.refl w.heap.size w)
 have H : (impl_readFrames.l0 k a0 (([] : List (S31))) 0) = some (r1, r2, r3) := h
 clear h
 obtain ⟨y107, hy107⟩ : ∃ y_ : List (S31), y_ = (([] : List (S31))) := ⟨_, rfl⟩
 replace H : (impl_readFrames.l0 k a0 y107 0) = some (r1, r2, r3) := by first | (rw [hy107]; with_reducible exact H) | (have H2_ := (Option.bind_some _ _).symm.trans H; rw [hy107]; with_reducible exact H2_) | (have H2_ := (Option.bind_some _ _).symm.trans H; with_reducible exact H2_) | with_reducible exact H | (rw [hy107]; exact H) | exact H
 have Ny107 := Aside0.mk hy107
 clear hy107
 have H' := Aside0.mk H
 clear H
 go_enter Try.func58, Try.ntmps58
 go_wp2_with (first | ((with_reducible refine gate_dst (N := 11) rfl ?_); refine Kd.R_lit k31 _ 31 ?hg (N := 11) ?hd (xs := ([] : List (S31))) (inner := []) (ok := fun _ => True) (okp := fun _ => True) ?hr ?hp (fun _ hk => hk) trivial (Below.refl _ _) (Nat.le_refl _) (by simp) ?_; (case hd => rfl); (case hg => rfl); (case hr => first | (go_simp; done) | (go_simp; rfl)); (case hp => exact (Reps.none _ _)); intro v108 w2 ho3 hb hg_ hnew_; clear hg_ hnew_; (first | rw [← Ny107.out] at ho3 | (simp only [Int.reduceToNat] at ho3; rw [← Ny107.out] at ho3)); have n0_ := Aside0.mk (Kd.R_lower ho3 (below_size (by repeat (first | (with_reducible first | exact HB.out | apply below_alloc | apply pw_below_drewN | apply below_drew1) | exact HB.out)))); have n1_ := Aside0.mk (below_step (by repeat (first | (with_reducible first | exact HB.out | apply below_alloc | apply pw_below_drewN | apply below_drew1) | exact HB.out)) hb); clear HB; have HO109 := n0_; have HB := n1_; clear n0_ n1_; clear hb ho3))
 go_loopg [5, 6] k (fun kq v5 v6 w' => ∃ (x5_1 : List (S31)) (x6_1 : Int), v6 = .int .i64 x6_1 ∧ Aside0 (impl_readFrames.l0 kq a0 x5_1 x6_1 = some (r1, r2, r3)) ∧ Aside0 (kq ≤ k) ∧ Aside0 (Kd.R k31 31 w' w.heap.size (fun _ => True) v5 x5_1) ∧ Aside0 (Below w.heap.size w w'))
 case atStart => exact ⟨(y107), (0), (by first | rfl | (simp; done) | (simp [*]; done)), H', ⟨Nat.le_refl _⟩, ⟨by (with_reducible repeat (first | apply Kd.R_alloc | apply Kd.R_drewN | apply Kd.R_drew)); exact HO109.out⟩, ⟨by repeat (first | (with_reducible first | exact HB.out | apply below_alloc | apply pw_below_drewN | apply below_drew1) | exact HB.out)⟩⟩
 case round =>
  clear H'
  try clear p2
  obtain ⟨x5_1, x6_1, rfl, HA, HK1, HO_5, HB⟩ := hrel
  cases gk with
  | zero => exact absurd HA.out (by simp [impl_readFrames.l0])
  | succ k1 =>
   have H := HA.out
   clear HA
   simp only [impl_readFrames.l0] at H
   by_cases c4 : 0 ≤ x6_1
   ·
    rw [if_pos c4] at H
    have c4b0 := eq_true c4
    have c4b1 : decide (0 ≤ x6_1) = true := decide_eq_true c4
    clear c4
    by_cases c5 : x6_1 ≤ (a0.size : Int)
    ·
     rw [if_pos c5] at H
     have c5b0 := eq_true c5
     have c5b1 : decide (x6_1 ≤ (a0.size : Int)) = true := decide_eq_true c5
     clear c5
     by_cases c6 : ((a0.extract (x6_1 : Int).toNat a0.size).size : Int) ≤ 140737488351232
     ·
      rw [if_pos c6] at H
      have c6b0 := eq_true c6
      have c6b1 : decide (((a0.extract (x6_1 : Int).toNat a0.size).size : Int) ≤ 140737488351232) = true := decide_eq_true c6
      clear c6
      obtain ⟨y110, hy110⟩ : ∃ y_ : List Int, y_ = (bytesOf (a0.extract (x6_1 : Int).toNat a0.size)) := ⟨_, rfl⟩
      replace H : (if (y110.length : Int) = 0 then (some (x5_1, x6_1, 0)) else (if (x5_1.length : Int) = 2000 then (some (x5_1, x6_1, 5)) else (if 0 < (y110.length : Int) then (if (rd y110 0) < 1 then (impl_readFrames.j1 k1 a0 x5_1 x6_1 y110 true) else (impl_readFrames.j1 k1 a0 x5_1 x6_1 y110 (decide ((rd y110 0) > 100)))) else (none)))) = some (r1, r2, r3) := by first | (rw [hy110]; with_reducible exact H) | (have H2_ := (Option.bind_some _ _).symm.trans H; rw [hy110]; with_reducible exact H2_) | (have H2_ := (Option.bind_some _ _).symm.trans H; with_reducible exact H2_) | with_reducible exact H | (rw [hy110]; exact H) | exact H
      have Ny110 := Aside0.mk hy110
      clear hy110
      by_cases c7 : (y110.length : Int) = 0
      ·
       rw [if_pos c7] at H
       have c7b0 : ((y110.length : Int) == 0) = true := beq_iff_eq.mpr c7
       have c7b1 : ((y110.length : Int) != 0) = false := bne_eq_false_iff_eq.mpr c7
       clear c7
       simp only [Option.some.injEq, Prod.mk.injEq] at H
       obtain ⟨rfl, rfl, rfl⟩ := H
       go_wp2_with (first | ((with_reducible refine gate_dst (N := 15) rfl ?_); refine Kd.R_bytes _ 5 rfl (N := 15) rfl 9 28 _ rfl (a0.extract (x6_1 : Int).toNat a0.size) rfl Try.underlying9 Try.underlying28 Try.underlying5 (ok := fun _ => True) trivial (of_decide_eq_true (by first | (with_reducible assumption) | assumption)) (Below.refl _ _) (Nat.le_refl _) ?_; intro v111 w8 ho9 hb hg_ hnew_; clear hg_ hnew_; (first | rw [← Ny110.out] at ho9 | (simp only [Int.reduceToNat] at ho9; rw [← Ny110.out] at ho9)); have n0_ := Aside0.mk (Kd.R_below (by (with_reducible repeat (first | apply Kd.R_alloc | apply Kd.R_drewN | apply Kd.R_drew)); exact HO_5.out) hb); have n1_ := Aside0.mk (Kd.R_lower ho9 (below_size (by repeat (first | (with_reducible first | exact HB.out | apply below_alloc | apply pw_below_drewN | apply below_drew1) | exact HB.out)))); have n2_ := Aside0.mk (below_step (by repeat (first | (with_reducible first | exact HB.out | apply below_alloc | apply pw_below_drewN | apply below_drew1) | exact HB.out)) hb); clear HO_5; clear HB; have HO_5 := n0_; have HO112 := n1_; have HB := n2_; clear n0_ n1_ n2_; clear hb ho9; obtain ⟨Ao10, co10, eo10⟩ := Kd.R_slice HO112.out; subst eo10))
       go_ret3
       exact ⟨_, by first | rfl | (simp [errW_none, errW_some] <;> rfl) | (simp [*, errW_none, errW_some] <;> rfl), by (with_reducible repeat (first | apply Kd.R_alloc | apply Kd.R_drewN | apply Kd.R_drew)); exact HO_5.out, by repeat (first | (with_reducible first | exact HB.out | apply below_alloc | apply pw_below_drewN | apply below_drew1) | exact HB.out)⟩
      ·
       rw [if_neg c7] at H
       have c7b0 : ((y110.length : Int) == 0) = false := beq_eq_false_iff_ne.mpr c7
       have c7b1 : ((y110.length : Int) != 0) = true := bne_iff_ne.mpr c7
       have c7b2 : ¬ (y110 = []) := fun h_ => c7 (by rw [h_]; rfl)
       by_cases c11 : (x5_1.length : Int) = 2000
       ·
        rw [if_pos c11] at H
        have c11b0 : ((x5_1.length : Int) == 2000) = true := beq_iff_eq.mpr c11
        have c11b1 : ((x5_1.length : Int) != 2000) = false := bne_eq_false_iff_eq.mpr c11
        clear c11
        simp only [Option.some.injEq, Prod.mk.injEq] at H
        obtain ⟨rfl, rfl, rfl⟩ := H
        go_wp2_with (first | ((with_reducible refine gate_dst (N := 15) rfl ?_); refine Kd.R_bytes _ 5 rfl (N := 15) rfl 9 28 _ rfl (a0.extract (x6_1 : Int).toNat a0.size) rfl Try.underlying9 Try.underlying28 Try.underlying5 (ok := fun _ => True) trivial (of_decide_eq_true (by first | (with_reducible assumption) | assumption)) (Below.refl _ _) (Nat.le_refl _) ?_; intro v111 w12 ho13 hb hg_ hnew_; clear hg_ hnew_; (first | rw [← Ny110.out] at ho13 | (simp only [Int.reduceToNat] at ho13; rw [← Ny110.out] at ho13)); have n0_ := Aside0.mk (Kd.R_below (by (with_reducible repeat (first | apply Kd.R_alloc | apply Kd.R_drewN | apply Kd.R_drew)); exact HO_5.out) hb); have n1_ := Aside0.mk (Kd.R_lower ho13 (below_size (by repeat (first | (with_reducible first | exact HB.out | apply below_alloc | apply pw_below_drewN | apply below_drew1) | exact HB.out)))); have n2_ := Aside0.mk (below_step (by repeat (first | (with_reducible first | exact HB.out | apply below_alloc | apply pw_below_drewN | apply below_drew1) | exact HB.out)) hb); clear HO_5; clear HB; have HO_5 := n0_; have HO112 := n1_; have HB := n2_; clear n0_ n1_ n2_; clear hb ho13; obtain ⟨Ao14, co14, eo14⟩ := Kd.R_slice HO112.out; subst eo14; obtain ⟨Ao15, co15, eo15⟩ := Kd.R_slice HO_5.out; subst eo15))
        go_ret3
        exact ⟨_, by first | rfl | (simp [errW_none, errW_some] <;> rfl) | (simp [*, errW_none, errW_some] <;> rfl), by (with_reducible repeat (first | apply Kd.R_alloc | apply Kd.R_drewN | apply Kd.R_drew)); exact HO_5.out, by repeat (first | (with_reducible first | exact HB.out | apply below_alloc | apply pw_below_drewN | apply below_drew1) | exact HB.out)⟩
       ·
        rw [if_neg c11] at H
        have c11b0 : ((x5_1.length : Int) == 2000) = false := beq_eq_false_iff_ne.mpr c11
        have c11b1 : ((x5_1.length : Int) != 2000) = true := bne_iff_ne.mpr c11
        have HC16 := Aside0.mk H
        clear H
        go_upto_region 8 with (first | ((with_reducible refine gate_dst (N := 15) rfl ?_); refine Kd.R_bytes _ 5 rfl (N := 15) rfl 9 28 _ rfl (a0.extract (x6_1 : Int).toNat a0.size) rfl Try.underlying9 Try.underlying28 Try.underlying5 (ok := fun _ => True) trivial (of_decide_eq_true (by first | (with_reducible assumption) | assumption)) (Below.refl _ _) (Nat.le_refl _) ?_; intro v111 w17 ho18 hb hg_ hnew_; clear hg_ hnew_; (first | rw [← Ny110.out] at ho18 | (simp only [Int.reduceToNat] at ho18; rw [← Ny110.out] at ho18)); have n0_ := Aside0.mk (Kd.R_below (by (with_reducible repeat (first | apply Kd.R_alloc | apply Kd.R_drewN | apply Kd.R_drew)); exact HO_5.out) hb); have n1_ := Aside0.mk (Kd.R_lower ho18 (below_size (by repeat (first | (with_reducible first | exact HB.out | apply below_alloc | apply pw_below_drewN | apply below_drew1) | exact HB.out)))); have n2_ := Aside0.mk (below_step (by repeat (first | (with_reducible first | exact HB.out | apply below_alloc | apply pw_below_drewN | apply below_drew1) | exact HB.out)) hb); clear HO_5; clear HB; have HO_5 := n0_; have HO112 := n1_; have HB := n2_; clear n0_ n1_ n2_; clear hb ho18; obtain ⟨Ao19, co19, eo19⟩ := Kd.R_slice HO112.out; subst eo19; obtain ⟨Ao20, co20, eo20⟩ := Kd.R_slice HO_5.out; subst eo20))
        (try simp only [Act.put, List.setIfInBounds_toArray, List.set_cons_zero, List.set_cons_succ])
        go_cut [28] (fun v28 wc => ∃ (kq : Nat) (x28_15 : Bool), v28 = .bool x28_15 ∧ Aside0 (impl_readFrames.j1 kq a0 x5_1 x6_1 y110 x28_15 = some (r1, r2, r3)) ∧ Aside0 (kq ≤ k1) ∧ Aside0 (Kd.R k31 31 wc w.heap.size (fun _ => True) (.slice Ao20 x5_1.length co20) x5_1) ∧ Aside0 (Kd.R (Kd.int .u8) 5 wc w.heap.size (fun _ => True) (.slice Ao19 y110.length co19) y110) ∧ Aside0 (Below w.heap.size w wc))
        case first =>
         have H := HC16.out
         clear HC16
         by_cases c21 : 0 < (y110.length : Int)
         ·
          rw [if_pos c21] at H
          have c21b0 : decide (0 < (y110.length : Int)) = true := decide_eq_true c21
          have c21b1 : decide (0 < y110.length) = true := decide_eq_true (by omega)
          clear c21
          (first | rw [c21b0] | (simp only [i64_w, i32_w]; rw [c21b0]) | skip)
          by_cases c22 : (rd y110 0) < 1
          ·
           rw [if_pos c22] at H
           have c22b0 : decide ((rd y110 0) < 1) = true := decide_eq_true c22
           clear c22
           have H' := Aside0.mk H
           clear H
           have p113 : 0 ≤ (0 : Int) := (by omega)
           have q113 : 0 < (y110.length : Int) := of_decide_eq_true (by first | (with_reducible assumption) | assumption)
           obtain ⟨ad113, e113, hx113_0⟩ := Kd.at_int (Kd.R_reads' HO112.out).2.2 0 p113 q113
           cases e113
           have qi113 : (0 < y110.length) = True := eq_true (by omega)
           (try rw [show ((0 : Int)).toNat = 0 from rfl] at hx113_0)
           (try rw [Addr.add_zero'] at hx113_0)
           replace p113 := eq_true p113
           replace q113 := eq_true q113
           go_wp2
           go_meet
           case rel => exact ⟨_, (true), (by first | rfl | (simp; done) | (simp [*]; done)), H', ⟨by have := HK1.out; first | omega | exact Nat.le_refl _⟩, ⟨by (with_reducible repeat (first | apply Kd.R_alloc | apply Kd.R_drewN | apply Kd.R_drew)); exact HO_5.out⟩, ⟨by (with_reducible repeat (first | apply Kd.R_alloc | apply Kd.R_drewN | apply Kd.R_drew)); exact HO112.out⟩, ⟨by repeat (first | (with_reducible first | exact HB.out | apply below_alloc | apply pw_below_drewN | apply below_drew1) | exact HB.out)⟩⟩
          ·
           rw [if_neg c22] at H
           have c22b0 : decide ((rd y110 0) < 1) = false := decide_eq_false c22
           clear c22
           have H' := Aside0.mk H
           clear H
           have p113 : 0 ≤ (0 : Int) := (by omega)
           have q113 : 0 < (y110.length : Int) := of_decide_eq_true (by first | (with_reducible assumption) | assumption)
           obtain ⟨ad113, e113, hx113_0⟩ := Kd.at_int (Kd.R_reads' HO112.out).2.2 0 p113 q113
           cases e113
           have qi113 : (0 < y110.length) = True := eq_true (by omega)
           (try rw [show ((0 : Int)).toNat = 0 from rfl] at hx113_0)
           (try rw [Addr.add_zero'] at hx113_0)
           replace p113 := eq_true p113
           replace q113 := eq_true q113
           have p114 : 0 ≤ (0 : Int) := (by omega)
           have q114 : 0 < (y110.length : Int) := of_decide_eq_true (by first | (with_reducible assumption) | assumption)
           obtain ⟨ad114, e114, hx114_0⟩ := Kd.at_int (Kd.R_reads' HO112.out).2.2 0 p114 q114
           obtain rfl : ad113 = ad114 := (by injection e114)
           have qi114 : (0 < y110.length) = True := eq_true (by omega)
           (try rw [show ((0 : Int)).toNat = 0 from rfl] at hx114_0)
           (try rw [Addr.add_zero'] at hx114_0)
           replace p114 := eq_true p114
           replace q114 := eq_true q114
           go_wp2
           go_meet
           case rel => exact ⟨_, (decide ((rd y110 0) > 100)), (by first | rfl | (simp; done) | (simp [*]; done)), H', ⟨by have := HK1.out; first | omega | exact Nat.le_refl _⟩, ⟨by (with_reducible repeat (first | apply Kd.R_alloc | apply Kd.R_drewN | apply Kd.R_drew)); exact HO_5.out⟩, ⟨by (with_reducible repeat (first | apply Kd.R_alloc | apply Kd.R_drewN | apply Kd.R_drew)); exact HO112.out⟩, ⟨by repeat (first | (with_reducible first | exact HB.out | apply below_alloc | apply pw_below_drewN | apply below_drew1) | exact HB.out)⟩⟩
         ·
          rw [if_neg c21] at H
          exact absurd H (by simp)
        case rest =>
         clear HC16
         try clear c1
         try clear p1
         try clear q1
         try clear hx1
         try clear qi1
         try clear c2
         try clear p2
         try clear c4
         try clear c4b0
         try clear c4b1
         try clear c5
         try clear c5b0
         try clear c5b1
         try clear c6
         try clear c6b0
         try clear c6b1
         try clear c7
         try clear c7b0
         try clear c7b1
         try clear c7b2
         try clear c11
         try clear c11b0
         try clear c11b1
         try clear p11
         try clear q11
         try clear hx11
         try clear qi11
         try clear c21
         try clear c21b0
         try clear c21b1
         try clear c22
         try clear c22b0
         try clear hx113_0
         try clear hx114_0
         try clear p113
         try clear p114
         try clear p2
         try clear q113
         try clear q114
         obtain ⟨kq, x28_15, rfl, HA, HJ15, HO_5, HO_7, HB⟩ := hcut
         cases kq with
         | zero => exact absurd HA.out (by simp [impl_readFrames.j1])
         | succ kj15 =>
          have H := HA.out
          clear HA
          simp only [impl_readFrames.j1] at H
          by_cases c23 : x28_15 = true
          ·
           subst c23
           have H1 : (some (x5_1, x6_1, 2)) = some (r1, r2, r3) := by rw [if_pos rfl] at H; exact H
           clear H
           have H := H1
           clear H1
           simp only [Option.some.injEq, Prod.mk.injEq] at H
           obtain ⟨rfl, rfl, rfl⟩ := H
           go_wp2
           go_ret3
           exact ⟨_, by first | rfl | (simp [errW_none, errW_some] <;> rfl) | (simp [*, errW_none, errW_some] <;> rfl), by (with_reducible repeat (first | apply Kd.R_alloc | apply Kd.R_drewN | apply Kd.R_drew)); exact HO_5.out, by repeat (first | (with_reducible first | exact HB.out | apply below_alloc | apply pw_below_drewN | apply below_drew1) | exact HB.out)⟩
          ·
           replace c23 := Bool.eq_false_iff.mpr c23
           subst c23
           have H1 : (if (y110.length : Int) < 5 then (some (x5_1, x6_1, 1)) else (if 1 ≤ (y110.length : Int) then ((binary_littleEndian_Uint32.f (y110.drop 1)).bind fun t119 => (if t119 > 20000 then (some (x5_1, x6_1, 3)) else (if (y110.length : Int) < (wrap64 ((wrap64 (5 + (wrap64 (t119)))) + 4)) then (some (x5_1, x6_1, 1)) else (if 0 ≤ (wrap64 (5 + (wrap64 (t119)))) then (if (wrap64 (5 + (wrap64 (t119)))) ≤ (y110.length : Int) then ((some (y110.take ((wrap64 (5 + (wrap64 (t119)))) : Int).toNat : List Int)).bind fun y120 => ((binary_littleEndian_Uint32.f (y110.drop ((wrap64 (5 + (wrap64 (t119)))) : Int).toNat)).bind fun t128 => ((impl_crc.f kj15 (strOfNums y120)).bind fun t129 => (if t128 = t129 then (if 0 < (y110.length : Int) then (if 5 ≤ ((strOfNums y120).size : Int) then (if x5_1.length < 5864062014805 then (impl_readFrames.l0 kj15 a0 (x5_1 ++ [(⟨wrap64 (rd y110 0), (strOfNums y120).extract 5 (strOfNums y120).size⟩ : S31)]) (wrap64 (x6_1 + (wrap64 ((wrap64 (5 + (wrap64 (t119)))) + 4))))) else (none)) else (none)) else (none)) else (some (x5_1, x6_1, 4)))))) else (none)) else (none))))) else (none))) = some (r1, r2, r3) := by rw [if_neg (show ¬ (false = true) by decide)] at H; exact H
           clear H
           have H := H1
           clear H1
           by_cases c24 : (y110.length : Int) < 5
           ·
            rw [if_pos c24] at H
            have c24b0 : decide ((y110.length : Int) < 5) = true := decide_eq_true c24
            have c24b1 : decide (y110.length < 5) = true := decide_eq_true (by omega)
            clear c24
            simp only [Option.some.injEq, Prod.mk.injEq] at H
            obtain ⟨rfl, rfl, rfl⟩ := H
            go_wp2
            go_ret3
            exact ⟨_, by first | rfl | (simp [errW_none, errW_some] <;> rfl) | (simp [*, errW_none, errW_some] <;> rfl), by (with_reducible repeat (first | apply Kd.R_alloc | apply Kd.R_drewN | apply Kd.R_drew)); exact HO_5.out, by repeat (first | (with_reducible first | exact HB.out | apply below_alloc | apply pw_below_drewN | apply below_drew1) | exact HB.out)⟩
           ·
            rw [if_neg c24] at H
            have c24b0 : decide ((y110.length : Int) < 5) = false := decide_eq_false c24
            have c24b1 : decide (y110.length < 5) = false := decide_eq_false (by omega)
            clear c24
            by_cases c25 : 1 ≤ (y110.length : Int)
            ·
             rw [if_pos c25] at H
             have c25b0 := eq_true c25
             have c25b1 : decide (1 ≤ (y110.length : Int)) = true := decide_eq_true c25
             clear c25
             obtain ⟨y115, hy115⟩ : ∃ y_ : List Int, y_ = (y110.drop 1) := ⟨_, rfl⟩
             replace H : ((binary_littleEndian_Uint32.f y115).bind fun t119 => (if t119 > 20000 then (some (x5_1, x6_1, 3)) else (if (y110.length : Int) < (wrap64 ((wrap64 (5 + (wrap64 (t119)))) + 4)) then (some (x5_1, x6_1, 1)) else (if 0 ≤ (wrap64 (5 + (wrap64 (t119)))) then (if (wrap64 (5 + (wrap64 (t119)))) ≤ (y110.length : Int) then ((some (y110.take ((wrap64 (5 + (wrap64 (t119)))) : Int).toNat : List Int)).bind fun y120 => ((binary_littleEndian_Uint32.f (y110.drop ((wrap64 (5 + (wrap64 (t119)))) : Int).toNat)).bind fun t128 => ((impl_crc.f kj15 (strOfNums y120)).bind fun t129 => (if t128 = t129 then (if 0 < (y110.length : Int) then (if 5 ≤ ((strOfNums y120).size : Int) then (if x5_1.length < 5864062014805 then (impl_readFrames.l0 kj15 a0 (x5_1 ++ [(⟨wrap64 (rd y110 0), (strOfNums y120).extract 5 (strOfNums y120).size⟩ : S31)]) (wrap64 (x6_1 + (wrap64 ((wrap64 (5 + (wrap64 (t119)))) + 4))))) else (none)) else (none)) else (none)) else (some (x5_1, x6_1, 4)))))) else (none)) else (none))))) = some (r1, r2, r3) := by first | (rw [hy115]; with_reducible exact H) | (have H2_ := (Option.bind_some _ _).symm.trans H; rw [hy115]; with_reducible exact H2_) | (have H2_ := (Option.bind_some _ _).symm.trans H; with_reducible exact H2_) | with_reducible exact H | (rw [hy115]; exact H) | exact H
             have Ny115 := Aside0.mk hy115
             clear hy115
             replace H := Option.bind_eq_some_iff.mp H
             obtain ⟨t119, A260, H⟩ := H
             replace H : (if t119 > 20000 then (some (x5_1, x6_1, 3)) else (if (y110.length : Int) < (wrap64 ((wrap64 (5 + (wrap64 (t119)))) + 4)) then (some (x5_1, x6_1, 1)) else (if 0 ≤ (wrap64 (5 + (wrap64 (t119)))) then (if (wrap64 (5 + (wrap64 (t119)))) ≤ (y110.length : Int) then ((some (y110.take ((wrap64 (5 + (wrap64 (t119)))) : Int).toNat : List Int)).bind fun y120 => ((binary_littleEndian_Uint32.f (y110.drop ((wrap64 (5 + (wrap64 (t119)))) : Int).toNat)).bind fun t128 => ((impl_crc.f kj15 (strOfNums y120)).bind fun t129 => (if t128 = t129 then (if 0 < (y110.length : Int) then (if 5 ≤ ((strOfNums y120).size : Int) then (if x5_1.length < 5864062014805 then (impl_readFrames.l0 kj15 a0 (x5_1 ++ [(⟨wrap64 (rd y110 0), (strOfNums y120).extract 5 (strOfNums y120).size⟩ : S31)]) (wrap64 (x6_1 + (wrap64 ((wrap64 (5 + (wrap64 (t119)))) + 4))))) else (none)) else (none)) else (none)) else (some (x5_1, x6_1, 4)))))) else (none)) else (none)))) = some (r1, r2, r3) := H
             have A26 := Aside0.mk A260
             clear A260
             by_cases c27 : t119 > 20000
             ·
              rw [if_pos c27] at H
              have c27b0 : decide (20000 < t119) = true := decide_eq_true c27
              clear c27
              simp only [Option.some.injEq, Prod.mk.injEq] at H
              obtain ⟨rfl, rfl, rfl⟩ := H
              try go_wp2
              have n0_ := Aside0.mk (Kd.R_drew HO_5.out)
              have n1_ := Aside0.mk (Kd.R_drew HO_7.out)
              have n2_ := Aside0.mk (below_drew1 HB.out)
              clear HO_5
              clear HO_7
              clear HB
              have HO_5 := n0_
              have HO_7 := n1_
              have HB := n2_
              clear n0_ n1_ n2_
              have q29 : (1 : Int) ≤ ((y110.length : Int) : Int) := of_decide_eq_true (by first | (with_reducible assumption) | assumption)
              obtain ⟨i029, hi029, _, hsz29, _⟩ := info_parts info5
              have hroom29 : y110.length ≤ co19 := (Kd.R_reads' HO_7.out).2.1
              have hC29 : Kd.C (Kd.int .u8) _ Ao19 y110.length y110 := (Kd.R_reads' HO_7.out).2.2
              have hcut29 := cut_from (P := Try.prog) 28 5 .i64 Try.underlying28 hi029 1 hsz29 Ao19 y110.length co19 1 (by omega) q29
              have hr29 := Kd.C_drop (m := (1 : Int).toNat) (c := co19) hC29 (by omega) hroom29
              obtain ⟨A29, hA29⟩ : ∃ A1, A1 = (if co19 = (1 : Int).toNat then Ao19 else (Ao19 : Option Addr).map (·.add ((1 : Int).toNat * 1))) := ⟨_, rfl⟩
              obtain ⟨c29, hc29⟩ : ∃ c1, c1 = co19 - (1 : Int).toNat := ⟨_, rfl⟩
              have hy29 : y115.length = y110.length - (1 : Int).toNat := (by rw [Ny115.out, List.length_drop] <;> omega)
              rw [show (y110).drop (1 : Int).toNat = y115 from Ny115.out.symm] at hr29
              replace hr29 : Kd.C (Kd.int .u8) _ A29 y115.length y115 := (by rw [hA29]; exact hr29)
              rw [← hy29, ← hA29, ← hc29] at hcut29
              have HR118 := Aside0.mk hr29
              have HC118 := Aside0.mk (show y115.length ≤ c29 from by rw [hy29, hc29]; exact Nat.sub_le_sub_right hroom29 _)
              clear hr29 hC29 hroom29 hi029 hsz29 hc29
              have KY29 := Aside0.mk hy29
              have KA29 := Aside0.mk hA29
              clear hy29 hA29
              have KL29 := Aside0.mk (show 1 ≤ y110.length from by omega)
              replace q29 := eq_true q29
              refine start_ (n := 5) (S := fun w' => True) (ds := []) #[false, false, false, false, false] (by kernel_rfl) rfl rfl trivial (fun hHeld => ?_)
              generalize wc.drew = w28 at HO_5 HO_7 HB HR118 hHeld ⊢
              refine pure_ (i := 1) (N := some 48) (v := ?_) (a' := ?_) #[false, true, false, false, false] rfl rfl (by kernel_rfl) (fun _ _ _ h => h) (Or.inl ⟨by rfl, ?_⟩) ?_ ?_
              rotate_left
              ·
               intro w'
               go_simp
               with_reducible rfl
              rotate_left
              ·
               simp only [Act.put, List.setIfInBounds_toArray, List.set_cons_zero, List.set_cons_succ, i64_w, i32_w]
               rfl
              refine pure_ (i := 2) (N := some 49) (v := ?_) (a' := ?_) #[false, true, true, false, false] rfl rfl (by kernel_rfl) (fun _ _ _ h => h) (Or.inl ⟨by rfl, ?_⟩) ?_ ?_
              rotate_left
              ·
               intro w'
               go_simp
               with_reducible rfl
              rotate_left
              ·
               simp only [Act.put, List.setIfInBounds_toArray, List.set_cons_zero, List.set_cons_succ, i64_w, i32_w]
               rfl
              refine take_ (i := 0) (N := some 47) (v := ?_) (a' := ?_) #[true, true, true, false, false] rfl rfl (by kernel_rfl) (fun _ _ _ h => h) (Or.inl ⟨by rfl, ?_⟩) hHeld ?_ ?_
              rotate_left
              ·
               intro w' _
               go_simp
               with_reducible rfl
              rotate_left
              ·
               simp only [Act.put, List.setIfInBounds_toArray, List.set_cons_zero, List.set_cons_succ, i64_w, i32_w]
               rfl
              refine one_ (i := 3) (N := some 50) #[true, true, true, true, false] rfl rfl (by kernel_rfl) (by decide) (fun K hK => ?_)
              refine goes_ Try.func100 (by kernel_rfl) rfl #[.agg #[], .slice A29 y115.length c29] (by rfl) rfl rfl (by (try simp only [List.map_toArray, List.map_cons, List.map_nil]); first | done | rfl | (simp only [List.length_drop, List.length_take]; rfl)) ?_
              with_reducible refine (binary_littleEndian_Uint32.calls  _ _ y115 t119 _ ?side1 ?side2 A26.out).mono ?_
              (case side1 => repeat (first | exact (by repeat (first | (with_reducible exact HR118.out) | (with_reducible refine Kd.C_alloc ?_ _) | (with_reducible refine Kd.C_drewN ?_ _) | (with_reducible refine Kd.C_drew ?_) | exact HR118.out)) | (with_reducible refine Kd.C_alloc ?_ _) | (with_reducible refine Kd.C_drewN ?_ _) | (with_reducible refine Kd.C_drew ?_)))
              (case side2 => exact HC118.out)
              rintro e w30 ⟨rfl, hb⟩
              refine ⟨_, rfl, ?_⟩
              have n0_ := Aside0.mk (Kd.R_below (by (with_reducible repeat (first | apply Kd.R_alloc | apply Kd.R_drewN | apply Kd.R_drew)); exact HO_5.out) hb)
              have n1_ := Aside0.mk (Kd.R_below (by (with_reducible repeat (first | apply Kd.R_alloc | apply Kd.R_drewN | apply Kd.R_drew)); exact HO_7.out) hb)
              have n2_ := Aside0.mk (Kd.C_below (by repeat (first | (with_reducible exact HR118.out) | (with_reducible refine Kd.C_alloc ?_ _) | (with_reducible refine Kd.C_drewN ?_ _) | (with_reducible refine Kd.C_drew ?_) | exact HR118.out)) hb)
              have n3_ := Aside0.mk (below_step (by repeat (first | (with_reducible first | exact HB.out | apply below_alloc | apply pw_below_drewN | apply below_drew1) | exact HB.out)) hb)
              clear HO_5
              clear HO_7
              clear HR118
              clear HB
              have HO_5 := n0_
              have HO_7 := n1_
              have HR118 := n2_
              have HB := n3_
              clear n0_ n1_ n2_ n3_
              (try clear hb)
              (try clear hb2)
              (try clear hk)
              (try clear hi)
              refine hK.out _ _ trivial (fun hHeld => ?_)
              clear hK K
              refine norm_ (a' := ?_) ?_ ?_
              rotate_left
              ·
               show Act.put _ (some 50) _ = _
               simp only [Act.put, List.setIfInBounds_toArray, List.set_cons_zero, List.set_cons_succ, i64_w, i32_w]
               rfl
              refine pure_ (i := 4) (N := some 8) (v := ?_) (a' := ?_) #[true, true, true, true, true] rfl rfl (by kernel_rfl) (fun _ _ _ h => h) (Or.inl ⟨by rfl, ?_⟩) ?_ ?_
              rotate_left
              ·
               intro w'
               go_simp
               with_reducible rfl
              rotate_left
              ·
               simp only [Act.put, List.setIfInBounds_toArray, List.set_cons_zero, List.set_cons_succ, i64_w, i32_w]
               rfl
              refine done_ (by kernel_rfl) ?_
              try go_wp2
              go_ret3
              exact ⟨_, by first | rfl | (simp [errW_none, errW_some] <;> rfl) | (simp [*, errW_none, errW_some] <;> rfl), by (with_reducible repeat (first | apply Kd.R_alloc | apply Kd.R_drewN | apply Kd.R_drew)); exact HO_5.out, by repeat (first | (with_reducible first | exact HB.out | apply below_alloc | apply pw_below_drewN | apply below_drew1) | exact HB.out)⟩
             ·
              rw [if_neg c27] at H
              have c27b0 : decide (20000 < t119) = false := decide_eq_false c27
              clear c27
              by_cases c31 : (y110.length : Int) < (wrap64 ((wrap64 (5 + (wrap64 (t119)))) + 4))
              ·
               rw [if_pos c31] at H
               have c31b0 : decide ((y110.length : Int) < (wrap64 ((wrap64 (5 + (wrap64 (t119)))) + 4))) = true := decide_eq_true c31
               clear c31
               simp only [Option.some.injEq, Prod.mk.injEq] at H
               obtain ⟨rfl, rfl, rfl⟩ := H
               try go_wp2
               have n0_ := Aside0.mk (Kd.R_drew HO_5.out)
               have n1_ := Aside0.mk (Kd.R_drew HO_7.out)
               have n2_ := Aside0.mk (below_drew1 HB.out)
               clear HO_5
               clear HO_7
               clear HB
               have HO_5 := n0_
               have HO_7 := n1_
               have HB := n2_
               clear n0_ n1_ n2_
               have q33 : (1 : Int) ≤ ((y110.length : Int) : Int) := of_decide_eq_true (by first | (with_reducible assumption) | assumption)
               obtain ⟨i033, hi033, _, hsz33, _⟩ := info_parts info5
               have hroom33 : y110.length ≤ co19 := (Kd.R_reads' HO_7.out).2.1
               have hC33 : Kd.C (Kd.int .u8) _ Ao19 y110.length y110 := (Kd.R_reads' HO_7.out).2.2
               have hcut33 := cut_from (P := Try.prog) 28 5 .i64 Try.underlying28 hi033 1 hsz33 Ao19 y110.length co19 1 (by omega) q33
               have hr33 := Kd.C_drop (m := (1 : Int).toNat) (c := co19) hC33 (by omega) hroom33
               obtain ⟨A33, hA33⟩ : ∃ A1, A1 = (if co19 = (1 : Int).toNat then Ao19 else (Ao19 : Option Addr).map (·.add ((1 : Int).toNat * 1))) := ⟨_, rfl⟩
               obtain ⟨c33, hc33⟩ : ∃ c1, c1 = co19 - (1 : Int).toNat := ⟨_, rfl⟩
               have hy33 : y115.length = y110.length - (1 : Int).toNat := (by rw [Ny115.out, List.length_drop] <;> omega)
               rw [show (y110).drop (1 : Int).toNat = y115 from Ny115.out.symm] at hr33
               replace hr33 : Kd.C (Kd.int .u8) _ A33 y115.length y115 := (by rw [hA33]; exact hr33)
               rw [← hy33, ← hA33, ← hc33] at hcut33
               have HR118 := Aside0.mk hr33
               have HC118 := Aside0.mk (show y115.length ≤ c33 from by rw [hy33, hc33]; exact Nat.sub_le_sub_right hroom33 _)
               clear hr33 hC33 hroom33 hi033 hsz33 hc33
               have KY33 := Aside0.mk hy33
               have KA33 := Aside0.mk hA33
               clear hy33 hA33
               have KL33 := Aside0.mk (show 1 ≤ y110.length from by omega)
               replace q33 := eq_true q33
               refine start_ (n := 5) (S := fun w' => True) (ds := []) #[false, false, false, false, false] (by kernel_rfl) rfl rfl trivial (fun hHeld => ?_)
               generalize wc.drew = w32 at HO_5 HO_7 HB HR118 hHeld ⊢
               refine pure_ (i := 1) (N := some 48) (v := ?_) (a' := ?_) #[false, true, false, false, false] rfl rfl (by kernel_rfl) (fun _ _ _ h => h) (Or.inl ⟨by rfl, ?_⟩) ?_ ?_
               rotate_left
               ·
                intro w'
                go_simp
                with_reducible rfl
               rotate_left
               ·
                simp only [Act.put, List.setIfInBounds_toArray, List.set_cons_zero, List.set_cons_succ, i64_w, i32_w]
                rfl
               refine pure_ (i := 2) (N := some 49) (v := ?_) (a' := ?_) #[false, true, true, false, false] rfl rfl (by kernel_rfl) (fun _ _ _ h => h) (Or.inl ⟨by rfl, ?_⟩) ?_ ?_
               rotate_left
               ·
                intro w'
                go_simp
                with_reducible rfl
               rotate_left
               ·
                simp only [Act.put, List.setIfInBounds_toArray, List.set_cons_zero, List.set_cons_succ, i64_w, i32_w]
                rfl
               refine take_ (i := 0) (N := some 47) (v := ?_) (a' := ?_) #[true, true, true, false, false] rfl rfl (by kernel_rfl) (fun _ _ _ h => h) (Or.inl ⟨by rfl, ?_⟩) hHeld ?_ ?_
               rotate_left
               ·
                intro w' _
                go_simp
                with_reducible rfl
               rotate_left
               ·
                simp only [Act.put, List.setIfInBounds_toArray, List.set_cons_zero, List.set_cons_succ, i64_w, i32_w]
                rfl
               refine one_ (i := 3) (N := some 50) #[true, true, true, true, false] rfl rfl (by kernel_rfl) (by decide) (fun K hK => ?_)
               refine goes_ Try.func100 (by kernel_rfl) rfl #[.agg #[], .slice A33 y115.length c33] (by rfl) rfl rfl (by (try simp only [List.map_toArray, List.map_cons, List.map_nil]); first | done | rfl | (simp only [List.length_drop, List.length_take]; rfl)) ?_
               with_reducible refine (binary_littleEndian_Uint32.calls  _ _ y115 t119 _ ?side1 ?side2 A26.out).mono ?_
               (case side1 => repeat (first | exact (by repeat (first | (with_reducible exact HR118.out) | (with_reducible refine Kd.C_alloc ?_ _) | (with_reducible refine Kd.C_drewN ?_ _) | (with_reducible refine Kd.C_drew ?_) | exact HR118.out)) | (with_reducible refine Kd.C_alloc ?_ _) | (with_reducible refine Kd.C_drewN ?_ _) | (with_reducible refine Kd.C_drew ?_)))
               (case side2 => exact HC118.out)
               rintro e w34 ⟨rfl, hb⟩
               refine ⟨_, rfl, ?_⟩
               have n0_ := Aside0.mk (Kd.R_below (by (with_reducible repeat (first | apply Kd.R_alloc | apply Kd.R_drewN | apply Kd.R_drew)); exact HO_5.out) hb)
               have n1_ := Aside0.mk (Kd.R_below (by (with_reducible repeat (first | apply Kd.R_alloc | apply Kd.R_drewN | apply Kd.R_drew)); exact HO_7.out) hb)
               have n2_ := Aside0.mk (Kd.C_below (by repeat (first | (with_reducible exact HR118.out) | (with_reducible refine Kd.C_alloc ?_ _) | (with_reducible refine Kd.C_drewN ?_ _) | (with_reducible refine Kd.C_drew ?_) | exact HR118.out)) hb)
               have n3_ := Aside0.mk (below_step (by repeat (first | (with_reducible first | exact HB.out | apply below_alloc | apply pw_below_drewN | apply below_drew1) | exact HB.out)) hb)
               clear HO_5
               clear HO_7
               clear HR118
               clear HB
               have HO_5 := n0_
               have HO_7 := n1_
               have HR118 := n2_
               have HB := n3_
               clear n0_ n1_ n2_ n3_
               (try clear hb)
               (try clear hb2)
               (try clear hk)
               (try clear hi)
               refine hK.out _ _ trivial (fun hHeld => ?_)
               clear hK K
               refine norm_ (a' := ?_) ?_ ?_
               rotate_left
               ·
                show Act.put _ (some 50) _ = _
                simp only [Act.put, List.setIfInBounds_toArray, List.set_cons_zero, List.set_cons_succ, i64_w, i32_w]
                rfl
               refine pure_ (i := 4) (N := some 8) (v := ?_) (a' := ?_) #[true, true, true, true, true] rfl rfl (by kernel_rfl) (fun _ _ _ h => h) (Or.inl ⟨by rfl, ?_⟩) ?_ ?_
               rotate_left
               ·
                intro w'
                go_simp
                with_reducible rfl
               rotate_left
               ·
                simp only [Act.put, List.setIfInBounds_toArray, List.set_cons_zero, List.set_cons_succ, i64_w, i32_w]
                rfl
               refine done_ (by kernel_rfl) ?_
               try go_wp2
               go_ret3
               exact ⟨_, by first | rfl | (simp [errW_none, errW_some] <;> rfl) | (simp [*, errW_none, errW_some] <;> rfl), by (with_reducible repeat (first | apply Kd.R_alloc | apply Kd.R_drewN | apply Kd.R_drew)); exact HO_5.out, by repeat (first | (with_reducible first | exact HB.out | apply below_alloc | apply pw_below_drewN | apply below_drew1) | exact HB.out)⟩
              ·
               rw [if_neg c31] at H
               have c31b0 : decide ((y110.length : Int) < (wrap64 ((wrap64 (5 + (wrap64 (t119)))) + 4))) = false := decide_eq_false c31
               clear c31
               obtain ⟨ji35, hji35⟩ : ∃ j_ : Int, (wrap64 (5 + (wrap64 (t119)))) = j_ := ⟨_, rfl⟩
               replace H : (if 0 ≤ (ji35) then (if (ji35) ≤ (y110.length : Int) then ((some (y110.take ((ji35) : Int).toNat : List Int)).bind fun y120 => ((binary_littleEndian_Uint32.f (y110.drop ((ji35) : Int).toNat)).bind fun t128 => ((impl_crc.f kj15 (strOfNums y120)).bind fun t129 => (if t128 = t129 then (if 0 < (y110.length : Int) then (if 5 ≤ ((strOfNums y120).size : Int) then (if x5_1.length < 5864062014805 then (impl_readFrames.l0 kj15 a0 (x5_1 ++ [(⟨wrap64 (rd y110 0), (strOfNums y120).extract 5 (strOfNums y120).size⟩ : S31)]) (wrap64 (x6_1 + (wrap64 ((ji35) + 4))))) else (none)) else (none)) else (none)) else (some (x5_1, x6_1, 4)))))) else (none)) else (none)) = some (r1, r2, r3) := by first | (rw [hji35] at H; exact H) | (simp only [hji35] at H ⊢; exact H)
               (try rw [hji35] at c31b0)
               (try rw [hji35] at A26)
               have hji35w : (IntKind.i64.wrap (5 + (wrap64 (t119)))) = ji35 := (i64_w _).trans hji35
               by_cases c36 : 0 ≤ (ji35)
               ·
                rw [if_pos c36] at H
                have c36b0 := eq_true c36
                have c36b1 : decide (0 ≤ (ji35)) = true := decide_eq_true c36
                clear c36
                by_cases c37 : (ji35) ≤ (y110.length : Int)
                ·
                 rw [if_pos c37] at H
                 have c37b0 := eq_true c37
                 have c37b1 : decide ((ji35) ≤ (y110.length : Int)) = true := decide_eq_true c37
                 clear c37
                 obtain ⟨y120, hy120⟩ : ∃ y_ : List Int, y_ = (y110.take ((ji35) : Int).toNat) := ⟨_, rfl⟩
                 replace H : ((binary_littleEndian_Uint32.f (y110.drop ((ji35) : Int).toNat)).bind fun t128 => ((impl_crc.f kj15 (strOfNums y120)).bind fun t129 => (if t128 = t129 then (if 0 < (y110.length : Int) then (if 5 ≤ ((strOfNums y120).size : Int) then (if x5_1.length < 5864062014805 then (impl_readFrames.l0 kj15 a0 (x5_1 ++ [(⟨wrap64 (rd y110 0), (strOfNums y120).extract 5 (strOfNums y120).size⟩ : S31)]) (wrap64 (x6_1 + (wrap64 ((ji35) + 4))))) else (none)) else (none)) else (none)) else (some (x5_1, x6_1, 4))))) = some (r1, r2, r3) := by first | (rw [hy120]; with_reducible exact H) | (have H2_ := (Option.bind_some _ _).symm.trans H; rw [hy120]; with_reducible exact H2_) | (have H2_ := (Option.bind_some _ _).symm.trans H; with_reducible exact H2_) | with_reducible exact H | (rw [hy120]; exact H) | exact H
                 have Ny120 := Aside0.mk hy120
                 clear hy120
                 have c38b0 := eq_true (of_decide_eq_true (by first | (with_reducible assumption) | assumption) : 0 ≤ (ji35))
                 have c39b0 := eq_true (of_decide_eq_true (by first | (with_reducible assumption) | assumption) : (ji35) ≤ (y110.length : Int))
                 obtain ⟨y124, hy124⟩ : ∃ y_ : List Int, y_ = (y110.drop ((ji35) : Int).toNat) := ⟨_, rfl⟩
                 replace H : ((binary_littleEndian_Uint32.f y124).bind fun t128 => ((impl_crc.f kj15 (strOfNums y120)).bind fun t129 => (if t128 = t129 then (if 0 < (y110.length : Int) then (if 5 ≤ ((strOfNums y120).size : Int) then (if x5_1.length < 5864062014805 then (impl_readFrames.l0 kj15 a0 (x5_1 ++ [(⟨wrap64 (rd y110 0), (strOfNums y120).extract 5 (strOfNums y120).size⟩ : S31)]) (wrap64 (x6_1 + (wrap64 ((ji35) + 4))))) else (none)) else (none)) else (none)) else (some (x5_1, x6_1, 4))))) = some (r1, r2, r3) := by first | (rw [hy124]; with_reducible exact H) | (have H2_ := (Option.bind_some _ _).symm.trans H; rw [hy124]; with_reducible exact H2_) | (have H2_ := (Option.bind_some _ _).symm.trans H; with_reducible exact H2_) | with_reducible exact H | (rw [hy124]; exact H) | exact H
                 have Ny124 := Aside0.mk hy124
                 clear hy124
                 replace H := Option.bind_eq_some_iff.mp H
                 obtain ⟨t128, A400, H⟩ := H
                 replace H : ((impl_crc.f kj15 (strOfNums y120)).bind fun t129 => (if t128 = t129 then (if 0 < (y110.length : Int) then (if 5 ≤ ((strOfNums y120).size : Int) then (if x5_1.length < 5864062014805 then (impl_readFrames.l0 kj15 a0 (x5_1 ++ [(⟨wrap64 (rd y110 0), (strOfNums y120).extract 5 (strOfNums y120).size⟩ : S31)]) (wrap64 (x6_1 + (wrap64 ((ji35) + 4))))) else (none)) else (none)) else (none)) else (some (x5_1, x6_1, 4)))) = some (r1, r2, r3) := H
                 have A40 := Aside0.mk A400
                 clear A400
                 replace H := Option.bind_eq_some_iff.mp H
                 obtain ⟨t129, A410, H⟩ := H
                 replace H : (if t128 = t129 then (if 0 < (y110.length : Int) then (if 5 ≤ ((strOfNums y120).size : Int) then (if x5_1.length < 5864062014805 then (impl_readFrames.l0 kj15 a0 (x5_1 ++ [(⟨wrap64 (rd y110 0), (strOfNums y120).extract 5 (strOfNums y120).size⟩ : S31)]) (wrap64 (x6_1 + (wrap64 ((ji35) + 4))))) else (none)) else (none)) else (none)) else (some (x5_1, x6_1, 4))) = some (r1, r2, r3) := H
                 have A41 := Aside0.mk A410
                 clear A410
                 by_cases c42 : t128 = t129
                 ·
                  rw [if_pos c42] at H
                  have c42b0 : (t128 == t129) = true := beq_iff_eq.mpr c42
                  have c42b1 : (t128 != t129) = false := bne_eq_false_iff_eq.mpr c42
                  clear c42
                  by_cases c43 : 0 < (y110.length : Int)
                  ·
                   rw [if_pos c43] at H
                   have c43b0 : decide (0 < (y110.length : Int)) = true := decide_eq_true c43
                   have c43b1 : decide (0 < y110.length) = true := decide_eq_true (by omega)
                   clear c43
                   by_cases c44 : 5 ≤ ((strOfNums y120).size : Int)
                   ·
                    rw [if_pos c44] at H
                    have c44b0 := eq_true c44
                    have c44b1 : decide (5 ≤ ((strOfNums y120).size : Int)) = true := decide_eq_true c44
                    clear c44
                    by_cases c45 : x5_1.length < 5864062014805
                    ·
                     rw [if_pos c45] at H
                     have LMc45 := Aside0.mk c45
                     clear c45
                     obtain ⟨y131, hy131⟩ : ∃ y_ : List (S31), y_ = (x5_1 ++ [(⟨wrap64 (rd y110 0), (strOfNums y120).extract 5 (strOfNums y120).size⟩ : S31)]) := ⟨_, rfl⟩
                     replace H : (impl_readFrames.l0 kj15 a0 y131 (wrap64 (x6_1 + (wrap64 ((ji35) + 4))))) = some (r1, r2, r3) := by first | (rw [hy131]; with_reducible exact H) | (have H2_ := (Option.bind_some _ _).symm.trans H; rw [hy131]; with_reducible exact H2_) | (have H2_ := (Option.bind_some _ _).symm.trans H; with_reducible exact H2_) | with_reducible exact H | (rw [hy131]; exact H) | exact H
                     have Ny131 := Aside0.mk hy131
                     clear hy131
                     have H' := Aside0.mk H
                     clear H
                     try go_wp2
                     have n0_ := Aside0.mk (Kd.R_drew HO_5.out)
                     have n1_ := Aside0.mk (Kd.R_drew HO_7.out)
                     have n2_ := Aside0.mk (below_drew1 HB.out)
                     clear HO_5
                     clear HO_7
                     clear HB
                     have HO_5 := n0_
                     have HO_7 := n1_
                     have HB := n2_
                     clear n0_ n1_ n2_
                     have q47 : (1 : Int) ≤ ((y110.length : Int) : Int) := of_decide_eq_true (by first | (with_reducible assumption) | assumption)
                     obtain ⟨i047, hi047, _, hsz47, _⟩ := info_parts info5
                     have hroom47 : y110.length ≤ co19 := (Kd.R_reads' HO_7.out).2.1
                     have hC47 : Kd.C (Kd.int .u8) _ Ao19 y110.length y110 := (Kd.R_reads' HO_7.out).2.2
                     have hcut47 := cut_from (P := Try.prog) 28 5 .i64 Try.underlying28 hi047 1 hsz47 Ao19 y110.length co19 1 (by omega) q47
                     have hr47 := Kd.C_drop (m := (1 : Int).toNat) (c := co19) hC47 (by omega) hroom47
                     obtain ⟨A47, hA47⟩ : ∃ A1, A1 = (if co19 = (1 : Int).toNat then Ao19 else (Ao19 : Option Addr).map (·.add ((1 : Int).toNat * 1))) := ⟨_, rfl⟩
                     obtain ⟨c47, hc47⟩ : ∃ c1, c1 = co19 - (1 : Int).toNat := ⟨_, rfl⟩
                     have hy47 : y115.length = y110.length - (1 : Int).toNat := (by rw [Ny115.out, List.length_drop] <;> omega)
                     rw [show (y110).drop (1 : Int).toNat = y115 from Ny115.out.symm] at hr47
                     replace hr47 : Kd.C (Kd.int .u8) _ A47 y115.length y115 := (by rw [hA47]; exact hr47)
                     rw [← hy47, ← hA47, ← hc47] at hcut47
                     have HR118 := Aside0.mk hr47
                     have HC118 := Aside0.mk (show y115.length ≤ c47 from by rw [hy47, hc47]; exact Nat.sub_le_sub_right hroom47 _)
                     clear hr47 hC47 hroom47 hi047 hsz47 hc47
                     have KY47 := Aside0.mk hy47
                     have KA47 := Aside0.mk hA47
                     clear hy47 hA47
                     have KL47 := Aside0.mk (show 1 ≤ y110.length from by omega)
                     replace q47 := eq_true q47
                     refine start_ (n := 5) (S := fun w' => True) (ds := []) #[false, false, false, false, false] (by kernel_rfl) rfl rfl trivial (fun hHeld => ?_)
                     generalize wc.drew = w46 at HO_5 HO_7 HB HR118 hHeld ⊢
                     refine pure_ (i := 1) (N := some 48) (v := ?_) (a' := ?_) #[false, true, false, false, false] rfl rfl (by kernel_rfl) (fun _ _ _ h => h) (Or.inl ⟨by rfl, ?_⟩) ?_ ?_
                     rotate_left
                     ·
                      intro w'
                      go_simp
                      with_reducible rfl
                     rotate_left
                     ·
                      simp only [Act.put, List.setIfInBounds_toArray, List.set_cons_zero, List.set_cons_succ, i64_w, i32_w]
                      rfl
                     refine pure_ (i := 2) (N := some 49) (v := ?_) (a' := ?_) #[false, true, true, false, false] rfl rfl (by kernel_rfl) (fun _ _ _ h => h) (Or.inl ⟨by rfl, ?_⟩) ?_ ?_
                     rotate_left
                     ·
                      intro w'
                      go_simp
                      with_reducible rfl
                     rotate_left
                     ·
                      simp only [Act.put, List.setIfInBounds_toArray, List.set_cons_zero, List.set_cons_succ, i64_w, i32_w]
                      rfl
                     refine take_ (i := 0) (N := some 47) (v := ?_) (a' := ?_) #[true, true, true, false, false] rfl rfl (by kernel_rfl) (fun _ _ _ h => h) (Or.inl ⟨by rfl, ?_⟩) hHeld ?_ ?_
                     rotate_left
                     ·
                      intro w' _
                      go_simp
                      with_reducible rfl
                     rotate_left
                     ·
                      simp only [Act.put, List.setIfInBounds_toArray, List.set_cons_zero, List.set_cons_succ, i64_w, i32_w]
                      rfl
                     refine one_ (i := 3) (N := some 50) #[true, true, true, true, false] rfl rfl (by kernel_rfl) (by decide) (fun K hK => ?_)
                     refine goes_ Try.func100 (by kernel_rfl) rfl #[.agg #[], .slice A47 y115.length c47] (by rfl) rfl rfl (by (try simp only [List.map_toArray, List.map_cons, List.map_nil]); first | done | rfl | (simp only [List.length_drop, List.length_take]; rfl)) ?_
                     with_reducible refine (binary_littleEndian_Uint32.calls  _ _ y115 t119 _ ?side1 ?side2 A26.out).mono ?_
                     (case side1 => repeat (first | exact (by repeat (first | (with_reducible exact HR118.out) | (with_reducible refine Kd.C_alloc ?_ _) | (with_reducible refine Kd.C_drewN ?_ _) | (with_reducible refine Kd.C_drew ?_) | exact HR118.out)) | (with_reducible refine Kd.C_alloc ?_ _) | (with_reducible refine Kd.C_drewN ?_ _) | (with_reducible refine Kd.C_drew ?_)))
                     (case side2 => exact HC118.out)
                     rintro e w48 ⟨rfl, hb⟩
                     refine ⟨_, rfl, ?_⟩
                     have n0_ := Aside0.mk (Kd.R_below (by (with_reducible repeat (first | apply Kd.R_alloc | apply Kd.R_drewN | apply Kd.R_drew)); exact HO_5.out) hb)
                     have n1_ := Aside0.mk (Kd.R_below (by (with_reducible repeat (first | apply Kd.R_alloc | apply Kd.R_drewN | apply Kd.R_drew)); exact HO_7.out) hb)
                     have n2_ := Aside0.mk (Kd.C_below (by repeat (first | (with_reducible exact HR118.out) | (with_reducible refine Kd.C_alloc ?_ _) | (with_reducible refine Kd.C_drewN ?_ _) | (with_reducible refine Kd.C_drew ?_) | exact HR118.out)) hb)
                     have n3_ := Aside0.mk (below_step (by repeat (first | (with_reducible first | exact HB.out | apply below_alloc | apply pw_below_drewN | apply below_drew1) | exact HB.out)) hb)
                     clear HO_5
                     clear HO_7
                     clear HR118
                     clear HB
                     have HO_5 := n0_
                     have HO_7 := n1_
                     have HR118 := n2_
                     have HB := n3_
                     clear n0_ n1_ n2_ n3_
                     (try clear hb)
                     (try clear hb2)
                     (try clear hk)
                     (try clear hi)
                     refine hK.out _ _ trivial (fun hHeld => ?_)
                     clear hK K
                     refine norm_ (a' := ?_) ?_ ?_
                     rotate_left
                     ·
                      show Act.put _ (some 50) _ = _
                      simp only [Act.put, List.setIfInBounds_toArray, List.set_cons_zero, List.set_cons_succ, i64_w, i32_w]
                      rfl
                     refine pure_ (i := 4) (N := some 8) (v := ?_) (a' := ?_) #[true, true, true, true, true] rfl rfl (by kernel_rfl) (fun _ _ _ h => h) (Or.inl ⟨by rfl, ?_⟩) ?_ ?_
                     rotate_left
                     ·
                      intro w'
                      go_simp
                      with_reducible rfl
                     rotate_left
                     ·
                      simp only [Act.put, List.setIfInBounds_toArray, List.set_cons_zero, List.set_cons_succ, i64_w, i32_w]
                      rfl
                     refine done_ (by kernel_rfl) ?_
                     have q49 : ((ji35) : Int) ≤ ((y110.length : Int) : Int) := of_decide_eq_true (by first | (with_reducible assumption) | assumption)
                     obtain ⟨i049, hi049, _, hsz49, _⟩ := info_parts info5
                     have hroom49 : y110.length ≤ co19 := (Kd.R_reads' HO_7.out).2.1
                     have hC49 : Kd.C (Kd.int .u8) _ Ao19 y110.length y110 := (Kd.R_reads' HO_7.out).2.2
                     have hcut49 := cut_to (P := Try.prog) 28 5 .i64 Try.underlying28 hi049 Ao19 y110.length co19 (ji35) (of_decide_eq_true (by first | (with_reducible assumption) | assumption)) q49 hroom49
                     have hr49 := Kd.C_take (m := ((ji35) : Int).toNat) hC49 (by omega)
                     have hy49 : y120.length = ((ji35) : Int).toNat := (by rw [Ny120.out, List.length_take]; omega)
                     rw [← Ny120.out] at hr49
                     rw [← hy49] at hcut49
                     have HR123 := Aside0.mk hr49
                     have HC123 := Aside0.mk (show y120.length ≤ co19 from by omega)
                     clear hr49 hC49 hroom49 hi049 hsz49
                     have KY49 := Aside0.mk hy49
                     clear hy49
                     have KL49 := Aside0.mk (show ((ji35) : Int).toNat ≤ y110.length from by omega)
                     replace q49 := eq_true q49
                     have hcv50 := Kd.C_string (P := Try.prog) (A := Ao19) (c := co19) Try.underlying28 Try.underlying5 Try.underlying9 (by repeat (first | (with_reducible exact HR123.out) | (with_reducible refine Kd.C_alloc ?_ _) | (with_reducible refine Kd.C_drewN ?_ _) | (with_reducible refine Kd.C_drew ?_) | exact HR123.out))
                     try go_wp2
                     have n0_ := Aside0.mk (Kd.R_drew HO_5.out)
                     have n1_ := Aside0.mk (Kd.R_drew HO_7.out)
                     have n2_ := Aside0.mk (Kd.C_drew HR118.out)
                     have n3_ := Aside0.mk (Kd.C_drew HR123.out)
                     have n4_ := Aside0.mk (below_drew1 HB.out)
                     clear HO_5
                     clear HO_7
                     clear HR118
                     clear HR123
                     clear HB
                     have HO_5 := n0_
                     have HO_7 := n1_
                     have HR118 := n2_
                     have HR123 := n3_
                     have HB := n4_
                     clear n0_ n1_ n2_ n3_ n4_
                     have q52 : ((ji35) : Int) ≤ ((y110.length : Int) : Int) := of_decide_eq_true (by first | (with_reducible assumption) | assumption)
                     obtain ⟨i052, hi052, _, hsz52, _⟩ := info_parts info5
                     have hroom52 : y110.length ≤ co19 := (Kd.R_reads' HO_7.out).2.1
                     have hC52 : Kd.C (Kd.int .u8) _ Ao19 y110.length y110 := (Kd.R_reads' HO_7.out).2.2
                     have q052 : (0 : Int) ≤ ((ji35) : Int) := of_decide_eq_true (by first | (with_reducible assumption) | assumption)
                     have hcut52 := cut_from (P := Try.prog) 28 5 .i64 Try.underlying28 hi052 1 hsz52 Ao19 y110.length co19 (ji35) q052 q52
                     have hr52 := Kd.C_drop (m := ((ji35) : Int).toNat) (c := co19) hC52 (by omega) hroom52
                     obtain ⟨A52, hA52⟩ : ∃ A1, A1 = (if co19 = ((ji35) : Int).toNat then Ao19 else (Ao19 : Option Addr).map (·.add (((ji35) : Int).toNat * 1))) := ⟨_, rfl⟩
                     obtain ⟨c52, hc52⟩ : ∃ c1, c1 = co19 - ((ji35) : Int).toNat := ⟨_, rfl⟩
                     have hy52 : y124.length = y110.length - ((ji35) : Int).toNat := (by rw [Ny124.out, List.length_drop] <;> omega)
                     rw [show (y110).drop ((ji35) : Int).toNat = y124 from Ny124.out.symm] at hr52
                     replace hr52 : Kd.C (Kd.int .u8) _ A52 y124.length y124 := (by rw [hA52]; exact hr52)
                     rw [← hy52, ← hA52, ← hc52] at hcut52
                     have HR127 := Aside0.mk hr52
                     have HC127 := Aside0.mk (show y124.length ≤ c52 from by rw [hy52, hc52]; exact Nat.sub_le_sub_right hroom52 _)
                     clear hr52 hC52 hroom52 hi052 hsz52 hc52
                     have KY52 := Aside0.mk hy52
                     have KA52 := Aside0.mk hA52
                     clear hy52 hA52
                     have KL52 := Aside0.mk (show ((ji35) : Int).toNat ≤ y110.length from by omega)
                     replace q52 := eq_true q52
                     refine start_ (n := 8) (S := fun w' => True) (ds := []) #[ff,ff,ff,ff,ff,ff,ff,ff] (by kernel_rfl) rfl rfl trivial (fun hHeld => ?_); refine with_tabW impl_readFrames.tab19 impl_readFrames.bits19 (fun HT_ HW_ => ?_)
                     generalize w48.drew = w51 at HO_5 HO_7 HR118 HR123 HB HR127 hHeld ⊢
                     refine pure_ (i := 1) (N := some 70) (v := ?_) (a' := ?_) #[ff,tt,ff,ff,ff,ff,ff,ff] rfl rfl (any_of HT_.out (by kernel_rfl)) (fun _ _ _ h => h) (Or.inl ⟨by rfl, ?_⟩) ?_ ?_
                     rotate_left
                     ·
                      intro w'
                      go_simp
                      with_reducible rfl
                     rotate_left
                     ·
                      simp only [Act.put, List.setIfInBounds_toArray, List.set_cons_zero, List.set_cons_succ, i64_w, i32_w]
                      rfl
                     refine pure_ (i := 2) (N := some 71) (v := ?_) (a' := ?_) #[ff,tt,tt,ff,ff,ff,ff,ff] rfl rfl (any_of HT_.out (by kernel_rfl)) (fun _ _ _ h => h) (Or.inl ⟨by rfl, ?_⟩) ?_ ?_
                     rotate_left
                     ·
                      intro w'
                      go_simp
                      with_reducible rfl
                     rotate_left
                     ·
                      simp only [Act.put, List.setIfInBounds_toArray, List.set_cons_zero, List.set_cons_succ, i64_w, i32_w]
                      rfl
                     refine pure_ (i := 3) (N := some 72) (v := ?_) (a' := ?_) #[ff,tt,tt,tt,ff,ff,ff,ff] rfl rfl (any_of HT_.out (by kernel_rfl)) (fun _ _ _ h => h) (Or.inl ⟨by rfl, ?_⟩) ?_ ?_
                     rotate_left
                     ·
                      intro w'
                      go_simp
                      with_reducible rfl
                     rotate_left
                     ·
                      simp only [Act.put, List.setIfInBounds_toArray, List.set_cons_zero, List.set_cons_succ, i64_w, i32_w]
                      rfl
                     refine pure_ (i := 5) (N := some 74) (v := ?_) (a' := ?_) #[ff,tt,tt,tt,ff,tt,ff,ff] rfl rfl (any_of HT_.out (by kernel_rfl)) (fun _ _ _ h => h) (Or.inl ⟨by rfl, ?_⟩) ?_ ?_
                     rotate_left
                     ·
                      intro w'
                      go_simp
                      with_reducible rfl
                     rotate_left
                     ·
                      simp only [Act.put, List.setIfInBounds_toArray, List.set_cons_zero, List.set_cons_succ, i64_w, i32_w]
                      rfl
                     refine take_ (i := 0) (N := some 69) (v := ?_) (a' := ?_) #[tt,tt,tt,tt,ff,tt,ff,ff] rfl rfl (take_ofW HT_.out HW_.out (by kernel_rfl)) (fun _ _ _ h => h) (Or.inl ⟨by rfl, ?_⟩) hHeld ?_ ?_
                     rotate_left
                     ·
                      intro w' _
                      go_simp
                      with_reducible rfl
                     rotate_left
                     ·
                      simp only [Act.put, List.setIfInBounds_toArray, List.set_cons_zero, List.set_cons_succ, i64_w, i32_w]
                      rfl
                     refine one_ (i := 4) (N := some 73) #[tt,tt,tt,tt,tt,tt,ff,ff] rfl rfl (one_of HT_.out (by kernel_rfl)) (by decide) (fun K hK => ?_)
                     refine goes_ Try.func100 (by kernel_rfl) rfl #[.agg #[], .slice A52 y124.length c52] (by rfl) rfl rfl (by (try simp only [List.map_toArray, List.map_cons, List.map_nil]); first | done | rfl | (simp only [List.length_drop, List.length_take]; rfl)) ?_
                     with_reducible refine (binary_littleEndian_Uint32.calls  _ _ y124 t128 _ ?side1 ?side2 A40.out).mono ?_
                     (case side1 => repeat (first | exact (by repeat (first | (with_reducible exact HR127.out) | (with_reducible refine Kd.C_alloc ?_ _) | (with_reducible refine Kd.C_drewN ?_ _) | (with_reducible refine Kd.C_drew ?_) | exact HR127.out)) | (with_reducible refine Kd.C_alloc ?_ _) | (with_reducible refine Kd.C_drewN ?_ _) | (with_reducible refine Kd.C_drew ?_)))
                     (case side2 => exact HC127.out)
                     rintro e w53 ⟨rfl, hb⟩
                     refine ⟨_, rfl, ?_⟩
                     have n0_ := Aside0.mk (Kd.R_below (by (with_reducible repeat (first | apply Kd.R_alloc | apply Kd.R_drewN | apply Kd.R_drew)); exact HO_5.out) hb)
                     have n1_ := Aside0.mk (Kd.R_below (by (with_reducible repeat (first | apply Kd.R_alloc | apply Kd.R_drewN | apply Kd.R_drew)); exact HO_7.out) hb)
                     have n2_ := Aside0.mk (Kd.C_below (by repeat (first | (with_reducible exact HR118.out) | (with_reducible refine Kd.C_alloc ?_ _) | (with_reducible refine Kd.C_drewN ?_ _) | (with_reducible refine Kd.C_drew ?_) | exact HR118.out)) hb)
                     have n3_ := Aside0.mk (Kd.C_below (by repeat (first | (with_reducible exact HR123.out) | (with_reducible refine Kd.C_alloc ?_ _) | (with_reducible refine Kd.C_drewN ?_ _) | (with_reducible refine Kd.C_drew ?_) | exact HR123.out)) hb)
                     have n4_ := Aside0.mk (Kd.C_below (by repeat (first | (with_reducible exact HR127.out) | (with_reducible refine Kd.C_alloc ?_ _) | (with_reducible refine Kd.C_drewN ?_ _) | (with_reducible refine Kd.C_drew ?_) | exact HR127.out)) hb)
                     have n5_ := Aside0.mk (below_step (by repeat (first | (with_reducible first | exact HB.out | apply below_alloc | apply pw_below_drewN | apply below_drew1) | exact HB.out)) hb)
                     clear HO_5
                     clear HO_7
                     clear HR118
                     clear HR123
                     clear HR127
                     clear HB
                     have HO_5 := n0_
                     have HO_7 := n1_
                     have HR118 := n2_
                     have HR123 := n3_
                     have HR127 := n4_
                     have HB := n5_
                     clear n0_ n1_ n2_ n3_ n4_ n5_
                     (try clear hb)
                     (try clear hb2)
                     (try clear hk)
                     (try clear hi)
                     refine hK.out _ _ trivial (fun hHeld => ?_)
                     clear hK K
                     refine norm_ (a' := ?_) ?_ ?_
                     rotate_left
                     ·
                      show Act.put _ (some 73) _ = _
                      simp only [Act.put, List.setIfInBounds_toArray, List.set_cons_zero, List.set_cons_succ, i64_w, i32_w]
                      rfl
                     refine one_ (i := 6) (N := some 75) #[tt,tt,tt,tt,tt,tt,tt,ff] rfl rfl (one_of HT_.out (by kernel_rfl)) (by decide) (fun K hK => ?_)
                     refine goes_ Try.func101 (by kernel_rfl) rfl #[.string (strOfNums y120)] (by rfl) rfl rfl (by (try simp only [List.map_toArray, List.map_cons, List.map_nil]); first | done | rfl | (simp only [List.length_drop, List.length_take]; rfl)) ?_
                     with_reducible refine (impl_crc.calls kj15 (strOfNums y120) t129 _ A41.out).mono ?_
                     rintro e w' ⟨rfl, ⟨nd, rfl⟩⟩
                     refine ⟨_, rfl, ?_⟩
                     refine hK.out _ _ trivial (fun hHeld => ?_)
                     clear hK K
                     refine norm_ (a' := ?_) ?_ ?_
                     rotate_left
                     ·
                      show Act.put _ (some 75) _ = _
                      simp only [Act.put, List.setIfInBounds_toArray, List.set_cons_zero, List.set_cons_succ, i64_w, i32_w]
                      rfl
                     refine pure_ (i := 7) (N := some 76) (v := ?_) (a' := ?_) #[tt,tt,tt,tt,tt,tt,tt,tt] rfl rfl (any_of HT_.out (by kernel_rfl)) (fun _ _ _ h => h) (Or.inl ⟨by rfl, ?_⟩) ?_ ?_
                     rotate_left
                     ·
                      intro w'
                      go_simp
                      with_reducible rfl
                     rotate_left
                     ·
                      simp only [Act.put, List.setIfInBounds_toArray, List.set_cons_zero, List.set_cons_succ, i64_w, i32_w]
                      rfl
                     refine done_ (done_of HT_.out (by kernel_rfl)) ?_
                     try go_wp2
                     repeat (rw [drewN_self w53]; generalize hq_ : World.drewN w53 _ = w53; have n0_ : Aside0 (Kd.R k31 31 w53 w.heap.size (fun _ => True) (.slice Ao20 x5_1.length co20) x5_1) := ⟨by rw [← hq_]; exact (by (with_reducible repeat (first | apply Kd.R_alloc | apply Kd.R_drewN | apply Kd.R_drew)); exact HO_5.out)⟩; have n1_ : Aside0 (Kd.R (Kd.int .u8) 5 w53 w.heap.size (fun _ => True) (.slice Ao19 y110.length co19) y110) := ⟨by rw [← hq_]; exact (by (with_reducible repeat (first | apply Kd.R_alloc | apply Kd.R_drewN | apply Kd.R_drew)); exact HO_7.out)⟩; have n2_ : Aside0 (Below w.heap.size w w53) := ⟨by rw [← hq_]; exact (by repeat (first | (with_reducible first | exact HB.out | apply below_alloc | apply pw_below_drewN | apply below_drew1) | exact HB.out))⟩; have n3_ : Aside0 (Kd.C (Kd.int .u8) w53 A47 y115.length y115) := ⟨by rw [← hq_]; exact (by repeat (first | (with_reducible exact HR118.out) | (with_reducible refine Kd.C_alloc ?_ _) | (with_reducible refine Kd.C_drewN ?_ _) | (with_reducible refine Kd.C_drew ?_) | exact HR118.out))⟩; have n4_ : Aside0 (Kd.C (Kd.int .u8) w53 Ao19 y120.length y120) := ⟨by rw [← hq_]; exact (by repeat (first | (with_reducible exact HR123.out) | (with_reducible refine Kd.C_alloc ?_ _) | (with_reducible refine Kd.C_drewN ?_ _) | (with_reducible refine Kd.C_drew ?_) | exact HR123.out))⟩; have n5_ : Aside0 (Kd.C (Kd.int .u8) w53 A52 y124.length y124) := ⟨by rw [← hq_]; exact (by repeat (first | (with_reducible exact HR127.out) | (with_reducible refine Kd.C_alloc ?_ _) | (with_reducible refine Kd.C_drewN ?_ _) | (with_reducible refine Kd.C_drew ?_) | exact HR127.out))⟩; clear HO_5 HO_7 HB HR118 HR123 HR127 hq_; have HO_5 := n0_; have HO_7 := n1_; have HB := n2_; have HR118 := n3_; have HR123 := n4_; have HR127 := n5_; clear n0_ n1_ n2_ n3_ n4_ n5_)
                     have n0_ := Aside0.mk (Kd.R_drew HO_5.out)
                     have n1_ := Aside0.mk (Kd.R_drew HO_7.out)
                     have n2_ := Aside0.mk (Kd.C_drew HR118.out)
                     have n3_ := Aside0.mk (Kd.C_drew HR123.out)
                     have n4_ := Aside0.mk (Kd.C_drew HR127.out)
                     have n5_ := Aside0.mk (below_drew1 HB.out)
                     clear HO_5
                     clear HO_7
                     clear HR118
                     clear HR123
                     clear HR127
                     clear HB
                     have HO_5 := n0_
                     have HO_7 := n1_
                     have HR118 := n2_
                     have HR123 := n3_
                     have HR127 := n4_
                     have HB := n5_
                     clear n0_ n1_ n2_ n3_ n4_ n5_
                     have p130 : 0 ≤ (0 : Int) := (by omega)
                     have q130 : 0 < (y110.length : Int) := of_decide_eq_true (by first | (with_reducible assumption) | assumption)
                     obtain ⟨ad130, e130, hx130_0⟩ := Kd.at_int (Kd.R_reads' HO_7.out).2.2 0 p130 q130
                     cases e130
                     have qi130 : (0 < y110.length) = True := eq_true (by omega)
                     (try rw [show ((0 : Int)).toNat = 0 from rfl] at hx130_0)
                     (try rw [Addr.add_zero'] at hx130_0)
                     replace p130 := eq_true p130
                     replace q130 := eq_true q130
                     refine start_ (n := 11) (S := fun w' => w'.cell? ad130 = some (.int .u8 (rd y110 0))) (ds := [8, 9]) #[ff,ff,ff,ff,ff,ff,ff,ff,ff,ff,ff] (by kernel_rfl) rfl rfl (hx130_0) (fun hHeld => ?_); refine with_tabW impl_readFrames.tab21 impl_readFrames.bits21 (fun HT_ HW_ => ?_)
                     generalize w53.drew = w54 at HO_5 HO_7 HR118 HR123 HR127 HB hx130_0 hHeld ⊢
                     refine pure_ (i := 0) (N := some 79) (v := ?_) (a' := ?_) #[tt,ff,ff,ff,ff,ff,ff,ff,ff,ff,ff] rfl rfl (any_of HT_.out (by kernel_rfl)) (fun _ _ _ h => h) (Or.inl ⟨by rfl, ?_⟩) ?_ ?_
                     rotate_left
                     ·
                      intro w'
                      go_simp
                      with_reducible rfl
                     rotate_left
                     ·
                      simp only [Act.put, List.setIfInBounds_toArray, List.set_cons_zero, List.set_cons_succ, i64_w, i32_w]
                      rfl
                     refine pure_ (i := 1) (N := some 80) (v := ?_) (a' := ?_) #[tt,tt,ff,ff,ff,ff,ff,ff,ff,ff,ff] rfl rfl (any_of HT_.out (by kernel_rfl)) (fun _ _ _ h => h) (Or.inl ⟨by rfl, ?_⟩) ?_ ?_
                     rotate_left
                     ·
                      intro w'
                      go_simp
                      with_reducible rfl
                     rotate_left
                     ·
                      simp only [Act.put, List.setIfInBounds_toArray, List.set_cons_zero, List.set_cons_succ, i64_w, i32_w]
                      rfl
                     refine pure_ (i := 2) (N := some 81) (v := ?_) (a' := ?_) #[tt,tt,tt,ff,ff,ff,ff,ff,ff,ff,ff] rfl rfl (any_of HT_.out (by kernel_rfl)) (fun _ _ _ h => h) (Or.inl ⟨by rfl, ?_⟩) ?_ ?_
                     rotate_left
                     ·
                      intro w'
                      go_simp
                      with_reducible rfl
                     rotate_left
                     ·
                      simp only [Act.put, List.setIfInBounds_toArray, List.set_cons_zero, List.set_cons_succ, i64_w, i32_w]
                      rfl
                     refine pure_ (i := 5) (N := some 84) (v := ?_) (a' := ?_) #[tt,tt,tt,ff,ff,tt,ff,ff,ff,ff,ff] rfl rfl (any_of HT_.out (by kernel_rfl)) (fun _ _ _ h => h) (Or.inl ⟨by rfl, ?_⟩) ?_ ?_
                     rotate_left
                     ·
                      intro w'
                      go_simp
                      with_reducible rfl
                     rotate_left
                     ·
                      simp only [Act.put, List.setIfInBounds_toArray, List.set_cons_zero, List.set_cons_succ, i64_w, i32_w]
                      rfl
                     refine pure_ (i := 6) (N := some 85) (v := ?_) (a' := ?_) #[tt,tt,tt,ff,ff,tt,tt,ff,ff,ff,ff] rfl rfl (any_of HT_.out (by kernel_rfl)) (fun _ _ _ h => h) (Or.inl ⟨by rfl, ?_⟩) ?_ ?_
                     rotate_left
                     ·
                      intro w'
                      go_simp
                      with_reducible rfl
                     rotate_left
                     ·
                      simp only [Act.put, List.setIfInBounds_toArray, List.set_cons_zero, List.set_cons_succ, i64_w, i32_w]
                      rfl
                     refine take_ (i := 3) (N := some 82) (v := ?_) (a' := ?_) #[tt,tt,tt,tt,ff,tt,tt,ff,ff,ff,ff] rfl rfl (take_ofW HT_.out HW_.out (by kernel_rfl)) (fun _ _ _ h => h) (Or.inl ⟨by rfl, ?_⟩) hHeld ?_ ?_
                     rotate_left
                     ·
                      intro w' s0
                      go_simp
                      with_reducible rfl
                     rotate_left
                     ·
                      simp only [Act.put, List.setIfInBounds_toArray, List.set_cons_zero, List.set_cons_succ, i64_w, i32_w]
                      rfl
                     refine pure_ (i := 4) (N := some 83) (v := ?_) (a' := ?_) #[tt,tt,tt,tt,tt,tt,tt,ff,ff,ff,ff] rfl rfl (any_of HT_.out (by kernel_rfl)) (fun _ _ _ h => h) (Or.inl ⟨by rfl, ?_⟩) ?_ ?_
                     rotate_left
                     ·
                      intro w'
                      go_simp
                      with_reducible rfl
                     rotate_left
                     ·
                      simp only [Act.put, List.setIfInBounds_toArray, List.set_cons_zero, List.set_cons_succ, i64_w, i32_w]
                      rfl
                     refine pure_ (i := 7) (N := some 86) (v := ?_) (a' := ?_) #[tt,tt,tt,tt,tt,tt,tt,tt,ff,ff,ff] rfl rfl (any_of HT_.out (by kernel_rfl)) (fun _ _ _ h => h) (Or.inl ⟨by rfl, ?_⟩) ?_ ?_
                     rotate_left
                     ·
                      intro w'
                      go_simp
                      with_reducible rfl
                     rotate_left
                     ·
                      simp only [Act.put, List.setIfInBounds_toArray, List.set_cons_zero, List.set_cons_succ, i64_w, i32_w]
                      rfl
                     refine last_ (i := 8) (N := some 87) #[tt,tt,tt,tt,tt,tt,tt,tt,tt,ff,ff] rfl rfl (one_of HT_.out (by kernel_rfl)) (by decide) (fun K hK => ?_)
                     refine value_ (w1 := ?_) (v := ?_) (by rfl) rfl ?_ ?_
                     rotate_left 2
                     ·
                      go_simp
                      constructor
                      ·
                       rfl
                      ·
                       rfl
                     refine hK.out _ _ ?_
                     clear hK K
                     refine norm_ (a' := ?_) ?_ ?_
                     rotate_left
                     ·
                      show Act.put _ (some 87) _ = _
                      simp only [Act.put, List.setIfInBounds_toArray, List.set_cons_zero, List.set_cons_succ, i64_w, i32_w]
                      rfl
                     refine last_ (i := 9) (N := some 88) #[tt,tt,tt,tt,tt,tt,tt,tt,tt,tt,ff] rfl rfl (one_of HT_.out (by kernel_rfl)) (by decide) (fun K hK => ?_)
                     refine Kd.R_append_step k31 (w0 := w) w.heap.size (by rfl) (.tmp 79) (.tmp 87) 22 31 (.agg #[(.int .i64 0), (.string ⟨#[]⟩)]) 24 rfl Try.underlying22 info31 rfl (by decide) (by omega) (.slice Ao20 x5_1.length co20) x5_1 (⟨wrap64 (rd y110 0), (strOfNums y120).extract 5 (strOfNums y120).size⟩ : S31) [.int .i64 (wrap64 (rd y110 0)), .string ((strOfNums y120).extract 5 (strOfNums y120).size)] (fun _ => True) (fun _ => False) rfl rfl ?aP (fun _ hk => hk.elim) ?aF ?aO ?aB ?aS ?aL ?_
                     (case aP => exact k31_mkM _ _ _ (⟨wrap64 (rd y110 0), (strOfNums y120).extract 5 (strOfNums y120).size⟩ : S31))
                     (case aB => exact (by repeat (first | (with_reducible first | exact HB.out | apply below_alloc | apply pw_below_drewN | apply below_drew1) | exact HB.out)))
                     (case aF => exact (fun _ _ => trivial))
                     (case aO => exact (by (with_reducible repeat (first | apply Kd.R_alloc | apply Kd.R_drewN | apply Kd.R_drew)); exact HO_5.out))
                     (case aS => exact (below_size (by repeat (first | (with_reducible first | exact HB.out | apply below_alloc | apply pw_below_drewN | apply below_drew1) | exact HB.out))))
                     (case aL => have := LMc45.out; omega)
                     intro v132 w55 ho hb hg hat
                     rw [← Ny131.out] at ho
                     have n0_ := Aside0.mk (Kd.R_over' (by (with_reducible repeat (first | apply Kd.R_alloc | apply Kd.R_drewN | apply Kd.R_drew)); exact HO_7.out) (Kd.R_typed (by (with_reducible repeat (first | apply Kd.R_alloc | apply Kd.R_drewN | apply Kd.R_drew)); exact HO_5.out)) (by decide) hg)
                     have n1_ := Aside0.mk (hb)
                     have n2_ := Aside0.mk ((show Kd.C (Kd.int .u8) w55 A47 y115.length y115 from by rw [Ny115.out, KA47.out]; exact Kd.C_drop (m := 1) (c := co19) ((Kd.R_reads' (Kd.R_over' (by (with_reducible repeat (first | apply Kd.R_alloc | apply Kd.R_drewN | apply Kd.R_drew)); exact HO_7.out) (Kd.R_typed (by (with_reducible repeat (first | apply Kd.R_alloc | apply Kd.R_drewN | apply Kd.R_drew)); exact HO_5.out)) (by decide) hg)).2.2) KL47.out ((Kd.R_reads' (Kd.R_over' (by (with_reducible repeat (first | apply Kd.R_alloc | apply Kd.R_drewN | apply Kd.R_drew)); exact HO_7.out) (Kd.R_typed (by (with_reducible repeat (first | apply Kd.R_alloc | apply Kd.R_drewN | apply Kd.R_drew)); exact HO_5.out)) (by decide) hg)).2.1)))
                     have n3_ := Aside0.mk ((show Kd.C (Kd.int .u8) w55 (some ad130) y120.length y120 from by rw [Ny120.out]; exact Kd.C_take (m := ((ji35) : Int).toNat) ((Kd.R_reads' (Kd.R_over' (by (with_reducible repeat (first | apply Kd.R_alloc | apply Kd.R_drewN | apply Kd.R_drew)); exact HO_7.out) (Kd.R_typed (by (with_reducible repeat (first | apply Kd.R_alloc | apply Kd.R_drewN | apply Kd.R_drew)); exact HO_5.out)) (by decide) hg)).2.2) KL49.out))
                     have n4_ := Aside0.mk ((show Kd.C (Kd.int .u8) w55 A52 y124.length y124 from by rw [Ny124.out, KA52.out]; exact Kd.C_drop (m := ((ji35) : Int).toNat) (c := co19) ((Kd.R_reads' (Kd.R_over' (by (with_reducible repeat (first | apply Kd.R_alloc | apply Kd.R_drewN | apply Kd.R_drew)); exact HO_7.out) (Kd.R_typed (by (with_reducible repeat (first | apply Kd.R_alloc | apply Kd.R_drewN | apply Kd.R_drew)); exact HO_5.out)) (by decide) hg)).2.2) KL52.out ((Kd.R_reads' (Kd.R_over' (by (with_reducible repeat (first | apply Kd.R_alloc | apply Kd.R_drewN | apply Kd.R_drew)); exact HO_7.out) (Kd.R_typed (by (with_reducible repeat (first | apply Kd.R_alloc | apply Kd.R_drewN | apply Kd.R_drew)); exact HO_5.out)) (by decide) hg)).2.1)))
                     have n5_ := Aside0.mk (ho)
                     clear HO_7
                     clear HB
                     clear HR118
                     clear HR123
                     clear HR127
                     clear HO_5
                     have HO_7 := n0_
                     have HB := n1_
                     have HR118 := n2_
                     have HR123 := n3_
                     have HR127 := n4_
                     have HO133 := n5_
                     clear n0_ n1_ n2_ n3_ n4_ n5_
                     clear ho hb hg hat
                     refine hK.out _ _ ?_
                     clear hK K
                     refine norm_ (a' := ?_) ?_ ?_
                     rotate_left
                     ·
                      show Act.put _ (some 88) _ = _
                      simp only [Act.put, List.setIfInBounds_toArray, List.set_cons_zero, List.set_cons_succ, i64_w, i32_w]
                      rfl
                     refine pure_ (i := 10) (N := some 5) (v := ?_) (a' := ?_) #[tt,tt,tt,tt,tt,tt,tt,tt,tt,tt,tt] rfl rfl (any_of HT_.out (by kernel_rfl)) (fun _ _ _ h => h) (Or.inl ⟨by rfl, ?_⟩) ?_ ?_
                     rotate_left
                     ·
                      intro w'
                      go_simp
                      with_reducible rfl
                     rotate_left
                     ·
                      simp only [Act.put, List.setIfInBounds_toArray, List.set_cons_zero, List.set_cons_succ, i64_w, i32_w]
                      rfl
                     refine done_ (done_of HT_.out (by kernel_rfl)) ?_
                     try go_wp2
                     go_roundg kj15
                     case measure => have := HK1.out; have := HJ15.out; omega
                     case rel => exact ⟨(y131), (wrap64 (x6_1 + (wrap64 ((ji35) + 4)))), (by first | rfl | (simp; done) | (simp only [← hji35] <;> (first | rfl | simp)) | (simp [*]; done)), H', ⟨by have := HK1.out; have := HJ15.out; omega⟩, ⟨by (with_reducible repeat (first | apply Kd.R_alloc | apply Kd.R_drewN | apply Kd.R_drew)); exact HO133.out⟩, ⟨by repeat (first | (with_reducible first | exact HB.out | apply below_alloc | apply pw_below_drewN | apply below_drew1) | exact HB.out)⟩⟩
                    ·
                     rw [if_neg c45] at H
                     exact absurd H (by simp)
                   ·
                    rw [if_neg c44] at H
                    exact absurd H (by simp)
                  ·
                   rw [if_neg c43] at H
                   exact absurd H (by simp)
                 ·
                  rw [if_neg c42] at H
                  have c42b0 : (t128 == t129) = false := beq_eq_false_iff_ne.mpr c42
                  have c42b1 : (t128 != t129) = true := bne_iff_ne.mpr c42
                  simp only [Option.some.injEq, Prod.mk.injEq] at H
                  obtain ⟨rfl, rfl, rfl⟩ := H
                  try go_wp2
                  have n0_ := Aside0.mk (Kd.R_drew HO_5.out)
                  have n1_ := Aside0.mk (Kd.R_drew HO_7.out)
                  have n2_ := Aside0.mk (below_drew1 HB.out)
                  clear HO_5
                  clear HO_7
                  clear HB
                  have HO_5 := n0_
                  have HO_7 := n1_
                  have HB := n2_
                  clear n0_ n1_ n2_
                  have q57 : (1 : Int) ≤ ((y110.length : Int) : Int) := of_decide_eq_true (by first | (with_reducible assumption) | assumption)
                  obtain ⟨i057, hi057, _, hsz57, _⟩ := info_parts info5
                  have hroom57 : y110.length ≤ co19 := (Kd.R_reads' HO_7.out).2.1
                  have hC57 : Kd.C (Kd.int .u8) _ Ao19 y110.length y110 := (Kd.R_reads' HO_7.out).2.2
                  have hcut57 := cut_from (P := Try.prog) 28 5 .i64 Try.underlying28 hi057 1 hsz57 Ao19 y110.length co19 1 (by omega) q57
                  have hr57 := Kd.C_drop (m := (1 : Int).toNat) (c := co19) hC57 (by omega) hroom57
                  obtain ⟨A57, hA57⟩ : ∃ A1, A1 = (if co19 = (1 : Int).toNat then Ao19 else (Ao19 : Option Addr).map (·.add ((1 : Int).toNat * 1))) := ⟨_, rfl⟩
                  obtain ⟨c57, hc57⟩ : ∃ c1, c1 = co19 - (1 : Int).toNat := ⟨_, rfl⟩
                  have hy57 : y115.length = y110.length - (1 : Int).toNat := (by rw [Ny115.out, List.length_drop] <;> omega)
                  rw [show (y110).drop (1 : Int).toNat = y115 from Ny115.out.symm] at hr57
                  replace hr57 : Kd.C (Kd.int .u8) _ A57 y115.length y115 := (by rw [hA57]; exact hr57)
                  rw [← hy57, ← hA57, ← hc57] at hcut57
                  have HR118 := Aside0.mk hr57
                  have HC118 := Aside0.mk (show y115.length ≤ c57 from by rw [hy57, hc57]; exact Nat.sub_le_sub_right hroom57 _)
                  clear hr57 hC57 hroom57 hi057 hsz57 hc57
                  have KY57 := Aside0.mk hy57
                  have KA57 := Aside0.mk hA57
                  clear hy57 hA57
                  have KL57 := Aside0.mk (show 1 ≤ y110.length from by omega)
                  replace q57 := eq_true q57
                  refine start_ (n := 5) (S := fun w' => True) (ds := []) #[false, false, false, false, false] (by kernel_rfl) rfl rfl trivial (fun hHeld => ?_)
                  generalize wc.drew = w56 at HO_5 HO_7 HB HR118 hHeld ⊢
                  refine pure_ (i := 1) (N := some 48) (v := ?_) (a' := ?_) #[false, true, false, false, false] rfl rfl (by kernel_rfl) (fun _ _ _ h => h) (Or.inl ⟨by rfl, ?_⟩) ?_ ?_
                  rotate_left
                  ·
                   intro w'
                   go_simp
                   with_reducible rfl
                  rotate_left
                  ·
                   simp only [Act.put, List.setIfInBounds_toArray, List.set_cons_zero, List.set_cons_succ, i64_w, i32_w]
                   rfl
                  refine pure_ (i := 2) (N := some 49) (v := ?_) (a' := ?_) #[false, true, true, false, false] rfl rfl (by kernel_rfl) (fun _ _ _ h => h) (Or.inl ⟨by rfl, ?_⟩) ?_ ?_
                  rotate_left
                  ·
                   intro w'
                   go_simp
                   with_reducible rfl
                  rotate_left
                  ·
                   simp only [Act.put, List.setIfInBounds_toArray, List.set_cons_zero, List.set_cons_succ, i64_w, i32_w]
                   rfl
                  refine take_ (i := 0) (N := some 47) (v := ?_) (a' := ?_) #[true, true, true, false, false] rfl rfl (by kernel_rfl) (fun _ _ _ h => h) (Or.inl ⟨by rfl, ?_⟩) hHeld ?_ ?_
                  rotate_left
                  ·
                   intro w' _
                   go_simp
                   with_reducible rfl
                  rotate_left
                  ·
                   simp only [Act.put, List.setIfInBounds_toArray, List.set_cons_zero, List.set_cons_succ, i64_w, i32_w]
                   rfl
                  refine one_ (i := 3) (N := some 50) #[true, true, true, true, false] rfl rfl (by kernel_rfl) (by decide) (fun K hK => ?_)
                  refine goes_ Try.func100 (by kernel_rfl) rfl #[.agg #[], .slice A57 y115.length c57] (by rfl) rfl rfl (by (try simp only [List.map_toArray, List.map_cons, List.map_nil]); first | done | rfl | (simp only [List.length_drop, List.length_take]; rfl)) ?_
                  with_reducible refine (binary_littleEndian_Uint32.calls  _ _ y115 t119 _ ?side1 ?side2 A26.out).mono ?_
                  (case side1 => repeat (first | exact (by repeat (first | (with_reducible exact HR118.out) | (with_reducible refine Kd.C_alloc ?_ _) | (with_reducible refine Kd.C_drewN ?_ _) | (with_reducible refine Kd.C_drew ?_) | exact HR118.out)) | (with_reducible refine Kd.C_alloc ?_ _) | (with_reducible refine Kd.C_drewN ?_ _) | (with_reducible refine Kd.C_drew ?_)))
                  (case side2 => exact HC118.out)
                  rintro e w58 ⟨rfl, hb⟩
                  refine ⟨_, rfl, ?_⟩
                  have n0_ := Aside0.mk (Kd.R_below (by (with_reducible repeat (first | apply Kd.R_alloc | apply Kd.R_drewN | apply Kd.R_drew)); exact HO_5.out) hb)
                  have n1_ := Aside0.mk (Kd.R_below (by (with_reducible repeat (first | apply Kd.R_alloc | apply Kd.R_drewN | apply Kd.R_drew)); exact HO_7.out) hb)
                  have n2_ := Aside0.mk (Kd.C_below (by repeat (first | (with_reducible exact HR118.out) | (with_reducible refine Kd.C_alloc ?_ _) | (with_reducible refine Kd.C_drewN ?_ _) | (with_reducible refine Kd.C_drew ?_) | exact HR118.out)) hb)
                  have n3_ := Aside0.mk (below_step (by repeat (first | (with_reducible first | exact HB.out | apply below_alloc | apply pw_below_drewN | apply below_drew1) | exact HB.out)) hb)
                  clear HO_5
                  clear HO_7
                  clear HR118
                  clear HB
                  have HO_5 := n0_
                  have HO_7 := n1_
                  have HR118 := n2_
                  have HB := n3_
                  clear n0_ n1_ n2_ n3_
                  (try clear hb)
                  (try clear hb2)
                  (try clear hk)
                  (try clear hi)
                  refine hK.out _ _ trivial (fun hHeld => ?_)
                  clear hK K
                  refine norm_ (a' := ?_) ?_ ?_
                  rotate_left
                  ·
                   show Act.put _ (some 50) _ = _
                   simp only [Act.put, List.setIfInBounds_toArray, List.set_cons_zero, List.set_cons_succ, i64_w, i32_w]
                   rfl
                  refine pure_ (i := 4) (N := some 8) (v := ?_) (a' := ?_) #[true, true, true, true, true] rfl rfl (by kernel_rfl) (fun _ _ _ h => h) (Or.inl ⟨by rfl, ?_⟩) ?_ ?_
                  rotate_left
                  ·
                   intro w'
                   go_simp
                   with_reducible rfl
                  rotate_left
                  ·
                   simp only [Act.put, List.setIfInBounds_toArray, List.set_cons_zero, List.set_cons_succ, i64_w, i32_w]
                   rfl
                  refine done_ (by kernel_rfl) ?_
                  have q59 : ((ji35) : Int) ≤ ((y110.length : Int) : Int) := of_decide_eq_true (by first | (with_reducible assumption) | assumption)
                  obtain ⟨i059, hi059, _, hsz59, _⟩ := info_parts info5
                  have hroom59 : y110.length ≤ co19 := (Kd.R_reads' HO_7.out).2.1
                  have hC59 : Kd.C (Kd.int .u8) _ Ao19 y110.length y110 := (Kd.R_reads' HO_7.out).2.2
                  have hcut59 := cut_to (P := Try.prog) 28 5 .i64 Try.underlying28 hi059 Ao19 y110.length co19 (ji35) (of_decide_eq_true (by first | (with_reducible assumption) | assumption)) q59 hroom59
                  have hr59 := Kd.C_take (m := ((ji35) : Int).toNat) hC59 (by omega)
                  have hy59 : y120.length = ((ji35) : Int).toNat := (by rw [Ny120.out, List.length_take]; omega)
                  rw [← Ny120.out] at hr59
                  rw [← hy59] at hcut59
                  have HR123 := Aside0.mk hr59
                  have HC123 := Aside0.mk (show y120.length ≤ co19 from by omega)
                  clear hr59 hC59 hroom59 hi059 hsz59
                  have KY59 := Aside0.mk hy59
                  clear hy59
                  have KL59 := Aside0.mk (show ((ji35) : Int).toNat ≤ y110.length from by omega)
                  replace q59 := eq_true q59
                  have hcv60 := Kd.C_string (P := Try.prog) (A := Ao19) (c := co19) Try.underlying28 Try.underlying5 Try.underlying9 (by repeat (first | (with_reducible exact HR123.out) | (with_reducible refine Kd.C_alloc ?_ _) | (with_reducible refine Kd.C_drewN ?_ _) | (with_reducible refine Kd.C_drew ?_) | exact HR123.out))
                  try go_wp2
                  have n0_ := Aside0.mk (Kd.R_drew HO_5.out)
                  have n1_ := Aside0.mk (Kd.R_drew HO_7.out)
                  have n2_ := Aside0.mk (Kd.C_drew HR118.out)
                  have n3_ := Aside0.mk (Kd.C_drew HR123.out)
                  have n4_ := Aside0.mk (below_drew1 HB.out)
                  clear HO_5
                  clear HO_7
                  clear HR118
                  clear HR123
                  clear HB
                  have HO_5 := n0_
                  have HO_7 := n1_
                  have HR118 := n2_
                  have HR123 := n3_
                  have HB := n4_
                  clear n0_ n1_ n2_ n3_ n4_
                  have q62 : ((ji35) : Int) ≤ ((y110.length : Int) : Int) := of_decide_eq_true (by first | (with_reducible assumption) | assumption)
                  obtain ⟨i062, hi062, _, hsz62, _⟩ := info_parts info5
                  have hroom62 : y110.length ≤ co19 := (Kd.R_reads' HO_7.out).2.1
                  have hC62 : Kd.C (Kd.int .u8) _ Ao19 y110.length y110 := (Kd.R_reads' HO_7.out).2.2
                  have q062 : (0 : Int) ≤ ((ji35) : Int) := of_decide_eq_true (by first | (with_reducible assumption) | assumption)
                  have hcut62 := cut_from (P := Try.prog) 28 5 .i64 Try.underlying28 hi062 1 hsz62 Ao19 y110.length co19 (ji35) q062 q62
                  have hr62 := Kd.C_drop (m := ((ji35) : Int).toNat) (c := co19) hC62 (by omega) hroom62
                  obtain ⟨A62, hA62⟩ : ∃ A1, A1 = (if co19 = ((ji35) : Int).toNat then Ao19 else (Ao19 : Option Addr).map (·.add (((ji35) : Int).toNat * 1))) := ⟨_, rfl⟩
                  obtain ⟨c62, hc62⟩ : ∃ c1, c1 = co19 - ((ji35) : Int).toNat := ⟨_, rfl⟩
                  have hy62 : y124.length = y110.length - ((ji35) : Int).toNat := (by rw [Ny124.out, List.length_drop] <;> omega)
                  rw [show (y110).drop ((ji35) : Int).toNat = y124 from Ny124.out.symm] at hr62
                  replace hr62 : Kd.C (Kd.int .u8) _ A62 y124.length y124 := (by rw [hA62]; exact hr62)
                  rw [← hy62, ← hA62, ← hc62] at hcut62
                  have HR127 := Aside0.mk hr62
                  have HC127 := Aside0.mk (show y124.length ≤ c62 from by rw [hy62, hc62]; exact Nat.sub_le_sub_right hroom62 _)
                  clear hr62 hC62 hroom62 hi062 hsz62 hc62
                  have KY62 := Aside0.mk hy62
                  have KA62 := Aside0.mk hA62
                  clear hy62 hA62
                  have KL62 := Aside0.mk (show ((ji35) : Int).toNat ≤ y110.length from by omega)
                  replace q62 := eq_true q62
                  refine start_ (n := 8) (S := fun w' => True) (ds := []) #[ff,ff,ff,ff,ff,ff,ff,ff] (by kernel_rfl) rfl rfl trivial (fun hHeld => ?_); refine with_tabW impl_readFrames.tab19 impl_readFrames.bits19 (fun HT_ HW_ => ?_)
                  generalize w58.drew = w61 at HO_5 HO_7 HR118 HR123 HB HR127 hHeld ⊢
                  refine pure_ (i := 1) (N := some 70) (v := ?_) (a' := ?_) #[ff,tt,ff,ff,ff,ff,ff,ff] rfl rfl (any_of HT_.out (by kernel_rfl)) (fun _ _ _ h => h) (Or.inl ⟨by rfl, ?_⟩) ?_ ?_
                  rotate_left
                  ·
                   intro w'
                   go_simp
                   with_reducible rfl
                  rotate_left
                  ·
                   simp only [Act.put, List.setIfInBounds_toArray, List.set_cons_zero, List.set_cons_succ, i64_w, i32_w]
                   rfl
                  refine pure_ (i := 2) (N := some 71) (v := ?_) (a' := ?_) #[ff,tt,tt,ff,ff,ff,ff,ff] rfl rfl (any_of HT_.out (by kernel_rfl)) (fun _ _ _ h => h) (Or.inl ⟨by rfl, ?_⟩) ?_ ?_
                  rotate_left
                  ·
                   intro w'
                   go_simp
                   with_reducible rfl
                  rotate_left
                  ·
                   simp only [Act.put, List.setIfInBounds_toArray, List.set_cons_zero, List.set_cons_succ, i64_w, i32_w]
                   rfl
                  refine pure_ (i := 3) (N := some 72) (v := ?_) (a' := ?_) #[ff,tt,tt,tt,ff,ff,ff,ff] rfl rfl (any_of HT_.out (by kernel_rfl)) (fun _ _ _ h => h) (Or.inl ⟨by rfl, ?_⟩) ?_ ?_
                  rotate_left
                  ·
                   intro w'
                   go_simp
                   with_reducible rfl
                  rotate_left
                  ·
                   simp only [Act.put, List.setIfInBounds_toArray, List.set_cons_zero, List.set_cons_succ, i64_w, i32_w]
                   rfl
                  refine pure_ (i := 5) (N := some 74) (v := ?_) (a' := ?_) #[ff,tt,tt,tt,ff,tt,ff,ff] rfl rfl (any_of HT_.out (by kernel_rfl)) (fun _ _ _ h => h) (Or.inl ⟨by rfl, ?_⟩) ?_ ?_
                  rotate_left
                  ·
                   intro w'
                   go_simp
                   with_reducible rfl
                  rotate_left
                  ·
                   simp only [Act.put, List.setIfInBounds_toArray, List.set_cons_zero, List.set_cons_succ, i64_w, i32_w]
                   rfl
                  refine take_ (i := 0) (N := some 69) (v := ?_) (a' := ?_) #[tt,tt,tt,tt,ff,tt,ff,ff] rfl rfl (take_ofW HT_.out HW_.out (by kernel_rfl)) (fun _ _ _ h => h) (Or.inl ⟨by rfl, ?_⟩) hHeld ?_ ?_
                  rotate_left
                  ·
                   intro w' _
                   go_simp
                   with_reducible rfl
                  rotate_left
                  ·
                   simp only [Act.put, List.setIfInBounds_toArray, List.set_cons_zero, List.set_cons_succ, i64_w, i32_w]
                   rfl
                  refine one_ (i := 4) (N := some 73) #[tt,tt,tt,tt,tt,tt,ff,ff] rfl rfl (one_of HT_.out (by kernel_rfl)) (by decide) (fun K hK => ?_)
                  refine goes_ Try.func100 (by kernel_rfl) rfl #[.agg #[], .slice A62 y124.length c62] (by rfl) rfl rfl (by (try simp only [List.map_toArray, List.map_cons, List.map_nil]); first | done | rfl | (simp only [List.length_drop, List.length_take]; rfl)) ?_
                  with_reducible refine (binary_littleEndian_Uint32.calls  _ _ y124 t128 _ ?side1 ?side2 A40.out).mono ?_
                  (case side1 => repeat (first | exact (by repeat (first | (with_reducible exact HR127.out) | (with_reducible refine Kd.C_alloc ?_ _) | (with_reducible refine Kd.C_drewN ?_ _) | (with_reducible refine Kd.C_drew ?_) | exact HR127.out)) | (with_reducible refine Kd.C_alloc ?_ _) | (with_reducible refine Kd.C_drewN ?_ _) | (with_reducible refine Kd.C_drew ?_)))
                  (case side2 => exact HC127.out)
                  rintro e w63 ⟨rfl, hb⟩
                  refine ⟨_, rfl, ?_⟩
                  have n0_ := Aside0.mk (Kd.R_below (by (with_reducible repeat (first | apply Kd.R_alloc | apply Kd.R_drewN | apply Kd.R_drew)); exact HO_5.out) hb)
                  have n1_ := Aside0.mk (Kd.R_below (by (with_reducible repeat (first | apply Kd.R_alloc | apply Kd.R_drewN | apply Kd.R_drew)); exact HO_7.out) hb)
                  have n2_ := Aside0.mk (Kd.C_below (by repeat (first | (with_reducible exact HR118.out) | (with_reducible refine Kd.C_alloc ?_ _) | (with_reducible refine Kd.C_drewN ?_ _) | (with_reducible refine Kd.C_drew ?_) | exact HR118.out)) hb)
                  have n3_ := Aside0.mk (Kd.C_below (by repeat (first | (with_reducible exact HR123.out) | (with_reducible refine Kd.C_alloc ?_ _) | (with_reducible refine Kd.C_drewN ?_ _) | (with_reducible refine Kd.C_drew ?_) | exact HR123.out)) hb)
                  have n4_ := Aside0.mk (Kd.C_below (by repeat (first | (with_reducible exact HR127.out) | (with_reducible refine Kd.C_alloc ?_ _) | (with_reducible refine Kd.C_drewN ?_ _) | (with_reducible refine Kd.C_drew ?_) | exact HR127.out)) hb)
                  have n5_ := Aside0.mk (below_step (by repeat (first | (with_reducible first | exact HB.out | apply below_alloc | apply pw_below_drewN | apply below_drew1) | exact HB.out)) hb)
                  clear HO_5
                  clear HO_7
                  clear HR118
                  clear HR123
                  clear HR127
                  clear HB
                  have HO_5 := n0_
                  have HO_7 := n1_
                  have HR118 := n2_
                  have HR123 := n3_
                  have HR127 := n4_
                  have HB := n5_
                  clear n0_ n1_ n2_ n3_ n4_ n5_
                  (try clear hb)
                  (try clear hb2)
                  (try clear hk)
                  (try clear hi)
                  refine hK.out _ _ trivial (fun hHeld => ?_)
                  clear hK K
                  refine norm_ (a' := ?_) ?_ ?_
                  rotate_left
                  ·
                   show Act.put _ (some 73) _ = _
                   simp only [Act.put, List.setIfInBounds_toArray, List.set_cons_zero, List.set_cons_succ, i64_w, i32_w]
                   rfl
                  refine one_ (i := 6) (N := some 75) #[tt,tt,tt,tt,tt,tt,tt,ff] rfl rfl (one_of HT_.out (by kernel_rfl)) (by decide) (fun K hK => ?_)
                  refine goes_ Try.func101 (by kernel_rfl) rfl #[.string (strOfNums y120)] (by rfl) rfl rfl (by (try simp only [List.map_toArray, List.map_cons, List.map_nil]); first | done | rfl | (simp only [List.length_drop, List.length_take]; rfl)) ?_
                  with_reducible refine (impl_crc.calls kj15 (strOfNums y120) t129 _ A41.out).mono ?_
                  rintro e w' ⟨rfl, ⟨nd, rfl⟩⟩
                  refine ⟨_, rfl, ?_⟩
                  refine hK.out _ _ trivial (fun hHeld => ?_)
                  clear hK K
                  refine norm_ (a' := ?_) ?_ ?_
                  rotate_left
                  ·
                   show Act.put _ (some 75) _ = _
                   simp only [Act.put, List.setIfInBounds_toArray, List.set_cons_zero, List.set_cons_succ, i64_w, i32_w]
                   rfl
                  refine pure_ (i := 7) (N := some 76) (v := ?_) (a' := ?_) #[tt,tt,tt,tt,tt,tt,tt,tt] rfl rfl (any_of HT_.out (by kernel_rfl)) (fun _ _ _ h => h) (Or.inl ⟨by rfl, ?_⟩) ?_ ?_
                  rotate_left
                  ·
                   intro w'
                   go_simp
                   with_reducible rfl
                  rotate_left
                  ·
                   simp only [Act.put, List.setIfInBounds_toArray, List.set_cons_zero, List.set_cons_succ, i64_w, i32_w]
                   rfl
                  refine done_ (done_of HT_.out (by kernel_rfl)) ?_
                  try go_wp2
                  go_ret3
                  exact ⟨_, by first | rfl | (simp [errW_none, errW_some] <;> rfl) | (simp only [← hji35]; first | rfl | (simp [errW_none, errW_some] <;> rfl)) | (simp [*, errW_none, errW_some] <;> rfl), by (with_reducible repeat (first | apply Kd.R_alloc | apply Kd.R_drewN | apply Kd.R_drew)); exact HO_5.out, by repeat (first | (with_reducible first | exact HB.out | apply below_alloc | apply pw_below_drewN | apply below_drew1) | exact HB.out)⟩
                ·
                 rw [if_neg c37] at H
                 exact absurd H (by simp)
               ·
                rw [if_neg c36] at H
                exact absurd H (by simp)
            ·
             rw [if_neg c25] at H
             exact absurd H (by simp)
     ·
      rw [if_neg c6] at H
      exact absurd H (by simp)
    ·
     rw [if_neg c5] at H
     exact absurd H (by simp)
   ·
    rw [if_neg c4] at H
    exact absurd H (by simp)

end Go.Proofs.Ytjcejdajbapliaa.QFnBitFound
