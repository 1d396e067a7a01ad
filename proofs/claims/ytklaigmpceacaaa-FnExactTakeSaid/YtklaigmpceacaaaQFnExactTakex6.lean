/- Written by wip/myprint.py of this repo (the kit's print, with additions of this session). -/
import Derived.Test.YtklaigmpceacaaaQFnExactTakex0
import Derived.Test.YtklaigmpceacaaaQFnExactTakex5
set_option maxRecDepth 100000
namespace Go.Proofs.Ytklaigmpceacaaa.QFnExactTake
open Go.RowKit Go.Proofs.YtklaigmpceacaaaW.PrintWords Go.Proofs.YtklaigmpceacaaaW.PrintLast Go.Proofs.YtklaigmpceacaaaW.PrintMore
attribute [local go_sem] max2_int min2_int max_two min_two max_three min_three max_four min_four   -- for this text's walks alone
set_option linter.unusedVariables false
set_option linter.unusedSimpArgs false

/-! ### impl_isNet: function 42 -/
mutual
def impl_isNet.j0 : Nat → Bool → Int → List (S39) → Option (Bool)
 | 0, _, _, _ => none
 | k + 1, x14, x174000, x174001 => if x14 = true then (some false) else (impl_isNet.l0 k x174001 (x174001.length : Int) 0 x174000 x174001)
def impl_isNet.l0 : Nat → List (S39) → Int → Int → Int → List (S39) → Option (Bool)
 | 0, _, _, _, _, _ => none
 | k + 1, x16, x17, x18, x174000, x174001 => if x18 < x17 then (if 0 ≤ x18 then (if x18 < (x16.length : Int) then ((impl_in.f ((rd_T39 x16 x18).f0) 1 (wrap64 (x174000 - 1))).bind fun t177 => (if t177 = true then (if x18 > 0 then (if 0 ≤ (wrap64 (x18 - 1)) then (if (wrap64 (x18 - 1)) < (x174001.length : Int) then (if ((rd_T39 x174001 (wrap64 (x18 - 1))).f0) ≥ ((rd_T39 x16 x18).f0) then (impl_isNet.j2 k x16 x17 x18 true x174000 x174001) else ((impl_isNodeId.f ((rd_T39 x16 x18).f1)).bind fun t179 => (if t179 = true then ((impl_isNodeId.f ((rd_T39 x16 x18).f2)).bind fun t180 => (if t180 = true then (impl_isNet.j2 k x16 x17 x18 (decide ((((rd_T39 x16 x18).f3).size : Int) > 20000)) x174000 x174001) else (impl_isNet.j2 k x16 x17 x18 true x174000 x174001))) else (impl_isNet.j2 k x16 x17 x18 true x174000 x174001)))) else (none)) else (none)) else ((impl_isNodeId.f ((rd_T39 x16 x18).f1)).bind fun t181 => (if t181 = true then ((impl_isNodeId.f ((rd_T39 x16 x18).f2)).bind fun t182 => (if t182 = true then (impl_isNet.j2 k x16 x17 x18 (decide ((((rd_T39 x16 x18).f3).size : Int) > 20000)) x174000 x174001) else (impl_isNet.j2 k x16 x17 x18 true x174000 x174001))) else (impl_isNet.j2 k x16 x17 x18 true x174000 x174001)))) else (impl_isNet.j2 k x16 x17 x18 true x174000 x174001))) else (none)) else (none)) else (some true)
def impl_isNet.j2 : Nat → List (S39) → Int → Int → Bool → Int → List (S39) → Option (Bool)
 | 0, _, _, _, _, _, _ => none
 | k + 1, x16, x17, x18, x63, x174000, x174001 => if x63 = true then (some false) else (impl_isNet.l0 k x16 x17 (wrap64 (x18 + 1)) x174000 x174001)
end
def impl_isNet.f (k : Nat) (a0_0 : Int) (l0_1 : List (S39)) : Option (Bool) := (impl_in.f a0_0 1 1000000000000).bind fun t174 => (if t174 = true then (impl_isNet.j0 k (decide ((l0_1.length : Int) > 300)) a0_0 l0_1) else (impl_isNet.j0 k true a0_0 l0_1))
theorem impl_isNet.mono_l : ∀ k, (∀ y0 y1 y2, LeO (impl_isNet.j0 k y0 y1 y2) (impl_isNet.j0 (k + 1) y0 y1 y2)) ∧ (∀ y0 y1 y2 y3 y4, LeO (impl_isNet.l0 k y0 y1 y2 y3 y4) (impl_isNet.l0 (k + 1) y0 y1 y2 y3 y4)) ∧ (∀ y0 y1 y2 y3 y4 y5, LeO (impl_isNet.j2 k y0 y1 y2 y3 y4 y5) (impl_isNet.j2 (k + 1) y0 y1 y2 y3 y4 y5))
 | 0 => ⟨fun _ _ _ r h => by simp [impl_isNet.j0] at h, fun _ _ _ _ _ r h => by simp [impl_isNet.l0] at h, fun _ _ _ _ _ _ r h => by simp [impl_isNet.j2] at h⟩
 | k + 1 => by
  obtain ⟨ih0, ih1, ih2⟩ := impl_isNet.mono_l k
  refine ⟨?_, ?_, ?_⟩
  ·
   intro y0 y1 y2
   unfold impl_isNet.j0
   repeat' first
   | (with_reducible exact ih0 _ _ _)
   | (with_reducible exact ih1 _ _ _ _ _)
   | (with_reducible exact ih2 _ _ _ _ _ _)
   | (with_reducible exact LeO.refl _)
   | (with_reducible exact LeO.none _)
   | (with_reducible refine LeO.ite ?_ ?_)
   | (with_reducible refine LeO.bind ?_ (fun _ => ?_))
   | exact LeO.none _
   | refine LeO.ite ?_ ?_
   | refine LeO.bind ?_ (fun _ => ?_)
  ·
   intro y0 y1 y2 y3 y4
   unfold impl_isNet.l0
   repeat' first
   | (with_reducible exact ih0 _ _ _)
   | (with_reducible exact ih1 _ _ _ _ _)
   | (with_reducible exact ih2 _ _ _ _ _ _)
   | (with_reducible exact LeO.refl _)
   | (with_reducible exact LeO.none _)
   | (with_reducible refine LeO.ite ?_ ?_)
   | (with_reducible refine LeO.bind ?_ (fun _ => ?_))
   | exact LeO.none _
   | refine LeO.ite ?_ ?_
   | refine LeO.bind ?_ (fun _ => ?_)
  intro y0 y1 y2 y3 y4 y5
  unfold impl_isNet.j2
  repeat' first
  | (with_reducible exact ih0 _ _ _)
  | (with_reducible exact ih1 _ _ _ _ _)
  | (with_reducible exact ih2 _ _ _ _ _ _)
  | (with_reducible exact LeO.refl _)
  | (with_reducible exact LeO.none _)
  | (with_reducible refine LeO.ite ?_ ?_)
  | (with_reducible refine LeO.bind ?_ (fun _ => ?_))
  | exact LeO.none _
  | refine LeO.ite ?_ ?_
  | refine LeO.bind ?_ (fun _ => ?_)
theorem impl_isNet.mono : ∀ a0 a1 k, LeO (impl_isNet.f k a0 a1) (impl_isNet.f (k + 1) a0 a1) := by
 intro a0 a1 k
 obtain ⟨ih0, ih1, ih2⟩ := impl_isNet.mono_l k
 unfold impl_isNet.f
 repeat' first
   | (with_reducible exact ih0 _ _ _)
   | (with_reducible exact ih1 _ _ _ _ _)
   | (with_reducible exact ih2 _ _ _ _ _ _)
   | (with_reducible exact LeO.refl _)
   | (with_reducible exact LeO.none _)
   | (with_reducible refine LeO.ite ?_ ?_)
   | (with_reducible refine LeO.bind ?_ (fun _ => ?_))
   | exact LeO.none _
   | refine LeO.ite ?_ ?_
   | refine LeO.bind ?_ (fun _ => ?_)
def impl_isNet.T6 : Bool × List (List Nat × List Nat) := (true, [([], []), ([0], [0]), ([], []), ([2], [2]), ([3], [3]), ([1, 4], [1, 4]), ([5], [5]), ([6, 5], [6]), ([7], [7]), ([8, 7], [7, 8]), ([9, 7, 7], [7, 9]), ([10], [10]), ([11, 10], [10, 11]), ([10], [10]), ([13, 10], [10, 13]), ([12, 14, 10], [10, 12, 14]), ([15, 10], [10, 15]), ([16, 10], [10, 16]), ([10], [10]), ([18, 10], [10, 18]), ([17, 19, 10], [10, 17, 19]), ([10, 20, 7], [7, 10, 20]), ([7, 21], [7, 21]), ([22, 10], [22]), ([23], [23]), ([24, 23], [23, 24]), ([25, 23, 23], [23, 25]), ([26, 23], [23, 26]), ([23, 27], [23, 27]), ([28, 26], [28]), ([29], [29]), ([30, 29], [29, 30]), ([31, 29, 29], [29, 31]), ([32, 29], [29, 32]), ([29, 33], [29, 33]), ([34, 32], [34]), ([35], [35]), ([36, 35], [35, 36]), ([37, 35], [35, 37]), ([38, 35], [35, 38]), ([35, 39], [35, 39])])
def impl_isNet.B6 : List Nat := [0, 1, 0, 4, 12, 31, 63, 127, 255, 511, 1023, 2047, 4095, 2047, 10239, 32767, 65535, 131071, 2047, 264191, 1048575, 2097151, 4194303, 8388607, 16777215, 33554431, 67108863, 134217727, 268435455, 536870911, 1073741823, 2147483647, 4294967295, 8589934591, 17179869183, 34359738367, 68719476735, 137438953471, 274877906943, 549755813887, 1099511627775]
theorem impl_isNet.tab6 : rtab .any (opsOf Try.f42 6) = impl_isNet.T6 := by kernel_rfl
theorem impl_isNet.bits6 : waitsOk impl_isNet.T6.2 impl_isNet.B6 = true := by kernel_rfl
set_option maxHeartbeats 8000000 in
set_option maxRecDepth 100000 in
theorem impl_isNet.calls (k : Nat) (a0_0 : Int) (A0_1 : Option Addr) (c0_1 : Nat) (l0_1 : List (S39)) (r : Bool) (w : World) (hr0_1 : Kd.C k39 w A0_1 l0_1.length l0_1) (hc0_1 : l0_1.length ≤ c0_1) (h : impl_isNet.f k a0_0 l0_1 = some r) :
  Calls Try.prog 42 #[.agg #[.int .i64 a0_0, .slice A0_1 l0_1.length c0_1]] w fun e w' => e = .returned (.bool r) ∧ Below w.heap.size w w' := by
 have hu37 := Try.underlying37
 have hu39 := Try.underlying39
 have HR0_1 := Aside0.mk hr0_1
 have HC0_1 := Aside0.mk hc0_1
 clear hr0_1 hc0_1
 have HB := Aside0.mk (Below.refl w.heap.size w)
 have H : ((impl_in.f a0_0 1 1000000000000).bind fun t174 => (if t174 = true then (impl_isNet.j0 k (decide ((l0_1.length : Int) > 300)) a0_0 l0_1) else (impl_isNet.j0 k true a0_0 l0_1))) = some r := h
 clear h
 have HC2 := Aside0.mk H
 clear H
 go_enter Try.func42, Try.ntmps42
 go_upto_region 1 with (first | ((with_reducible refine gate_dst (N := 1) rfl ?_); (try (refine gate_guard (by rfl) ?_; dsimp only)); refine box_event ?hg (N := 1) ?hd (cs := #[.int .i64 a0_0, .slice A0_1 l0_1.length c0_1]) (t := 37) ?hr ?_; (case hd => rfl); (case hg => rfl); (case hr => exact zq1); intro gb173 hg w3 hbox hb; have BK173 := Aside0.mk hbox; have GW173 := Aside0.mk (zq205 : w.heap.size ≤ gb173); have GE173 := Aside0.mk (zq205 : w.heap.size ≤ gb173); replace HB := sB zq2 hb; clear hb hbox hg))
 (try simp only [Act.put, List.setIfInBounds_toArray, List.set_cons_zero, List.set_cons_succ])
 go_cut [14] (fun v14 wc => ∃ (kq : Nat) (x14_1 : Bool), v14 = .bool x14_1 ∧ Aside0 (impl_isNet.j0 kq x14_1 a0_0 l0_1 = some r) ∧ Aside0 (kq ≤ k) ∧ Aside0 (wc.heap[gb173]? = some (.cells #[.int .i64 a0_0, (.slice A0_1 l0_1.length c0_1)] 37 (0, 0))) ∧ Aside0 (Below w.heap.size w wc))
 case first =>
  have H := HC2.out
  clear HC2
  replace H := Option.bind_eq_some_iff.mp H
  obtain ⟨t174, A40, H⟩ := H
  try dsimp only at H
  have A4 := Aside0.mk A40
  clear A40
  by_cases c5 : t174 = true
  ·
   subst c5
   have H1 : (impl_isNet.j0 k (decide ((l0_1.length : Int) > 300)) a0_0 l0_1) = some r := by rw [if_pos rfl] at H; exact H
   clear H
   have H := H1
   clear H1
   have H' := Aside0.mk H
   clear H
   obtain ⟨hcz6_0, hcz6_1, hfz6_0, hfz6_1⟩ := c2 (w := w3) BK173
   go_wp2_with (first | ((with_reducible refine gC 65 rfl ?_); refine gL 7 Try.func65 #[.int .i64 a0_0, .int .i64 1, .int .i64 1000000000000] ?_; (with_reducible refine (impl_in.calls a0_0 1 1000000000000 true _ A4.out).mono ?_); rintro e w' ⟨rfl, ⟨nd, rfl⟩⟩; refine ⟨_, rfl, ?_⟩))
   go_meet
   case rel => exact ⟨_, (decide ((l0_1.length : Int) > 300)), zq5, H', ⟨zq49⟩, ⟨zq155⟩, ⟨zq156⟩⟩
  replace c5 := Bool.eq_false_iff.mpr c5
  subst c5
  have H1 : (impl_isNet.j0 k true a0_0 l0_1) = some r := by rw [if_neg (show ¬ (false = true) by decide)] at H; exact H
  clear H
  have H := H1
  clear H1
  have H' := Aside0.mk H
  clear H
  obtain ⟨hcz7_0, hcz7_1, hfz7_0, hfz7_1⟩ := c2 (w := w3) BK173
  go_wp2_with (first | ((with_reducible refine gC 65 rfl ?_); refine gL 7 Try.func65 #[.int .i64 a0_0, .int .i64 1, .int .i64 1000000000000] ?_; (with_reducible refine (impl_in.calls a0_0 1 1000000000000 false _ A4.out).mono ?_); rintro e w' ⟨rfl, ⟨nd, rfl⟩⟩; refine ⟨_, rfl, ?_⟩))
  go_meet
  case rel => exact ⟨_, (true), zq5, H', ⟨zq49⟩, ⟨zq155⟩, ⟨zq156⟩⟩
 case rest =>
  clear HC2
  try clear p2
  try clear c4
  try clear c5
  try clear c6
  try clear hcz6_0
  try clear hcz6_1
  try clear hcz7_0
  try clear hcz7_1
  try clear hfz6_0
  try clear hfz6_1
  try clear hfz7_0
  try clear hfz7_1
  obtain ⟨kq, x14_1, rfl, HA, HJ1, BK173, HB⟩ := hcut
  cases kq with
  | zero => exact absurd HA.out (by simp [impl_isNet.j0])
  | succ kj1 =>
   have H := HA.out
   clear HA
   simp only [impl_isNet.j0] at H
   by_cases c8 : x14_1 = true
   ·
    subst c8
    have H1 : (some false) = some r := by rw [if_pos rfl] at H; exact H
    clear H
    have H := H1
    clear H1
    obtain rfl := Option.some.inj H
    go_wp2
    go_ret
    exact ⟨zq3, zq156⟩
   replace c8 := Bool.eq_false_iff.mpr c8
   subst c8
   have H1 : (impl_isNet.l0 kj1 l0_1 (l0_1.length : Int) 0 a0_0 l0_1) = some r := by rw [if_neg (show ¬ (false = true) by decide)] at H; exact H
   clear H
   have H := H1
   clear H1
   have H' := Aside0.mk H
   clear H
   obtain ⟨hcz9_0, hcz9_1, hfz9_0, hfz9_1⟩ := c2 (w := wc) BK173
   go_wp2
   go_loopg [18] kj1 (fun kq v18 w' => ∃ (x18_2 : Int), v18 = .int .i64 x18_2 ∧ Aside0 (impl_isNet.l0 kq l0_1 (l0_1.length : Int) x18_2 a0_0 l0_1 = some r) ∧ Aside0 (kq ≤ kj1) ∧ Aside0 (w'.heap[gb173]? = some (.cells #[.int .i64 a0_0, (.slice A0_1 l0_1.length c0_1)] 37 (0, 0))) ∧ Aside0 (Below w.heap.size w w'))
   case atStart => exact ⟨(0), zq5, H', ⟨Nat.le_refl _⟩, ⟨zq155⟩, ⟨zq156⟩⟩
   case round =>
    clear H'
    try clear p2
    try clear c4
    try clear c5
    try clear c6
    try clear c8
    try clear hcz6_0
    try clear hcz6_1
    try clear hcz7_0
    try clear hcz7_1
    try clear hcz9_0
    try clear hcz9_1
    try clear hfz6_0
    try clear hfz6_1
    try clear hfz7_0
    try clear hfz7_1
    try clear hfz9_0
    try clear hfz9_1
    try clear p2
    obtain ⟨x18_2, rfl, HA, HK2, BK173, HB⟩ := hrel
    cases gk with
    | zero => exact absurd HA.out (by simp [impl_isNet.l0])
    | succ k2 =>
     have H := HA.out
     clear HA
     simp only [impl_isNet.l0] at H
     by_cases c10 : x18_2 < (l0_1.length : Int)
     ·
      rw [if_pos c10] at H
      have c10b0 := decide_eq_true c10
      clear c10
      by_cases c11 : 0 ≤ x18_2
      ·
       rw [if_pos c11] at H
       have c11b0 := decide_eq_true c11
       clear c11
       by_cases c12 : x18_2 < (l0_1.length : Int)
       ·
        rw [if_pos c12] at H
        have c12b0 := decide_eq_true c12
        clear c12
        have HC13 := Aside0.mk H
        clear H
        have p175 : 0 ≤ (x18_2 : Int) := of_decide_eq_true zq6
        have q175 : x18_2 < (l0_1.length : Int) := of_decide_eq_true zq6
        obtain ⟨ad175, e175, hx175_0, hx175_1, hx175_2, hx175_3⟩ := at_T39 HR0_1.out x18_2 p175 q175
        cases e175
        replace hx175_0 := (HB.out.cell (World.block_lt_of_cell? w _ hx175_0)).trans hx175_0
        replace hx175_1 := (HB.out.cell (World.block_lt_of_cell? w _ hx175_1)).trans hx175_1
        replace hx175_2 := (HB.out.cell (World.block_lt_of_cell? w _ hx175_2)).trans hx175_2
        replace hx175_3 := (HB.out.cell (World.block_lt_of_cell? w _ hx175_3)).trans hx175_3
        replace p175 := eq_true p175
        replace q175 := eq_true q175
        go_upto_region 6 with (first | ((with_reducible refine gate_dst (N := 4) rfl ?_); (try (refine gate_guard (by rfl) ?_; dsimp only)); refine box_event ?hg (N := 4) ?hd (cs := #[.int .i64 0, .int .i64 0, .int .i64 0, .string (⟨#[]⟩ : ByteArray)]) (t := 39) ?hr ?_; (case hd => rfl); (case hg => rfl); (case hr => exact zq1); intro gb176 hg w14 hbox hb; have BK176 := Aside0.mk hbox; have GW176 := Aside0.mk (by rw [hg]; exact (below_size zq156) : w.heap.size ≤ gb176); have GE176 := Aside0.mk (by rw [hg]; exact (below_size zq156) : w.heap.size ≤ gb176); replace HB := sB zq156 hb; have NB173_176 := Aside0.mk (by rw [hg]; exact Nat.ne_of_lt (blk_lt (g := gb173) (o := .cells #[.int .i64 a0_0, .slice (some ad175) l0_1.length c0_1] 37 (0, 0)) zq155) : gb173 ≠ gb176); have NB176_173 := Aside0.mk (by rw [hg]; exact Nat.ne_of_gt (blk_lt (g := gb173) (o := .cells #[.int .i64 a0_0, .slice (some ad175) l0_1.length c0_1] 37 (0, 0)) zq155) : gb176 ≠ gb173); replace BK173 := bF BK173 zq155 hb; clear hb hbox hg; have hnb15 := NB176_173.out; have hnc15 := NB173_176.out; obtain ⟨hcz16_0, hcz16_1, hcz16_2, hcz16_3, hfz16_0, hfz16_1, hfz16_2, hfz16_3⟩ := c4 (w := w14) BK176))
        (try simp only [Act.put, List.setIfInBounds_toArray, List.set_cons_zero, List.set_cons_succ])
        go_cut [63] (fun v63 wc => ∃ (kq : Nat) (x63_12 : Bool), v63 = .bool x63_12 ∧ Aside0 (impl_isNet.j2 kq l0_1 (l0_1.length : Int) x18_2 x63_12 a0_0 l0_1 = some r) ∧ Aside0 (kq ≤ k2) ∧ Aside0 (wc.heap[gb173]? = some (.cells #[.int .i64 a0_0, (.slice (some ad175) l0_1.length c0_1)] 37 (0, 0))) ∧ Aside0 (wc.heap[gb176]? = some (.cells #[.int .i64 ((rd_T39 l0_1 x18_2).f0), .int .i64 ((rd_T39 l0_1 x18_2).f1), .int .i64 ((rd_T39 l0_1 x18_2).f2), .string ((rd_T39 l0_1 x18_2).f3)] 39 (0, 0))) ∧ Aside0 (Below w.heap.size w wc))
        case first =>
         have H := HC13.out
         clear HC13
         replace H := Option.bind_eq_some_iff.mp H
         obtain ⟨t177, A170, H⟩ := H
         try dsimp only at H
         have A17 := Aside0.mk A170
         clear A170
         by_cases c18 : t177 = true
         ·
          subst c18
          have H1 : (if x18_2 > 0 then (if 0 ≤ (wrap64 (x18_2 - 1)) then (if (wrap64 (x18_2 - 1)) < (l0_1.length : Int) then (if ((rd_T39 l0_1 (wrap64 (x18_2 - 1))).f0) ≥ ((rd_T39 l0_1 x18_2).f0) then (impl_isNet.j2 k2 l0_1 (l0_1.length : Int) x18_2 true a0_0 l0_1) else ((impl_isNodeId.f ((rd_T39 l0_1 x18_2).f1)).bind fun t179 => (if t179 = true then ((impl_isNodeId.f ((rd_T39 l0_1 x18_2).f2)).bind fun t180 => (if t180 = true then (impl_isNet.j2 k2 l0_1 (l0_1.length : Int) x18_2 (decide ((((rd_T39 l0_1 x18_2).f3).size : Int) > 20000)) a0_0 l0_1) else (impl_isNet.j2 k2 l0_1 (l0_1.length : Int) x18_2 true a0_0 l0_1))) else (impl_isNet.j2 k2 l0_1 (l0_1.length : Int) x18_2 true a0_0 l0_1)))) else (none)) else (none)) else ((impl_isNodeId.f ((rd_T39 l0_1 x18_2).f1)).bind fun t181 => (if t181 = true then ((impl_isNodeId.f ((rd_T39 l0_1 x18_2).f2)).bind fun t182 => (if t182 = true then (impl_isNet.j2 k2 l0_1 (l0_1.length : Int) x18_2 (decide ((((rd_T39 l0_1 x18_2).f3).size : Int) > 20000)) a0_0 l0_1) else (impl_isNet.j2 k2 l0_1 (l0_1.length : Int) x18_2 true a0_0 l0_1))) else (impl_isNet.j2 k2 l0_1 (l0_1.length : Int) x18_2 true a0_0 l0_1)))) = some r := by rw [if_pos rfl] at H; exact H
          clear H
          have H := H1
          clear H1
          by_cases c19 : x18_2 > 0
          ·
           rw [if_pos c19] at H
           have c19b0 : decide (0 < x18_2) = true := decide_eq_true c19
           clear c19
           (first | rw [c19b0] | (simp only [i64_w, i32_w]; rw [c19b0]) | skip)
           obtain ⟨ji20, hji20⟩ : ∃ j_ : Int, (wrap64 (x18_2 - 1)) = j_ := ⟨_, rfl⟩
           replace H : (if 0 ≤ (ji20) then (if (ji20) < (l0_1.length : Int) then (if ((rd_T39 l0_1 (ji20)).f0) ≥ ((rd_T39 l0_1 x18_2).f0) then (impl_isNet.j2 k2 l0_1 (l0_1.length : Int) x18_2 true a0_0 l0_1) else ((impl_isNodeId.f ((rd_T39 l0_1 x18_2).f1)).bind fun t179 => (if t179 = true then ((impl_isNodeId.f ((rd_T39 l0_1 x18_2).f2)).bind fun t180 => (if t180 = true then (impl_isNet.j2 k2 l0_1 (l0_1.length : Int) x18_2 (decide ((((rd_T39 l0_1 x18_2).f3).size : Int) > 20000)) a0_0 l0_1) else (impl_isNet.j2 k2 l0_1 (l0_1.length : Int) x18_2 true a0_0 l0_1))) else (impl_isNet.j2 k2 l0_1 (l0_1.length : Int) x18_2 true a0_0 l0_1)))) else (none)) else (none)) = some r := by first | (rw [hji20] at H; exact H) | (simp only [hji20] at H ⊢; exact H)
           (try rw [hji20] at A17)
           have hji20w : (IntKind.i64.wrap (x18_2 - 1)) = ji20 := (i64_w _).trans hji20
           by_cases c21 : 0 ≤ (ji20)
           ·
            rw [if_pos c21] at H
            have c21b0 := decide_eq_true c21
            clear c21
            by_cases c22 : (ji20) < (l0_1.length : Int)
            ·
             rw [if_pos c22] at H
             have c22b0 := decide_eq_true c22
             clear c22
             by_cases c23 : ((rd_T39 l0_1 (ji20)).f0) ≥ ((rd_T39 l0_1 x18_2).f0)
             ·
              rw [if_pos c23] at H
              have c23b0 : decide (((rd_T39 l0_1 x18_2).f0) ≤ ((rd_T39 l0_1 (ji20)).f0)) = true := decide_eq_true c23
              clear c23
              have H' := Aside0.mk H
              clear H
              try go_wp2
              have n0_ : Aside0 (((((w14.setCell ⟨gb176, 0, none⟩ (.int .i64 ((rd_T39 l0_1 x18_2).f0))).setCell ⟨gb176, 1, none⟩ (.int .i64 ((rd_T39 l0_1 x18_2).f1))).setCell ⟨gb176, 2, none⟩ (.int .i64 ((rd_T39 l0_1 x18_2).f2))).setCell ⟨gb176, 3, none⟩ (.string ((rd_T39 l0_1 x18_2).f3))).heap[gb173]? = some (.cells #[.int .i64 a0_0, .slice (some ad175) l0_1.length c0_1] 37 (0, 0))) := ⟨zq157⟩
              have n1_ : Aside0 (((((w14.setCell ⟨gb176, 0, none⟩ (.int .i64 ((rd_T39 l0_1 x18_2).f0))).setCell ⟨gb176, 1, none⟩ (.int .i64 ((rd_T39 l0_1 x18_2).f1))).setCell ⟨gb176, 2, none⟩ (.int .i64 ((rd_T39 l0_1 x18_2).f2))).setCell ⟨gb176, 3, none⟩ (.string ((rd_T39 l0_1 x18_2).f3))).heap[gb176]? = some (.cells #[.int .i64 ((rd_T39 l0_1 x18_2).f0), .int .i64 ((rd_T39 l0_1 x18_2).f1), .int .i64 ((rd_T39 l0_1 x18_2).f2), .string ((rd_T39 l0_1 x18_2).f3)] 39 (0, 0))) := ⟨zq158⟩
              have n2_ : Aside0 (Below w.heap.size w ((((w14.setCell ⟨gb176, 0, none⟩ (.int .i64 ((rd_T39 l0_1 x18_2).f0))).setCell ⟨gb176, 1, none⟩ (.int .i64 ((rd_T39 l0_1 x18_2).f1))).setCell ⟨gb176, 2, none⟩ (.int .i64 ((rd_T39 l0_1 x18_2).f2))).setCell ⟨gb176, 3, none⟩ (.string ((rd_T39 l0_1 x18_2).f3)))) := ⟨zq159⟩
              (try clear BK173)
              (try clear BK176)
              (try clear HB)
              generalize ((((w14.setCell ⟨gb176, 0, none⟩ (.int .i64 ((rd_T39 l0_1 x18_2).f0))).setCell ⟨gb176, 1, none⟩ (.int .i64 ((rd_T39 l0_1 x18_2).f1))).setCell ⟨gb176, 2, none⟩ (.int .i64 ((rd_T39 l0_1 x18_2).f2))).setCell ⟨gb176, 3, none⟩ (.string ((rd_T39 l0_1 x18_2).f3))) = w24 at n0_ n1_ n2_ ⊢
              have BK173 := n0_
              have BK176 := n1_
              have HB := n2_
              clear n0_ n1_ n2_
              replace BK173 := Aside0.mk (blk_drew BK173.out)
              replace BK176 := Aside0.mk (blk_drew BK176.out)
              replace HB := Aside0.mk (below_drew1 HB.out)
              have p178 : 0 ≤ ((ji20) : Int) := of_decide_eq_true zq6
              have q178 : (ji20) < (l0_1.length : Int) := of_decide_eq_true zq6
              obtain ⟨ad178, e178, hx178_0, hx178_1, hx178_2, hx178_3⟩ := at_T39 HR0_1.out (ji20) p178 q178
              have hw178_3 := hx178_3
              have hw178_2 := hx178_2
              have hw178_1 := hx178_1
              have hw178_0 := hx178_0
              obtain rfl : ad175 = ad178 := (by injection e178)
              replace hx178_0 := (HB.out.cell (World.block_lt_of_cell? w _ hx178_0)).trans hx178_0
              replace hx178_1 := (HB.out.cell (World.block_lt_of_cell? w _ hx178_1)).trans hx178_1
              replace hx178_2 := (HB.out.cell (World.block_lt_of_cell? w _ hx178_2)).trans hx178_2
              replace hx178_3 := (HB.out.cell (World.block_lt_of_cell? w _ hx178_3)).trans hx178_3
              replace p178 := eq_true p178
              replace q178 := eq_true q178
              refine start_ (n := 41) (S := fun w' => w'.cell? ⟨gb176, 0, none⟩ = some (.int .i64 ((rd_T39 l0_1 x18_2).f0)) ∧ w'.cell? ⟨gb176, 1, none⟩ = some (.int .i64 ((rd_T39 l0_1 x18_2).f1)) ∧ w'.cell? ⟨gb176, 2, none⟩ = some (.int .i64 ((rd_T39 l0_1 x18_2).f2)) ∧ w'.cell? ⟨gb176, 3, none⟩ = some (.string ((rd_T39 l0_1 x18_2).f3)) ∧ w'.cell? ⟨gb173, 0, none⟩ = some (.int .i64 a0_0) ∧ w'.cell? ⟨gb173, 1, none⟩ = some (.slice (some ad175) l0_1.length c0_1) ∧ w'.cell? (ad175.add (((ji20)).toNat * 4)) = some (.int .i64 ((rd_T39 l0_1 (ji20)).f0)) ∧ w'.cell? ⟨(ad175.add (((ji20)).toNat * 4)).block, (ad175.add (((ji20)).toNat * 4)).off + 1, none⟩ = some (.int .i64 ((rd_T39 l0_1 (ji20)).f1)) ∧ w'.cell? ⟨(ad175.add (((ji20)).toNat * 4)).block, (ad175.add (((ji20)).toNat * 4)).off + 2, none⟩ = some (.int .i64 ((rd_T39 l0_1 (ji20)).f2)) ∧ w'.cell? ⟨(ad175.add (((ji20)).toNat * 4)).block, (ad175.add (((ji20)).toNat * 4)).off + 3, none⟩ = some (.string ((rd_T39 l0_1 (ji20)).f3))) (ds := []) (bA 41 0) (by kernel_rfl) rfl rfl ⟨(blk_cell BK176.out 0).trans rfl, (blk_cell BK176.out 1).trans rfl, (blk_cell BK176.out 2).trans rfl, (blk_cell BK176.out 3).trans rfl, (blk_cell BK173.out 0).trans rfl, (blk_cell BK173.out 1).trans rfl, ((HB.out.cell (World.block_lt_of_cell? w _ hw178_0)).trans hw178_0), ((HB.out.cell (World.block_lt_of_cell? w _ hw178_1)).trans hw178_1), ((HB.out.cell (World.block_lt_of_cell? w _ hw178_2)).trans hw178_2), ((HB.out.cell (World.block_lt_of_cell? w _ hw178_3)).trans hw178_3)⟩ (fun hHeld => ?_); refine with_tabW impl_isNet.tab6 impl_isNet.bits6 (fun HT_ HW_ => ?_)
              generalize w24.drew = w25 at BK173 BK176 HB hx178_0 hx178_1 hx178_2 hx178_3 hHeld ⊢
              refine pV 0 23 41 1 ?_
              refine pV 2 25 41 5 ?_
              refine tV 1 24 41 7 rfl zq290 ?_
              refine tV 3 26 41 15 rfl zq290 ?_
              refine pV 4 27 41 31 ?_
              refine one_ (i := 5) (N := some 28) (bA 41 63) rfl rfl (one_of HT_.out (by kernel_rfl)) (by decide) (fun K hK => ?_)
              refine goes_ Try.func65 (by kernel_rfl) rfl #[.int .i64 ((rd_T39 l0_1 x18_2).f0), .int .i64 1, .int .i64 (wrap64 (a0_0 - 1))] (by rfl) rfl rfl zq7 ?_
              with_reducible refine (impl_in.calls ((rd_T39 l0_1 x18_2).f0) 1 (wrap64 (a0_0 - 1)) true _ A17.out).mono ?_
              rintro e w' ⟨rfl, ⟨nd, rfl⟩⟩
              refine ⟨_, rfl, ?_⟩
              refine hK.out _ _ ⟨(blk_cell BK176.out 0).trans rfl, (blk_cell BK176.out 1).trans rfl, (blk_cell BK176.out 2).trans rfl, (blk_cell BK176.out 3).trans rfl, (blk_cell BK173.out 0).trans rfl, (blk_cell BK173.out 1).trans rfl, ((HB.out.cell (World.block_lt_of_cell? w _ hw178_0)).trans hw178_0), ((HB.out.cell (World.block_lt_of_cell? w _ hw178_1)).trans hw178_1), ((HB.out.cell (World.block_lt_of_cell? w _ hw178_2)).trans hw178_2), ((HB.out.cell (World.block_lt_of_cell? w _ hw178_3)).trans hw178_3)⟩ (fun hHeld => ?_)
              clear hK K
              refine norm_ (a' := ?_) ?_ ?_
              rotate_left
              exact zq296
              refine pV 6 29 41 127 ?_
              refine pV 7 30 41 255 ?_
              refine pV 8 31 41 511 ?_
              refine pV 9 32 41 1023 ?_
              refine pV 10 33 41 2047 ?_
              refine pV 11 34 41 4095 ?_
              refine pV 13 36 41 12287 ?_
              refine pV 14 37 41 28671 ?_
              refine pV 18 41 41 290815 ?_
              refine tV 12 35 41 294911 rfl zq290 ?_
              refine pV 15 38 41 327679 ?_
              refine pV 16 39 41 393215 ?_
              refine tV 17 40 41 524287 rfl zq290 ?_
              refine tV 19 42 41 1048575 rfl zq290 ?_
              refine pV 20 43 41 2097151 ?_
              refine pV 21 44 41 4194303 ?_
              refine pV 22 45 41 8388607 ?_
              refine pV 23 46 41 16777215 ?_
              refine pU 24 47 41 33554431 ?_
              refine pU 25 48 41 67108863 ?_
              refine pU 26 49 41 134217727 ?_
              refine pU 27 50 41 268435455 ?_
              refine pV 28 51 41 536870911 ?_
              refine pV 29 52 41 1073741823 ?_
              refine pU 30 53 41 2147483647 ?_
              refine pU 31 54 41 4294967295 ?_
              refine pU 32 55 41 8589934591 ?_
              refine pU 33 56 41 17179869183 ?_
              refine pV 34 57 41 34359738367 ?_
              refine pV 35 58 41 68719476735 ?_
              refine pU 36 59 41 137438953471 ?_
              refine pU 37 60 41 274877906943 ?_
              refine pU 38 61 41 549755813887 ?_
              refine pU 39 62 41 1099511627775 ?_
              refine pV 40 63 41 2199023255551 ?_
              refine done_ (done_of HT_.out (by kernel_rfl)) ?_
              try go_wp2
              go_meet
              case rel => exact ⟨_, (true), zq5, H', ⟨zq115⟩, ⟨zq155⟩, ⟨zq160⟩, ⟨zq159⟩⟩
             rw [if_neg c23] at H
             have c23b0 : decide (((rd_T39 l0_1 x18_2).f0) ≤ ((rd_T39 l0_1 (ji20)).f0)) = false := decide_eq_false c23
             clear c23
             replace H := Option.bind_eq_some_iff.mp H
             obtain ⟨t179, A260, H⟩ := H
             try dsimp only at H
             have A26 := Aside0.mk A260
             clear A260
             by_cases c27 : t179 = true
             ·
              subst c27
              have H1 : ((impl_isNodeId.f ((rd_T39 l0_1 x18_2).f2)).bind fun t180 => (if t180 = true then (impl_isNet.j2 k2 l0_1 (l0_1.length : Int) x18_2 (decide ((((rd_T39 l0_1 x18_2).f3).size : Int) > 20000)) a0_0 l0_1) else (impl_isNet.j2 k2 l0_1 (l0_1.length : Int) x18_2 true a0_0 l0_1))) = some r := by rw [if_pos rfl] at H; exact H
              clear H
              have H := H1
              clear H1
              replace H := Option.bind_eq_some_iff.mp H
              obtain ⟨t180, A280, H⟩ := H
              try dsimp only at H
              have A28 := Aside0.mk A280
              clear A280
              by_cases c29 : t180 = true
              ·
               subst c29
               have H1 : (impl_isNet.j2 k2 l0_1 (l0_1.length : Int) x18_2 (decide ((((rd_T39 l0_1 x18_2).f3).size : Int) > 20000)) a0_0 l0_1) = some r := by rw [if_pos rfl] at H; exact H
               clear H
               have H := H1
               clear H1
               have H' := Aside0.mk H
               clear H
               try go_wp2
               have n0_ : Aside0 (((((w14.setCell ⟨gb176, 0, none⟩ (.int .i64 ((rd_T39 l0_1 x18_2).f0))).setCell ⟨gb176, 1, none⟩ (.int .i64 ((rd_T39 l0_1 x18_2).f1))).setCell ⟨gb176, 2, none⟩ (.int .i64 ((rd_T39 l0_1 x18_2).f2))).setCell ⟨gb176, 3, none⟩ (.string ((rd_T39 l0_1 x18_2).f3))).heap[gb173]? = some (.cells #[.int .i64 a0_0, .slice (some ad175) l0_1.length c0_1] 37 (0, 0))) := ⟨zq157⟩
               have n1_ : Aside0 (((((w14.setCell ⟨gb176, 0, none⟩ (.int .i64 ((rd_T39 l0_1 x18_2).f0))).setCell ⟨gb176, 1, none⟩ (.int .i64 ((rd_T39 l0_1 x18_2).f1))).setCell ⟨gb176, 2, none⟩ (.int .i64 ((rd_T39 l0_1 x18_2).f2))).setCell ⟨gb176, 3, none⟩ (.string ((rd_T39 l0_1 x18_2).f3))).heap[gb176]? = some (.cells #[.int .i64 ((rd_T39 l0_1 x18_2).f0), .int .i64 ((rd_T39 l0_1 x18_2).f1), .int .i64 ((rd_T39 l0_1 x18_2).f2), .string ((rd_T39 l0_1 x18_2).f3)] 39 (0, 0))) := ⟨zq158⟩
               have n2_ : Aside0 (Below w.heap.size w ((((w14.setCell ⟨gb176, 0, none⟩ (.int .i64 ((rd_T39 l0_1 x18_2).f0))).setCell ⟨gb176, 1, none⟩ (.int .i64 ((rd_T39 l0_1 x18_2).f1))).setCell ⟨gb176, 2, none⟩ (.int .i64 ((rd_T39 l0_1 x18_2).f2))).setCell ⟨gb176, 3, none⟩ (.string ((rd_T39 l0_1 x18_2).f3)))) := ⟨zq159⟩
               (try clear BK173)
               (try clear BK176)
               (try clear HB)
               generalize ((((w14.setCell ⟨gb176, 0, none⟩ (.int .i64 ((rd_T39 l0_1 x18_2).f0))).setCell ⟨gb176, 1, none⟩ (.int .i64 ((rd_T39 l0_1 x18_2).f1))).setCell ⟨gb176, 2, none⟩ (.int .i64 ((rd_T39 l0_1 x18_2).f2))).setCell ⟨gb176, 3, none⟩ (.string ((rd_T39 l0_1 x18_2).f3))) = w30 at n0_ n1_ n2_ ⊢
               have BK173 := n0_
               have BK176 := n1_
               have HB := n2_
               clear n0_ n1_ n2_
               replace BK173 := Aside0.mk (blk_drew BK173.out)
               replace BK176 := Aside0.mk (blk_drew BK176.out)
               replace HB := Aside0.mk (below_drew1 HB.out)
               have p178 : 0 ≤ ((ji20) : Int) := of_decide_eq_true zq6
               have q178 : (ji20) < (l0_1.length : Int) := of_decide_eq_true zq6
               obtain ⟨ad178, e178, hx178_0, hx178_1, hx178_2, hx178_3⟩ := at_T39 HR0_1.out (ji20) p178 q178
               have hw178_3 := hx178_3
               have hw178_2 := hx178_2
               have hw178_1 := hx178_1
               have hw178_0 := hx178_0
               obtain rfl : ad175 = ad178 := (by injection e178)
               replace hx178_0 := (HB.out.cell (World.block_lt_of_cell? w _ hx178_0)).trans hx178_0
               replace hx178_1 := (HB.out.cell (World.block_lt_of_cell? w _ hx178_1)).trans hx178_1
               replace hx178_2 := (HB.out.cell (World.block_lt_of_cell? w _ hx178_2)).trans hx178_2
               replace hx178_3 := (HB.out.cell (World.block_lt_of_cell? w _ hx178_3)).trans hx178_3
               replace p178 := eq_true p178
               replace q178 := eq_true q178
               refine start_ (n := 41) (S := fun w' => w'.cell? ⟨gb176, 0, none⟩ = some (.int .i64 ((rd_T39 l0_1 x18_2).f0)) ∧ w'.cell? ⟨gb176, 1, none⟩ = some (.int .i64 ((rd_T39 l0_1 x18_2).f1)) ∧ w'.cell? ⟨gb176, 2, none⟩ = some (.int .i64 ((rd_T39 l0_1 x18_2).f2)) ∧ w'.cell? ⟨gb176, 3, none⟩ = some (.string ((rd_T39 l0_1 x18_2).f3)) ∧ w'.cell? ⟨gb173, 0, none⟩ = some (.int .i64 a0_0) ∧ w'.cell? ⟨gb173, 1, none⟩ = some (.slice (some ad175) l0_1.length c0_1) ∧ w'.cell? (ad175.add (((ji20)).toNat * 4)) = some (.int .i64 ((rd_T39 l0_1 (ji20)).f0)) ∧ w'.cell? ⟨(ad175.add (((ji20)).toNat * 4)).block, (ad175.add (((ji20)).toNat * 4)).off + 1, none⟩ = some (.int .i64 ((rd_T39 l0_1 (ji20)).f1)) ∧ w'.cell? ⟨(ad175.add (((ji20)).toNat * 4)).block, (ad175.add (((ji20)).toNat * 4)).off + 2, none⟩ = some (.int .i64 ((rd_T39 l0_1 (ji20)).f2)) ∧ w'.cell? ⟨(ad175.add (((ji20)).toNat * 4)).block, (ad175.add (((ji20)).toNat * 4)).off + 3, none⟩ = some (.string ((rd_T39 l0_1 (ji20)).f3))) (ds := []) (bA 41 0) (by kernel_rfl) rfl rfl ⟨(blk_cell BK176.out 0).trans rfl, (blk_cell BK176.out 1).trans rfl, (blk_cell BK176.out 2).trans rfl, (blk_cell BK176.out 3).trans rfl, (blk_cell BK173.out 0).trans rfl, (blk_cell BK173.out 1).trans rfl, ((HB.out.cell (World.block_lt_of_cell? w _ hw178_0)).trans hw178_0), ((HB.out.cell (World.block_lt_of_cell? w _ hw178_1)).trans hw178_1), ((HB.out.cell (World.block_lt_of_cell? w _ hw178_2)).trans hw178_2), ((HB.out.cell (World.block_lt_of_cell? w _ hw178_3)).trans hw178_3)⟩ (fun hHeld => ?_); refine with_tabW impl_isNet.tab6 impl_isNet.bits6 (fun HT_ HW_ => ?_)
               generalize w30.drew = w31 at BK173 BK176 HB hx178_0 hx178_1 hx178_2 hx178_3 hHeld ⊢
               refine pV 0 23 41 1 ?_
               refine pV 2 25 41 5 ?_
               refine tV 1 24 41 7 rfl zq290 ?_
               refine tV 3 26 41 15 rfl zq290 ?_
               refine pV 4 27 41 31 ?_
               refine one_ (i := 5) (N := some 28) (bA 41 63) rfl rfl (one_of HT_.out (by kernel_rfl)) (by decide) (fun K hK => ?_)
               refine goes_ Try.func65 (by kernel_rfl) rfl #[.int .i64 ((rd_T39 l0_1 x18_2).f0), .int .i64 1, .int .i64 (wrap64 (a0_0 - 1))] (by rfl) rfl rfl zq7 ?_
               with_reducible refine (impl_in.calls ((rd_T39 l0_1 x18_2).f0) 1 (wrap64 (a0_0 - 1)) true _ A17.out).mono ?_
               rintro e w' ⟨rfl, ⟨nd, rfl⟩⟩
               refine ⟨_, rfl, ?_⟩
               refine hK.out _ _ ⟨(blk_cell BK176.out 0).trans rfl, (blk_cell BK176.out 1).trans rfl, (blk_cell BK176.out 2).trans rfl, (blk_cell BK176.out 3).trans rfl, (blk_cell BK173.out 0).trans rfl, (blk_cell BK173.out 1).trans rfl, ((HB.out.cell (World.block_lt_of_cell? w _ hw178_0)).trans hw178_0), ((HB.out.cell (World.block_lt_of_cell? w _ hw178_1)).trans hw178_1), ((HB.out.cell (World.block_lt_of_cell? w _ hw178_2)).trans hw178_2), ((HB.out.cell (World.block_lt_of_cell? w _ hw178_3)).trans hw178_3)⟩ (fun hHeld => ?_)
               clear hK K
               refine norm_ (a' := ?_) ?_ ?_
               rotate_left
               exact zq296
               refine pV 6 29 41 127 ?_
               refine pV 7 30 41 255 ?_
               refine pV 8 31 41 511 ?_
               refine pV 9 32 41 1023 ?_
               refine pV 10 33 41 2047 ?_
               refine pV 11 34 41 4095 ?_
               refine pV 13 36 41 12287 ?_
               refine pV 14 37 41 28671 ?_
               refine pV 18 41 41 290815 ?_
               refine tV 12 35 41 294911 rfl zq290 ?_
               refine pV 15 38 41 327679 ?_
               refine pV 16 39 41 393215 ?_
               refine tV 17 40 41 524287 rfl zq290 ?_
               refine tV 19 42 41 1048575 rfl zq290 ?_
               refine pV 20 43 41 2097151 ?_
               refine pV 21 44 41 4194303 ?_
               refine pV 22 45 41 8388607 ?_
               refine pV 23 46 41 16777215 ?_
               refine pV 24 47 41 33554431 ?_
               refine tV 25 48 41 67108863 rfl zq290 ?_
               refine one_ (i := 26) (N := some 49) (bA 41 134217727) rfl rfl (one_of HT_.out (by kernel_rfl)) (by decide) (fun K hK => ?_)
               refine goes_ Try.func56 (by kernel_rfl) rfl #[.int .i64 ((rd_T39 l0_1 x18_2).f1)] (by rfl) rfl rfl zq7 ?_
               with_reducible refine (impl_isNodeId.calls ((rd_T39 l0_1 x18_2).f1) true _ A26.out).mono ?_
               rintro e w' ⟨rfl, ⟨nd, rfl⟩⟩
               refine ⟨_, rfl, ?_⟩
               refine hK.out _ _ ⟨(blk_cell BK176.out 0).trans rfl, (blk_cell BK176.out 1).trans rfl, (blk_cell BK176.out 2).trans rfl, (blk_cell BK176.out 3).trans rfl, (blk_cell BK173.out 0).trans rfl, (blk_cell BK173.out 1).trans rfl, ((HB.out.cell (World.block_lt_of_cell? w _ hw178_0)).trans hw178_0), ((HB.out.cell (World.block_lt_of_cell? w _ hw178_1)).trans hw178_1), ((HB.out.cell (World.block_lt_of_cell? w _ hw178_2)).trans hw178_2), ((HB.out.cell (World.block_lt_of_cell? w _ hw178_3)).trans hw178_3)⟩ (fun hHeld => ?_)
               clear hK K
               refine norm_ (a' := ?_) ?_ ?_
               rotate_left
               exact zq297
               refine pV 27 50 41 268435455 ?_
               refine pV 28 51 41 536870911 ?_
               refine pV 29 52 41 1073741823 ?_
               refine pV 30 53 41 2147483647 ?_
               refine tV 31 54 41 4294967295 rfl zq290 ?_
               refine one_ (i := 32) (N := some 55) (bA 41 8589934591) rfl rfl (one_of HT_.out (by kernel_rfl)) (by decide) (fun K hK => ?_)
               refine goes_ Try.func56 (by kernel_rfl) rfl #[.int .i64 ((rd_T39 l0_1 x18_2).f2)] (by rfl) rfl rfl zq7 ?_
               with_reducible refine (impl_isNodeId.calls ((rd_T39 l0_1 x18_2).f2) true _ A28.out).mono ?_
               rintro e w' ⟨rfl, ⟨nd, rfl⟩⟩
               refine ⟨_, rfl, ?_⟩
               refine hK.out _ _ ⟨(blk_cell BK176.out 0).trans rfl, (blk_cell BK176.out 1).trans rfl, (blk_cell BK176.out 2).trans rfl, (blk_cell BK176.out 3).trans rfl, (blk_cell BK173.out 0).trans rfl, (blk_cell BK173.out 1).trans rfl, ((HB.out.cell (World.block_lt_of_cell? w _ hw178_0)).trans hw178_0), ((HB.out.cell (World.block_lt_of_cell? w _ hw178_1)).trans hw178_1), ((HB.out.cell (World.block_lt_of_cell? w _ hw178_2)).trans hw178_2), ((HB.out.cell (World.block_lt_of_cell? w _ hw178_3)).trans hw178_3)⟩ (fun hHeld => ?_)
               clear hK K
               refine norm_ (a' := ?_) ?_ ?_
               rotate_left
               exact zq298
               refine pV 33 56 41 17179869183 ?_
               refine pV 34 57 41 34359738367 ?_
               refine pV 35 58 41 68719476735 ?_
               refine pV 36 59 41 137438953471 ?_
               refine tV 37 60 41 274877906943 rfl zq290 ?_
               refine pV 38 61 41 549755813887 ?_
               refine pV 39 62 41 1099511627775 ?_
               refine pV 40 63 41 2199023255551 ?_
               refine done_ (done_of HT_.out (by kernel_rfl)) ?_
               try go_wp2
               go_meet
               case rel => exact ⟨_, (decide ((((rd_T39 l0_1 x18_2).f3).size : Int) > 20000)), zq5, H', ⟨zq115⟩, ⟨zq155⟩, ⟨zq160⟩, ⟨zq159⟩⟩
              replace c29 := Bool.eq_false_iff.mpr c29
              subst c29
              have H1 : (impl_isNet.j2 k2 l0_1 (l0_1.length : Int) x18_2 true a0_0 l0_1) = some r := by rw [if_neg (show ¬ (false = true) by decide)] at H; exact H
              clear H
              have H := H1
              clear H1
              have H' := Aside0.mk H
              clear H
              try go_wp2
              have n0_ : Aside0 (((((w14.setCell ⟨gb176, 0, none⟩ (.int .i64 ((rd_T39 l0_1 x18_2).f0))).setCell ⟨gb176, 1, none⟩ (.int .i64 ((rd_T39 l0_1 x18_2).f1))).setCell ⟨gb176, 2, none⟩ (.int .i64 ((rd_T39 l0_1 x18_2).f2))).setCell ⟨gb176, 3, none⟩ (.string ((rd_T39 l0_1 x18_2).f3))).heap[gb173]? = some (.cells #[.int .i64 a0_0, .slice (some ad175) l0_1.length c0_1] 37 (0, 0))) := ⟨zq157⟩
              have n1_ : Aside0 (((((w14.setCell ⟨gb176, 0, none⟩ (.int .i64 ((rd_T39 l0_1 x18_2).f0))).setCell ⟨gb176, 1, none⟩ (.int .i64 ((rd_T39 l0_1 x18_2).f1))).setCell ⟨gb176, 2, none⟩ (.int .i64 ((rd_T39 l0_1 x18_2).f2))).setCell ⟨gb176, 3, none⟩ (.string ((rd_T39 l0_1 x18_2).f3))).heap[gb176]? = some (.cells #[.int .i64 ((rd_T39 l0_1 x18_2).f0), .int .i64 ((rd_T39 l0_1 x18_2).f1), .int .i64 ((rd_T39 l0_1 x18_2).f2), .string ((rd_T39 l0_1 x18_2).f3)] 39 (0, 0))) := ⟨zq158⟩
              have n2_ : Aside0 (Below w.heap.size w ((((w14.setCell ⟨gb176, 0, none⟩ (.int .i64 ((rd_T39 l0_1 x18_2).f0))).setCell ⟨gb176, 1, none⟩ (.int .i64 ((rd_T39 l0_1 x18_2).f1))).setCell ⟨gb176, 2, none⟩ (.int .i64 ((rd_T39 l0_1 x18_2).f2))).setCell ⟨gb176, 3, none⟩ (.string ((rd_T39 l0_1 x18_2).f3)))) := ⟨zq159⟩
              (try clear BK173)
              (try clear BK176)
              (try clear HB)
              generalize ((((w14.setCell ⟨gb176, 0, none⟩ (.int .i64 ((rd_T39 l0_1 x18_2).f0))).setCell ⟨gb176, 1, none⟩ (.int .i64 ((rd_T39 l0_1 x18_2).f1))).setCell ⟨gb176, 2, none⟩ (.int .i64 ((rd_T39 l0_1 x18_2).f2))).setCell ⟨gb176, 3, none⟩ (.string ((rd_T39 l0_1 x18_2).f3))) = w32 at n0_ n1_ n2_ ⊢
              have BK173 := n0_
              have BK176 := n1_
              have HB := n2_
              clear n0_ n1_ n2_
              replace BK173 := Aside0.mk (blk_drew BK173.out)
              replace BK176 := Aside0.mk (blk_drew BK176.out)
              replace HB := Aside0.mk (below_drew1 HB.out)
              have p178 : 0 ≤ ((ji20) : Int) := of_decide_eq_true zq6
              have q178 : (ji20) < (l0_1.length : Int) := of_decide_eq_true zq6
              obtain ⟨ad178, e178, hx178_0, hx178_1, hx178_2, hx178_3⟩ := at_T39 HR0_1.out (ji20) p178 q178
              have hw178_3 := hx178_3
              have hw178_2 := hx178_2
              have hw178_1 := hx178_1
              have hw178_0 := hx178_0
              obtain rfl : ad175 = ad178 := (by injection e178)
              replace hx178_0 := (HB.out.cell (World.block_lt_of_cell? w _ hx178_0)).trans hx178_0
              replace hx178_1 := (HB.out.cell (World.block_lt_of_cell? w _ hx178_1)).trans hx178_1
              replace hx178_2 := (HB.out.cell (World.block_lt_of_cell? w _ hx178_2)).trans hx178_2
              replace hx178_3 := (HB.out.cell (World.block_lt_of_cell? w _ hx178_3)).trans hx178_3
              replace p178 := eq_true p178
              replace q178 := eq_true q178
              refine start_ (n := 41) (S := fun w' => w'.cell? ⟨gb176, 0, none⟩ = some (.int .i64 ((rd_T39 l0_1 x18_2).f0)) ∧ w'.cell? ⟨gb176, 1, none⟩ = some (.int .i64 ((rd_T39 l0_1 x18_2).f1)) ∧ w'.cell? ⟨gb176, 2, none⟩ = some (.int .i64 ((rd_T39 l0_1 x18_2).f2)) ∧ w'.cell? ⟨gb176, 3, none⟩ = some (.string ((rd_T39 l0_1 x18_2).f3)) ∧ w'.cell? ⟨gb173, 0, none⟩ = some (.int .i64 a0_0) ∧ w'.cell? ⟨gb173, 1, none⟩ = some (.slice (some ad175) l0_1.length c0_1) ∧ w'.cell? (ad175.add (((ji20)).toNat * 4)) = some (.int .i64 ((rd_T39 l0_1 (ji20)).f0)) ∧ w'.cell? ⟨(ad175.add (((ji20)).toNat * 4)).block, (ad175.add (((ji20)).toNat * 4)).off + 1, none⟩ = some (.int .i64 ((rd_T39 l0_1 (ji20)).f1)) ∧ w'.cell? ⟨(ad175.add (((ji20)).toNat * 4)).block, (ad175.add (((ji20)).toNat * 4)).off + 2, none⟩ = some (.int .i64 ((rd_T39 l0_1 (ji20)).f2)) ∧ w'.cell? ⟨(ad175.add (((ji20)).toNat * 4)).block, (ad175.add (((ji20)).toNat * 4)).off + 3, none⟩ = some (.string ((rd_T39 l0_1 (ji20)).f3))) (ds := []) (bA 41 0) (by kernel_rfl) rfl rfl ⟨(blk_cell BK176.out 0).trans rfl, (blk_cell BK176.out 1).trans rfl, (blk_cell BK176.out 2).trans rfl, (blk_cell BK176.out 3).trans rfl, (blk_cell BK173.out 0).trans rfl, (blk_cell BK173.out 1).trans rfl, ((HB.out.cell (World.block_lt_of_cell? w _ hw178_0)).trans hw178_0), ((HB.out.cell (World.block_lt_of_cell? w _ hw178_1)).trans hw178_1), ((HB.out.cell (World.block_lt_of_cell? w _ hw178_2)).trans hw178_2), ((HB.out.cell (World.block_lt_of_cell? w _ hw178_3)).trans hw178_3)⟩ (fun hHeld => ?_); refine with_tabW impl_isNet.tab6 impl_isNet.bits6 (fun HT_ HW_ => ?_)
              generalize w32.drew = w33 at BK173 BK176 HB hx178_0 hx178_1 hx178_2 hx178_3 hHeld ⊢
              refine pV 0 23 41 1 ?_
              refine pV 2 25 41 5 ?_
              refine tV 1 24 41 7 rfl zq290 ?_
              refine tV 3 26 41 15 rfl zq290 ?_
              refine pV 4 27 41 31 ?_
              refine one_ (i := 5) (N := some 28) (bA 41 63) rfl rfl (one_of HT_.out (by kernel_rfl)) (by decide) (fun K hK => ?_)
              refine goes_ Try.func65 (by kernel_rfl) rfl #[.int .i64 ((rd_T39 l0_1 x18_2).f0), .int .i64 1, .int .i64 (wrap64 (a0_0 - 1))] (by rfl) rfl rfl zq7 ?_
              with_reducible refine (impl_in.calls ((rd_T39 l0_1 x18_2).f0) 1 (wrap64 (a0_0 - 1)) true _ A17.out).mono ?_
              rintro e w' ⟨rfl, ⟨nd, rfl⟩⟩
              refine ⟨_, rfl, ?_⟩
              refine hK.out _ _ ⟨(blk_cell BK176.out 0).trans rfl, (blk_cell BK176.out 1).trans rfl, (blk_cell BK176.out 2).trans rfl, (blk_cell BK176.out 3).trans rfl, (blk_cell BK173.out 0).trans rfl, (blk_cell BK173.out 1).trans rfl, ((HB.out.cell (World.block_lt_of_cell? w _ hw178_0)).trans hw178_0), ((HB.out.cell (World.block_lt_of_cell? w _ hw178_1)).trans hw178_1), ((HB.out.cell (World.block_lt_of_cell? w _ hw178_2)).trans hw178_2), ((HB.out.cell (World.block_lt_of_cell? w _ hw178_3)).trans hw178_3)⟩ (fun hHeld => ?_)
              clear hK K
              refine norm_ (a' := ?_) ?_ ?_
              rotate_left
              exact zq296
              refine pV 6 29 41 127 ?_
              refine pV 7 30 41 255 ?_
              refine pV 8 31 41 511 ?_
              refine pV 9 32 41 1023 ?_
              refine pV 10 33 41 2047 ?_
              refine pV 11 34 41 4095 ?_
              refine pV 13 36 41 12287 ?_
              refine pV 14 37 41 28671 ?_
              refine pV 18 41 41 290815 ?_
              refine tV 12 35 41 294911 rfl zq290 ?_
              refine pV 15 38 41 327679 ?_
              refine pV 16 39 41 393215 ?_
              refine tV 17 40 41 524287 rfl zq290 ?_
              refine tV 19 42 41 1048575 rfl zq290 ?_
              refine pV 20 43 41 2097151 ?_
              refine pV 21 44 41 4194303 ?_
              refine pV 22 45 41 8388607 ?_
              refine pV 23 46 41 16777215 ?_
              refine pV 24 47 41 33554431 ?_
              refine tV 25 48 41 67108863 rfl zq290 ?_
              refine one_ (i := 26) (N := some 49) (bA 41 134217727) rfl rfl (one_of HT_.out (by kernel_rfl)) (by decide) (fun K hK => ?_)
              refine goes_ Try.func56 (by kernel_rfl) rfl #[.int .i64 ((rd_T39 l0_1 x18_2).f1)] (by rfl) rfl rfl zq7 ?_
              with_reducible refine (impl_isNodeId.calls ((rd_T39 l0_1 x18_2).f1) true _ A26.out).mono ?_
              rintro e w' ⟨rfl, ⟨nd, rfl⟩⟩
              refine ⟨_, rfl, ?_⟩
              refine hK.out _ _ ⟨(blk_cell BK176.out 0).trans rfl, (blk_cell BK176.out 1).trans rfl, (blk_cell BK176.out 2).trans rfl, (blk_cell BK176.out 3).trans rfl, (blk_cell BK173.out 0).trans rfl, (blk_cell BK173.out 1).trans rfl, ((HB.out.cell (World.block_lt_of_cell? w _ hw178_0)).trans hw178_0), ((HB.out.cell (World.block_lt_of_cell? w _ hw178_1)).trans hw178_1), ((HB.out.cell (World.block_lt_of_cell? w _ hw178_2)).trans hw178_2), ((HB.out.cell (World.block_lt_of_cell? w _ hw178_3)).trans hw178_3)⟩ (fun hHeld => ?_)
              clear hK K
              refine norm_ (a' := ?_) ?_ ?_
              rotate_left
              exact zq297
              refine pV 27 50 41 268435455 ?_
              refine pV 28 51 41 536870911 ?_
              refine pV 29 52 41 1073741823 ?_
              refine pV 30 53 41 2147483647 ?_
              refine tV 31 54 41 4294967295 rfl zq290 ?_
              refine one_ (i := 32) (N := some 55) (bA 41 8589934591) rfl rfl (one_of HT_.out (by kernel_rfl)) (by decide) (fun K hK => ?_)
              refine goes_ Try.func56 (by kernel_rfl) rfl #[.int .i64 ((rd_T39 l0_1 x18_2).f2)] (by rfl) rfl rfl zq7 ?_
              with_reducible refine (impl_isNodeId.calls ((rd_T39 l0_1 x18_2).f2) false _ A28.out).mono ?_
              rintro e w' ⟨rfl, ⟨nd, rfl⟩⟩
              refine ⟨_, rfl, ?_⟩
              refine hK.out _ _ ⟨(blk_cell BK176.out 0).trans rfl, (blk_cell BK176.out 1).trans rfl, (blk_cell BK176.out 2).trans rfl, (blk_cell BK176.out 3).trans rfl, (blk_cell BK173.out 0).trans rfl, (blk_cell BK173.out 1).trans rfl, ((HB.out.cell (World.block_lt_of_cell? w _ hw178_0)).trans hw178_0), ((HB.out.cell (World.block_lt_of_cell? w _ hw178_1)).trans hw178_1), ((HB.out.cell (World.block_lt_of_cell? w _ hw178_2)).trans hw178_2), ((HB.out.cell (World.block_lt_of_cell? w _ hw178_3)).trans hw178_3)⟩ (fun hHeld => ?_)
              clear hK K
              refine norm_ (a' := ?_) ?_ ?_
              rotate_left
              exact zq298
              refine pV 33 56 41 17179869183 ?_
              refine pV 34 57 41 34359738367 ?_
              refine pV 35 58 41 68719476735 ?_
              refine pU 36 59 41 137438953471 ?_
              refine pU 37 60 41 274877906943 ?_
              refine pU 38 61 41 549755813887 ?_
              refine pU 39 62 41 1099511627775 ?_
              refine pV 40 63 41 2199023255551 ?_
              refine done_ (done_of HT_.out (by kernel_rfl)) ?_
              try go_wp2
              go_meet
              case rel => exact ⟨_, (true), zq5, H', ⟨zq115⟩, ⟨zq155⟩, ⟨zq160⟩, ⟨zq159⟩⟩
             replace c27 := Bool.eq_false_iff.mpr c27
             subst c27
             have H1 : (impl_isNet.j2 k2 l0_1 (l0_1.length : Int) x18_2 true a0_0 l0_1) = some r := by rw [if_neg (show ¬ (false = true) by decide)] at H; exact H
             clear H
             have H := H1
             clear H1
             have H' := Aside0.mk H
             clear H
             try go_wp2
             have n0_ : Aside0 (((((w14.setCell ⟨gb176, 0, none⟩ (.int .i64 ((rd_T39 l0_1 x18_2).f0))).setCell ⟨gb176, 1, none⟩ (.int .i64 ((rd_T39 l0_1 x18_2).f1))).setCell ⟨gb176, 2, none⟩ (.int .i64 ((rd_T39 l0_1 x18_2).f2))).setCell ⟨gb176, 3, none⟩ (.string ((rd_T39 l0_1 x18_2).f3))).heap[gb173]? = some (.cells #[.int .i64 a0_0, .slice (some ad175) l0_1.length c0_1] 37 (0, 0))) := ⟨zq157⟩
             have n1_ : Aside0 (((((w14.setCell ⟨gb176, 0, none⟩ (.int .i64 ((rd_T39 l0_1 x18_2).f0))).setCell ⟨gb176, 1, none⟩ (.int .i64 ((rd_T39 l0_1 x18_2).f1))).setCell ⟨gb176, 2, none⟩ (.int .i64 ((rd_T39 l0_1 x18_2).f2))).setCell ⟨gb176, 3, none⟩ (.string ((rd_T39 l0_1 x18_2).f3))).heap[gb176]? = some (.cells #[.int .i64 ((rd_T39 l0_1 x18_2).f0), .int .i64 ((rd_T39 l0_1 x18_2).f1), .int .i64 ((rd_T39 l0_1 x18_2).f2), .string ((rd_T39 l0_1 x18_2).f3)] 39 (0, 0))) := ⟨zq158⟩
             have n2_ : Aside0 (Below w.heap.size w ((((w14.setCell ⟨gb176, 0, none⟩ (.int .i64 ((rd_T39 l0_1 x18_2).f0))).setCell ⟨gb176, 1, none⟩ (.int .i64 ((rd_T39 l0_1 x18_2).f1))).setCell ⟨gb176, 2, none⟩ (.int .i64 ((rd_T39 l0_1 x18_2).f2))).setCell ⟨gb176, 3, none⟩ (.string ((rd_T39 l0_1 x18_2).f3)))) := ⟨zq159⟩
             (try clear BK173)
             (try clear BK176)
             (try clear HB)
             generalize ((((w14.setCell ⟨gb176, 0, none⟩ (.int .i64 ((rd_T39 l0_1 x18_2).f0))).setCell ⟨gb176, 1, none⟩ (.int .i64 ((rd_T39 l0_1 x18_2).f1))).setCell ⟨gb176, 2, none⟩ (.int .i64 ((rd_T39 l0_1 x18_2).f2))).setCell ⟨gb176, 3, none⟩ (.string ((rd_T39 l0_1 x18_2).f3))) = w34 at n0_ n1_ n2_ ⊢
             have BK173 := n0_
             have BK176 := n1_
             have HB := n2_
             clear n0_ n1_ n2_
             replace BK173 := Aside0.mk (blk_drew BK173.out)
             replace BK176 := Aside0.mk (blk_drew BK176.out)
             replace HB := Aside0.mk (below_drew1 HB.out)
             have p178 : 0 ≤ ((ji20) : Int) := of_decide_eq_true zq6
             have q178 : (ji20) < (l0_1.length : Int) := of_decide_eq_true zq6
             obtain ⟨ad178, e178, hx178_0, hx178_1, hx178_2, hx178_3⟩ := at_T39 HR0_1.out (ji20) p178 q178
             have hw178_3 := hx178_3
             have hw178_2 := hx178_2
             have hw178_1 := hx178_1
             have hw178_0 := hx178_0
             obtain rfl : ad175 = ad178 := (by injection e178)
             replace hx178_0 := (HB.out.cell (World.block_lt_of_cell? w _ hx178_0)).trans hx178_0
             replace hx178_1 := (HB.out.cell (World.block_lt_of_cell? w _ hx178_1)).trans hx178_1
             replace hx178_2 := (HB.out.cell (World.block_lt_of_cell? w _ hx178_2)).trans hx178_2
             replace hx178_3 := (HB.out.cell (World.block_lt_of_cell? w _ hx178_3)).trans hx178_3
             replace p178 := eq_true p178
             replace q178 := eq_true q178
             refine start_ (n := 41) (S := fun w' => w'.cell? ⟨gb176, 0, none⟩ = some (.int .i64 ((rd_T39 l0_1 x18_2).f0)) ∧ w'.cell? ⟨gb176, 1, none⟩ = some (.int .i64 ((rd_T39 l0_1 x18_2).f1)) ∧ w'.cell? ⟨gb176, 2, none⟩ = some (.int .i64 ((rd_T39 l0_1 x18_2).f2)) ∧ w'.cell? ⟨gb176, 3, none⟩ = some (.string ((rd_T39 l0_1 x18_2).f3)) ∧ w'.cell? ⟨gb173, 0, none⟩ = some (.int .i64 a0_0) ∧ w'.cell? ⟨gb173, 1, none⟩ = some (.slice (some ad175) l0_1.length c0_1) ∧ w'.cell? (ad175.add (((ji20)).toNat * 4)) = some (.int .i64 ((rd_T39 l0_1 (ji20)).f0)) ∧ w'.cell? ⟨(ad175.add (((ji20)).toNat * 4)).block, (ad175.add (((ji20)).toNat * 4)).off + 1, none⟩ = some (.int .i64 ((rd_T39 l0_1 (ji20)).f1)) ∧ w'.cell? ⟨(ad175.add (((ji20)).toNat * 4)).block, (ad175.add (((ji20)).toNat * 4)).off + 2, none⟩ = some (.int .i64 ((rd_T39 l0_1 (ji20)).f2)) ∧ w'.cell? ⟨(ad175.add (((ji20)).toNat * 4)).block, (ad175.add (((ji20)).toNat * 4)).off + 3, none⟩ = some (.string ((rd_T39 l0_1 (ji20)).f3))) (ds := []) (bA 41 0) (by kernel_rfl) rfl rfl ⟨(blk_cell BK176.out 0).trans rfl, (blk_cell BK176.out 1).trans rfl, (blk_cell BK176.out 2).trans rfl, (blk_cell BK176.out 3).trans rfl, (blk_cell BK173.out 0).trans rfl, (blk_cell BK173.out 1).trans rfl, ((HB.out.cell (World.block_lt_of_cell? w _ hw178_0)).trans hw178_0), ((HB.out.cell (World.block_lt_of_cell? w _ hw178_1)).trans hw178_1), ((HB.out.cell (World.block_lt_of_cell? w _ hw178_2)).trans hw178_2), ((HB.out.cell (World.block_lt_of_cell? w _ hw178_3)).trans hw178_3)⟩ (fun hHeld => ?_); refine with_tabW impl_isNet.tab6 impl_isNet.bits6 (fun HT_ HW_ => ?_)
             generalize w34.drew = w35 at BK173 BK176 HB hx178_0 hx178_1 hx178_2 hx178_3 hHeld ⊢
             refine pV 0 23 41 1 ?_
             refine pV 2 25 41 5 ?_
             refine tV 1 24 41 7 rfl zq290 ?_
             refine tV 3 26 41 15 rfl zq290 ?_
             refine pV 4 27 41 31 ?_
             refine one_ (i := 5) (N := some 28) (bA 41 63) rfl rfl (one_of HT_.out (by kernel_rfl)) (by decide) (fun K hK => ?_)
             refine goes_ Try.func65 (by kernel_rfl) rfl #[.int .i64 ((rd_T39 l0_1 x18_2).f0), .int .i64 1, .int .i64 (wrap64 (a0_0 - 1))] (by rfl) rfl rfl zq7 ?_
             with_reducible refine (impl_in.calls ((rd_T39 l0_1 x18_2).f0) 1 (wrap64 (a0_0 - 1)) true _ A17.out).mono ?_
             rintro e w' ⟨rfl, ⟨nd, rfl⟩⟩
             refine ⟨_, rfl, ?_⟩
             refine hK.out _ _ ⟨(blk_cell BK176.out 0).trans rfl, (blk_cell BK176.out 1).trans rfl, (blk_cell BK176.out 2).trans rfl, (blk_cell BK176.out 3).trans rfl, (blk_cell BK173.out 0).trans rfl, (blk_cell BK173.out 1).trans rfl, ((HB.out.cell (World.block_lt_of_cell? w _ hw178_0)).trans hw178_0), ((HB.out.cell (World.block_lt_of_cell? w _ hw178_1)).trans hw178_1), ((HB.out.cell (World.block_lt_of_cell? w _ hw178_2)).trans hw178_2), ((HB.out.cell (World.block_lt_of_cell? w _ hw178_3)).trans hw178_3)⟩ (fun hHeld => ?_)
             clear hK K
             refine norm_ (a' := ?_) ?_ ?_
             rotate_left
             exact zq296
             refine pV 6 29 41 127 ?_
             refine pV 7 30 41 255 ?_
             refine pV 8 31 41 511 ?_
             refine pV 9 32 41 1023 ?_
             refine pV 10 33 41 2047 ?_
             refine pV 11 34 41 4095 ?_
             refine pV 13 36 41 12287 ?_
             refine pV 14 37 41 28671 ?_
             refine pV 18 41 41 290815 ?_
             refine tV 12 35 41 294911 rfl zq290 ?_
             refine pV 15 38 41 327679 ?_
             refine pV 16 39 41 393215 ?_
             refine tV 17 40 41 524287 rfl zq290 ?_
             refine tV 19 42 41 1048575 rfl zq290 ?_
             refine pV 20 43 41 2097151 ?_
             refine pV 21 44 41 4194303 ?_
             refine pV 22 45 41 8388607 ?_
             refine pV 23 46 41 16777215 ?_
             refine pV 24 47 41 33554431 ?_
             refine tV 25 48 41 67108863 rfl zq290 ?_
             refine one_ (i := 26) (N := some 49) (bA 41 134217727) rfl rfl (one_of HT_.out (by kernel_rfl)) (by decide) (fun K hK => ?_)
             refine goes_ Try.func56 (by kernel_rfl) rfl #[.int .i64 ((rd_T39 l0_1 x18_2).f1)] (by rfl) rfl rfl zq7 ?_
             with_reducible refine (impl_isNodeId.calls ((rd_T39 l0_1 x18_2).f1) false _ A26.out).mono ?_
             rintro e w' ⟨rfl, ⟨nd, rfl⟩⟩
             refine ⟨_, rfl, ?_⟩
             refine hK.out _ _ ⟨(blk_cell BK176.out 0).trans rfl, (blk_cell BK176.out 1).trans rfl, (blk_cell BK176.out 2).trans rfl, (blk_cell BK176.out 3).trans rfl, (blk_cell BK173.out 0).trans rfl, (blk_cell BK173.out 1).trans rfl, ((HB.out.cell (World.block_lt_of_cell? w _ hw178_0)).trans hw178_0), ((HB.out.cell (World.block_lt_of_cell? w _ hw178_1)).trans hw178_1), ((HB.out.cell (World.block_lt_of_cell? w _ hw178_2)).trans hw178_2), ((HB.out.cell (World.block_lt_of_cell? w _ hw178_3)).trans hw178_3)⟩ (fun hHeld => ?_)
             clear hK K
             refine norm_ (a' := ?_) ?_ ?_
             rotate_left
             exact zq297
             refine pV 27 50 41 268435455 ?_
             refine pV 28 51 41 536870911 ?_
             refine pV 29 52 41 1073741823 ?_
             refine pU 30 53 41 2147483647 ?_
             refine pU 31 54 41 4294967295 ?_
             refine pU 32 55 41 8589934591 ?_
             refine pU 33 56 41 17179869183 ?_
             refine pV 34 57 41 34359738367 ?_
             refine pV 35 58 41 68719476735 ?_
             refine pU 36 59 41 137438953471 ?_
             refine pU 37 60 41 274877906943 ?_
             refine pU 38 61 41 549755813887 ?_
             refine pU 39 62 41 1099511627775 ?_
             refine pV 40 63 41 2199023255551 ?_
             refine done_ (done_of HT_.out (by kernel_rfl)) ?_
             try go_wp2
             go_meet
             case rel => exact ⟨_, (true), zq5, H', ⟨zq115⟩, ⟨zq155⟩, ⟨zq160⟩, ⟨zq159⟩⟩
            rw [if_neg c22] at H
            exact absurd H (by simp)
           rw [if_neg c21] at H
           exact absurd H (by simp)
          rw [if_neg c19] at H
          have c19b0 : decide (0 < x18_2) = false := decide_eq_false c19
          clear c19
          (first | rw [c19b0] | (simp only [i64_w, i32_w]; rw [c19b0]) | skip)
          replace H := Option.bind_eq_some_iff.mp H
          obtain ⟨t181, A360, H⟩ := H
          try dsimp only at H
          have A36 := Aside0.mk A360
          clear A360
          by_cases c37 : t181 = true
          ·
           subst c37
           have H1 : ((impl_isNodeId.f ((rd_T39 l0_1 x18_2).f2)).bind fun t182 => (if t182 = true then (impl_isNet.j2 k2 l0_1 (l0_1.length : Int) x18_2 (decide ((((rd_T39 l0_1 x18_2).f3).size : Int) > 20000)) a0_0 l0_1) else (impl_isNet.j2 k2 l0_1 (l0_1.length : Int) x18_2 true a0_0 l0_1))) = some r := by rw [if_pos rfl] at H; exact H
           clear H
           have H := H1
           clear H1
           replace H := Option.bind_eq_some_iff.mp H
           obtain ⟨t182, A380, H⟩ := H
           try dsimp only at H
           have A38 := Aside0.mk A380
           clear A380
           by_cases c39 : t182 = true
           ·
            subst c39
            have H1 : (impl_isNet.j2 k2 l0_1 (l0_1.length : Int) x18_2 (decide ((((rd_T39 l0_1 x18_2).f3).size : Int) > 20000)) a0_0 l0_1) = some r := by rw [if_pos rfl] at H; exact H
            clear H
            have H := H1
            clear H1
            have H' := Aside0.mk H
            clear H
            try go_wp2
            have n0_ : Aside0 (((((w14.setCell ⟨gb176, 0, none⟩ (.int .i64 ((rd_T39 l0_1 x18_2).f0))).setCell ⟨gb176, 1, none⟩ (.int .i64 ((rd_T39 l0_1 x18_2).f1))).setCell ⟨gb176, 2, none⟩ (.int .i64 ((rd_T39 l0_1 x18_2).f2))).setCell ⟨gb176, 3, none⟩ (.string ((rd_T39 l0_1 x18_2).f3))).heap[gb173]? = some (.cells #[.int .i64 a0_0, .slice (some ad175) l0_1.length c0_1] 37 (0, 0))) := ⟨zq157⟩
            have n1_ : Aside0 (((((w14.setCell ⟨gb176, 0, none⟩ (.int .i64 ((rd_T39 l0_1 x18_2).f0))).setCell ⟨gb176, 1, none⟩ (.int .i64 ((rd_T39 l0_1 x18_2).f1))).setCell ⟨gb176, 2, none⟩ (.int .i64 ((rd_T39 l0_1 x18_2).f2))).setCell ⟨gb176, 3, none⟩ (.string ((rd_T39 l0_1 x18_2).f3))).heap[gb176]? = some (.cells #[.int .i64 ((rd_T39 l0_1 x18_2).f0), .int .i64 ((rd_T39 l0_1 x18_2).f1), .int .i64 ((rd_T39 l0_1 x18_2).f2), .string ((rd_T39 l0_1 x18_2).f3)] 39 (0, 0))) := ⟨zq158⟩
            have n2_ : Aside0 (Below w.heap.size w ((((w14.setCell ⟨gb176, 0, none⟩ (.int .i64 ((rd_T39 l0_1 x18_2).f0))).setCell ⟨gb176, 1, none⟩ (.int .i64 ((rd_T39 l0_1 x18_2).f1))).setCell ⟨gb176, 2, none⟩ (.int .i64 ((rd_T39 l0_1 x18_2).f2))).setCell ⟨gb176, 3, none⟩ (.string ((rd_T39 l0_1 x18_2).f3)))) := ⟨zq159⟩
            (try clear BK173)
            (try clear BK176)
            (try clear HB)
            generalize ((((w14.setCell ⟨gb176, 0, none⟩ (.int .i64 ((rd_T39 l0_1 x18_2).f0))).setCell ⟨gb176, 1, none⟩ (.int .i64 ((rd_T39 l0_1 x18_2).f1))).setCell ⟨gb176, 2, none⟩ (.int .i64 ((rd_T39 l0_1 x18_2).f2))).setCell ⟨gb176, 3, none⟩ (.string ((rd_T39 l0_1 x18_2).f3))) = w40 at n0_ n1_ n2_ ⊢
            have BK173 := n0_
            have BK176 := n1_
            have HB := n2_
            clear n0_ n1_ n2_
            replace BK173 := Aside0.mk (blk_drew BK173.out)
            replace BK176 := Aside0.mk (blk_drew BK176.out)
            replace HB := Aside0.mk (below_drew1 HB.out)
            refine start_ (n := 41) (S := fun w' => w'.cell? ⟨gb176, 0, none⟩ = some (.int .i64 ((rd_T39 l0_1 x18_2).f0)) ∧ w'.cell? ⟨gb176, 1, none⟩ = some (.int .i64 ((rd_T39 l0_1 x18_2).f1)) ∧ w'.cell? ⟨gb176, 2, none⟩ = some (.int .i64 ((rd_T39 l0_1 x18_2).f2)) ∧ w'.cell? ⟨gb176, 3, none⟩ = some (.string ((rd_T39 l0_1 x18_2).f3)) ∧ w'.cell? ⟨gb173, 0, none⟩ = some (.int .i64 a0_0) ∧ w'.cell? ⟨gb173, 1, none⟩ = some (.slice (some ad175) l0_1.length c0_1)) (ds := []) (bA 41 0) (by kernel_rfl) rfl rfl ⟨(blk_cell BK176.out 0).trans rfl, (blk_cell BK176.out 1).trans rfl, (blk_cell BK176.out 2).trans rfl, (blk_cell BK176.out 3).trans rfl, (blk_cell BK173.out 0).trans rfl, (blk_cell BK173.out 1).trans rfl⟩ (fun hHeld => ?_); refine with_tabW impl_isNet.tab6 impl_isNet.bits6 (fun HT_ HW_ => ?_)
            generalize w40.drew = w41 at BK173 BK176 HB hHeld ⊢
            refine pV 0 23 41 1 ?_
            refine pV 2 25 41 5 ?_
            refine tV 1 24 41 7 rfl zq293 ?_
            refine tV 3 26 41 15 rfl zq293 ?_
            refine pV 4 27 41 31 ?_
            refine one_ (i := 5) (N := some 28) (bA 41 63) rfl rfl (one_of HT_.out (by kernel_rfl)) (by decide) (fun K hK => ?_)
            refine goes_ Try.func65 (by kernel_rfl) rfl #[.int .i64 ((rd_T39 l0_1 x18_2).f0), .int .i64 1, .int .i64 (wrap64 (a0_0 - 1))] (by rfl) rfl rfl zq7 ?_
            with_reducible refine (impl_in.calls ((rd_T39 l0_1 x18_2).f0) 1 (wrap64 (a0_0 - 1)) true _ A17.out).mono ?_
            rintro e w' ⟨rfl, ⟨nd, rfl⟩⟩
            refine ⟨_, rfl, ?_⟩
            refine hK.out _ _ ⟨(blk_cell BK176.out 0).trans rfl, (blk_cell BK176.out 1).trans rfl, (blk_cell BK176.out 2).trans rfl, (blk_cell BK176.out 3).trans rfl, (blk_cell BK173.out 0).trans rfl, (blk_cell BK173.out 1).trans rfl⟩ (fun hHeld => ?_)
            clear hK K
            refine norm_ (a' := ?_) ?_ ?_
            rotate_left
            exact zq296
            refine pV 6 29 41 127 ?_
            refine pV 7 30 41 255 ?_
            refine pV 8 31 41 511 ?_
            refine pV 9 32 41 1023 ?_
            refine pV 10 33 41 2047 ?_
            refine pU 11 34 41 4095 ?_
            refine pU 12 35 41 8191 ?_
            refine pU 13 36 41 16383 ?_
            refine pU 14 37 41 32767 ?_
            refine pU 15 38 41 65535 ?_
            refine pU 16 39 41 131071 ?_
            refine pU 17 40 41 262143 ?_
            refine pU 18 41 41 524287 ?_
            refine pU 19 42 41 1048575 ?_
            refine pU 20 43 41 2097151 ?_
            refine pV 21 44 41 4194303 ?_
            refine pV 22 45 41 8388607 ?_
            refine pV 23 46 41 16777215 ?_
            refine pV 24 47 41 33554431 ?_
            refine tV 25 48 41 67108863 rfl zq293 ?_
            refine one_ (i := 26) (N := some 49) (bA 41 134217727) rfl rfl (one_of HT_.out (by kernel_rfl)) (by decide) (fun K hK => ?_)
            refine goes_ Try.func56 (by kernel_rfl) rfl #[.int .i64 ((rd_T39 l0_1 x18_2).f1)] (by rfl) rfl rfl zq7 ?_
            with_reducible refine (impl_isNodeId.calls ((rd_T39 l0_1 x18_2).f1) true _ A36.out).mono ?_
            rintro e w' ⟨rfl, ⟨nd, rfl⟩⟩
            refine ⟨_, rfl, ?_⟩
            refine hK.out _ _ ⟨(blk_cell BK176.out 0).trans rfl, (blk_cell BK176.out 1).trans rfl, (blk_cell BK176.out 2).trans rfl, (blk_cell BK176.out 3).trans rfl, (blk_cell BK173.out 0).trans rfl, (blk_cell BK173.out 1).trans rfl⟩ (fun hHeld => ?_)
            clear hK K
            refine norm_ (a' := ?_) ?_ ?_
            rotate_left
            exact zq297
            refine pV 27 50 41 268435455 ?_
            refine pV 28 51 41 536870911 ?_
            refine pV 29 52 41 1073741823 ?_
            refine pV 30 53 41 2147483647 ?_
            refine tV 31 54 41 4294967295 rfl zq293 ?_
            refine one_ (i := 32) (N := some 55) (bA 41 8589934591) rfl rfl (one_of HT_.out (by kernel_rfl)) (by decide) (fun K hK => ?_)
            refine goes_ Try.func56 (by kernel_rfl) rfl #[.int .i64 ((rd_T39 l0_1 x18_2).f2)] (by rfl) rfl rfl zq7 ?_
            with_reducible refine (impl_isNodeId.calls ((rd_T39 l0_1 x18_2).f2) true _ A38.out).mono ?_
            rintro e w' ⟨rfl, ⟨nd, rfl⟩⟩
            refine ⟨_, rfl, ?_⟩
            refine hK.out _ _ ⟨(blk_cell BK176.out 0).trans rfl, (blk_cell BK176.out 1).trans rfl, (blk_cell BK176.out 2).trans rfl, (blk_cell BK176.out 3).trans rfl, (blk_cell BK173.out 0).trans rfl, (blk_cell BK173.out 1).trans rfl⟩ (fun hHeld => ?_)
            clear hK K
            refine norm_ (a' := ?_) ?_ ?_
            rotate_left
            exact zq298
            refine pV 33 56 41 17179869183 ?_
            refine pV 34 57 41 34359738367 ?_
            refine pV 35 58 41 68719476735 ?_
            refine pV 36 59 41 137438953471 ?_
            refine tV 37 60 41 274877906943 rfl zq293 ?_
            refine pV 38 61 41 549755813887 ?_
            refine pV 39 62 41 1099511627775 ?_
            refine pV 40 63 41 2199023255551 ?_
            refine done_ (done_of HT_.out (by kernel_rfl)) ?_
            try go_wp2
            go_meet
            case rel => exact ⟨_, (decide ((((rd_T39 l0_1 x18_2).f3).size : Int) > 20000)), zq5, H', ⟨zq115⟩, ⟨zq155⟩, ⟨zq160⟩, ⟨zq159⟩⟩
           replace c39 := Bool.eq_false_iff.mpr c39
           subst c39
           have H1 : (impl_isNet.j2 k2 l0_1 (l0_1.length : Int) x18_2 true a0_0 l0_1) = some r := by rw [if_neg (show ¬ (false = true) by decide)] at H; exact H
           clear H
           have H := H1
           clear H1
           have H' := Aside0.mk H
           clear H
           try go_wp2
           have n0_ : Aside0 (((((w14.setCell ⟨gb176, 0, none⟩ (.int .i64 ((rd_T39 l0_1 x18_2).f0))).setCell ⟨gb176, 1, none⟩ (.int .i64 ((rd_T39 l0_1 x18_2).f1))).setCell ⟨gb176, 2, none⟩ (.int .i64 ((rd_T39 l0_1 x18_2).f2))).setCell ⟨gb176, 3, none⟩ (.string ((rd_T39 l0_1 x18_2).f3))).heap[gb173]? = some (.cells #[.int .i64 a0_0, .slice (some ad175) l0_1.length c0_1] 37 (0, 0))) := ⟨zq157⟩
           have n1_ : Aside0 (((((w14.setCell ⟨gb176, 0, none⟩ (.int .i64 ((rd_T39 l0_1 x18_2).f0))).setCell ⟨gb176, 1, none⟩ (.int .i64 ((rd_T39 l0_1 x18_2).f1))).setCell ⟨gb176, 2, none⟩ (.int .i64 ((rd_T39 l0_1 x18_2).f2))).setCell ⟨gb176, 3, none⟩ (.string ((rd_T39 l0_1 x18_2).f3))).heap[gb176]? = some (.cells #[.int .i64 ((rd_T39 l0_1 x18_2).f0), .int .i64 ((rd_T39 l0_1 x18_2).f1), .int .i64 ((rd_T39 l0_1 x18_2).f2), .string ((rd_T39 l0_1 x18_2).f3)] 39 (0, 0))) := ⟨zq158⟩
           have n2_ : Aside0 (Below w.heap.size w ((((w14.setCell ⟨gb176, 0, none⟩ (.int .i64 ((rd_T39 l0_1 x18_2).f0))).setCell ⟨gb176, 1, none⟩ (.int .i64 ((rd_T39 l0_1 x18_2).f1))).setCell ⟨gb176, 2, none⟩ (.int .i64 ((rd_T39 l0_1 x18_2).f2))).setCell ⟨gb176, 3, none⟩ (.string ((rd_T39 l0_1 x18_2).f3)))) := ⟨zq159⟩
           (try clear BK173)
           (try clear BK176)
           (try clear HB)
           generalize ((((w14.setCell ⟨gb176, 0, none⟩ (.int .i64 ((rd_T39 l0_1 x18_2).f0))).setCell ⟨gb176, 1, none⟩ (.int .i64 ((rd_T39 l0_1 x18_2).f1))).setCell ⟨gb176, 2, none⟩ (.int .i64 ((rd_T39 l0_1 x18_2).f2))).setCell ⟨gb176, 3, none⟩ (.string ((rd_T39 l0_1 x18_2).f3))) = w42 at n0_ n1_ n2_ ⊢
           have BK173 := n0_
           have BK176 := n1_
           have HB := n2_
           clear n0_ n1_ n2_
           replace BK173 := Aside0.mk (blk_drew BK173.out)
           replace BK176 := Aside0.mk (blk_drew BK176.out)
           replace HB := Aside0.mk (below_drew1 HB.out)
           refine start_ (n := 41) (S := fun w' => w'.cell? ⟨gb176, 0, none⟩ = some (.int .i64 ((rd_T39 l0_1 x18_2).f0)) ∧ w'.cell? ⟨gb176, 1, none⟩ = some (.int .i64 ((rd_T39 l0_1 x18_2).f1)) ∧ w'.cell? ⟨gb176, 2, none⟩ = some (.int .i64 ((rd_T39 l0_1 x18_2).f2)) ∧ w'.cell? ⟨gb176, 3, none⟩ = some (.string ((rd_T39 l0_1 x18_2).f3)) ∧ w'.cell? ⟨gb173, 0, none⟩ = some (.int .i64 a0_0) ∧ w'.cell? ⟨gb173, 1, none⟩ = some (.slice (some ad175) l0_1.length c0_1)) (ds := []) (bA 41 0) (by kernel_rfl) rfl rfl ⟨(blk_cell BK176.out 0).trans rfl, (blk_cell BK176.out 1).trans rfl, (blk_cell BK176.out 2).trans rfl, (blk_cell BK176.out 3).trans rfl, (blk_cell BK173.out 0).trans rfl, (blk_cell BK173.out 1).trans rfl⟩ (fun hHeld => ?_); refine with_tabW impl_isNet.tab6 impl_isNet.bits6 (fun HT_ HW_ => ?_)
           generalize w42.drew = w43 at BK173 BK176 HB hHeld ⊢
           refine pV 0 23 41 1 ?_
           refine pV 2 25 41 5 ?_
           refine tV 1 24 41 7 rfl zq293 ?_
           refine tV 3 26 41 15 rfl zq293 ?_
           refine pV 4 27 41 31 ?_
           refine one_ (i := 5) (N := some 28) (bA 41 63) rfl rfl (one_of HT_.out (by kernel_rfl)) (by decide) (fun K hK => ?_)
           refine goes_ Try.func65 (by kernel_rfl) rfl #[.int .i64 ((rd_T39 l0_1 x18_2).f0), .int .i64 1, .int .i64 (wrap64 (a0_0 - 1))] (by rfl) rfl rfl zq7 ?_
           with_reducible refine (impl_in.calls ((rd_T39 l0_1 x18_2).f0) 1 (wrap64 (a0_0 - 1)) true _ A17.out).mono ?_
           rintro e w' ⟨rfl, ⟨nd, rfl⟩⟩
           refine ⟨_, rfl, ?_⟩
           refine hK.out _ _ ⟨(blk_cell BK176.out 0).trans rfl, (blk_cell BK176.out 1).trans rfl, (blk_cell BK176.out 2).trans rfl, (blk_cell BK176.out 3).trans rfl, (blk_cell BK173.out 0).trans rfl, (blk_cell BK173.out 1).trans rfl⟩ (fun hHeld => ?_)
           clear hK K
           refine norm_ (a' := ?_) ?_ ?_
           rotate_left
           exact zq296
           refine pV 6 29 41 127 ?_
           refine pV 7 30 41 255 ?_
           refine pV 8 31 41 511 ?_
           refine pV 9 32 41 1023 ?_
           refine pV 10 33 41 2047 ?_
           refine pU 11 34 41 4095 ?_
           refine pU 12 35 41 8191 ?_
           refine pU 13 36 41 16383 ?_
           refine pU 14 37 41 32767 ?_
           refine pU 15 38 41 65535 ?_
           refine pU 16 39 41 131071 ?_
           refine pU 17 40 41 262143 ?_
           refine pU 18 41 41 524287 ?_
           refine pU 19 42 41 1048575 ?_
           refine pU 20 43 41 2097151 ?_
           refine pV 21 44 41 4194303 ?_
           refine pV 22 45 41 8388607 ?_
           refine pV 23 46 41 16777215 ?_
           refine pV 24 47 41 33554431 ?_
           refine tV 25 48 41 67108863 rfl zq293 ?_
           refine one_ (i := 26) (N := some 49) (bA 41 134217727) rfl rfl (one_of HT_.out (by kernel_rfl)) (by decide) (fun K hK => ?_)
           refine goes_ Try.func56 (by kernel_rfl) rfl #[.int .i64 ((rd_T39 l0_1 x18_2).f1)] (by rfl) rfl rfl zq7 ?_
           with_reducible refine (impl_isNodeId.calls ((rd_T39 l0_1 x18_2).f1) true _ A36.out).mono ?_
           rintro e w' ⟨rfl, ⟨nd, rfl⟩⟩
           refine ⟨_, rfl, ?_⟩
           refine hK.out _ _ ⟨(blk_cell BK176.out 0).trans rfl, (blk_cell BK176.out 1).trans rfl, (blk_cell BK176.out 2).trans rfl, (blk_cell BK176.out 3).trans rfl, (blk_cell BK173.out 0).trans rfl, (blk_cell BK173.out 1).trans rfl⟩ (fun hHeld => ?_)
           clear hK K
           refine norm_ (a' := ?_) ?_ ?_
           rotate_left
           exact zq297
           refine pV 27 50 41 268435455 ?_
           refine pV 28 51 41 536870911 ?_
           refine pV 29 52 41 1073741823 ?_
           refine pV 30 53 41 2147483647 ?_
           refine tV 31 54 41 4294967295 rfl zq293 ?_
           refine one_ (i := 32) (N := some 55) (bA 41 8589934591) rfl rfl (one_of HT_.out (by kernel_rfl)) (by decide) (fun K hK => ?_)
           refine goes_ Try.func56 (by kernel_rfl) rfl #[.int .i64 ((rd_T39 l0_1 x18_2).f2)] (by rfl) rfl rfl zq7 ?_
           with_reducible refine (impl_isNodeId.calls ((rd_T39 l0_1 x18_2).f2) false _ A38.out).mono ?_
           rintro e w' ⟨rfl, ⟨nd, rfl⟩⟩
           refine ⟨_, rfl, ?_⟩
           refine hK.out _ _ ⟨(blk_cell BK176.out 0).trans rfl, (blk_cell BK176.out 1).trans rfl, (blk_cell BK176.out 2).trans rfl, (blk_cell BK176.out 3).trans rfl, (blk_cell BK173.out 0).trans rfl, (blk_cell BK173.out 1).trans rfl⟩ (fun hHeld => ?_)
           clear hK K
           refine norm_ (a' := ?_) ?_ ?_
           rotate_left
           exact zq298
           refine pV 33 56 41 17179869183 ?_
           refine pV 34 57 41 34359738367 ?_
           refine pV 35 58 41 68719476735 ?_
           refine pU 36 59 41 137438953471 ?_
           refine pU 37 60 41 274877906943 ?_
           refine pU 38 61 41 549755813887 ?_
           refine pU 39 62 41 1099511627775 ?_
           refine pV 40 63 41 2199023255551 ?_
           refine done_ (done_of HT_.out (by kernel_rfl)) ?_
           try go_wp2
           go_meet
           case rel => exact ⟨_, (true), zq5, H', ⟨zq115⟩, ⟨zq155⟩, ⟨zq160⟩, ⟨zq159⟩⟩
          replace c37 := Bool.eq_false_iff.mpr c37
          subst c37
          have H1 : (impl_isNet.j2 k2 l0_1 (l0_1.length : Int) x18_2 true a0_0 l0_1) = some r := by rw [if_neg (show ¬ (false = true) by decide)] at H; exact H
          clear H
          have H := H1
          clear H1
          have H' := Aside0.mk H
          clear H
          try go_wp2
          have n0_ : Aside0 (((((w14.setCell ⟨gb176, 0, none⟩ (.int .i64 ((rd_T39 l0_1 x18_2).f0))).setCell ⟨gb176, 1, none⟩ (.int .i64 ((rd_T39 l0_1 x18_2).f1))).setCell ⟨gb176, 2, none⟩ (.int .i64 ((rd_T39 l0_1 x18_2).f2))).setCell ⟨gb176, 3, none⟩ (.string ((rd_T39 l0_1 x18_2).f3))).heap[gb173]? = some (.cells #[.int .i64 a0_0, .slice (some ad175) l0_1.length c0_1] 37 (0, 0))) := ⟨zq157⟩
          have n1_ : Aside0 (((((w14.setCell ⟨gb176, 0, none⟩ (.int .i64 ((rd_T39 l0_1 x18_2).f0))).setCell ⟨gb176, 1, none⟩ (.int .i64 ((rd_T39 l0_1 x18_2).f1))).setCell ⟨gb176, 2, none⟩ (.int .i64 ((rd_T39 l0_1 x18_2).f2))).setCell ⟨gb176, 3, none⟩ (.string ((rd_T39 l0_1 x18_2).f3))).heap[gb176]? = some (.cells #[.int .i64 ((rd_T39 l0_1 x18_2).f0), .int .i64 ((rd_T39 l0_1 x18_2).f1), .int .i64 ((rd_T39 l0_1 x18_2).f2), .string ((rd_T39 l0_1 x18_2).f3)] 39 (0, 0))) := ⟨zq158⟩
          have n2_ : Aside0 (Below w.heap.size w ((((w14.setCell ⟨gb176, 0, none⟩ (.int .i64 ((rd_T39 l0_1 x18_2).f0))).setCell ⟨gb176, 1, none⟩ (.int .i64 ((rd_T39 l0_1 x18_2).f1))).setCell ⟨gb176, 2, none⟩ (.int .i64 ((rd_T39 l0_1 x18_2).f2))).setCell ⟨gb176, 3, none⟩ (.string ((rd_T39 l0_1 x18_2).f3)))) := ⟨zq159⟩
          (try clear BK173)
          (try clear BK176)
          (try clear HB)
          generalize ((((w14.setCell ⟨gb176, 0, none⟩ (.int .i64 ((rd_T39 l0_1 x18_2).f0))).setCell ⟨gb176, 1, none⟩ (.int .i64 ((rd_T39 l0_1 x18_2).f1))).setCell ⟨gb176, 2, none⟩ (.int .i64 ((rd_T39 l0_1 x18_2).f2))).setCell ⟨gb176, 3, none⟩ (.string ((rd_T39 l0_1 x18_2).f3))) = w44 at n0_ n1_ n2_ ⊢
          have BK173 := n0_
          have BK176 := n1_
          have HB := n2_
          clear n0_ n1_ n2_
          replace BK173 := Aside0.mk (blk_drew BK173.out)
          replace BK176 := Aside0.mk (blk_drew BK176.out)
          replace HB := Aside0.mk (below_drew1 HB.out)
          refine start_ (n := 41) (S := fun w' => w'.cell? ⟨gb176, 0, none⟩ = some (.int .i64 ((rd_T39 l0_1 x18_2).f0)) ∧ w'.cell? ⟨gb176, 1, none⟩ = some (.int .i64 ((rd_T39 l0_1 x18_2).f1)) ∧ w'.cell? ⟨gb176, 2, none⟩ = some (.int .i64 ((rd_T39 l0_1 x18_2).f2)) ∧ w'.cell? ⟨gb176, 3, none⟩ = some (.string ((rd_T39 l0_1 x18_2).f3)) ∧ w'.cell? ⟨gb173, 0, none⟩ = some (.int .i64 a0_0) ∧ w'.cell? ⟨gb173, 1, none⟩ = some (.slice (some ad175) l0_1.length c0_1)) (ds := []) (bA 41 0) (by kernel_rfl) rfl rfl ⟨(blk_cell BK176.out 0).trans rfl, (blk_cell BK176.out 1).trans rfl, (blk_cell BK176.out 2).trans rfl, (blk_cell BK176.out 3).trans rfl, (blk_cell BK173.out 0).trans rfl, (blk_cell BK173.out 1).trans rfl⟩ (fun hHeld => ?_); refine with_tabW impl_isNet.tab6 impl_isNet.bits6 (fun HT_ HW_ => ?_)
          generalize w44.drew = w45 at BK173 BK176 HB hHeld ⊢
          refine pV 0 23 41 1 ?_
          refine pV 2 25 41 5 ?_
          refine tV 1 24 41 7 rfl zq293 ?_
          refine tV 3 26 41 15 rfl zq293 ?_
          refine pV 4 27 41 31 ?_
          refine one_ (i := 5) (N := some 28) (bA 41 63) rfl rfl (one_of HT_.out (by kernel_rfl)) (by decide) (fun K hK => ?_)
          refine goes_ Try.func65 (by kernel_rfl) rfl #[.int .i64 ((rd_T39 l0_1 x18_2).f0), .int .i64 1, .int .i64 (wrap64 (a0_0 - 1))] (by rfl) rfl rfl zq7 ?_
          with_reducible refine (impl_in.calls ((rd_T39 l0_1 x18_2).f0) 1 (wrap64 (a0_0 - 1)) true _ A17.out).mono ?_
          rintro e w' ⟨rfl, ⟨nd, rfl⟩⟩
          refine ⟨_, rfl, ?_⟩
          refine hK.out _ _ ⟨(blk_cell BK176.out 0).trans rfl, (blk_cell BK176.out 1).trans rfl, (blk_cell BK176.out 2).trans rfl, (blk_cell BK176.out 3).trans rfl, (blk_cell BK173.out 0).trans rfl, (blk_cell BK173.out 1).trans rfl⟩ (fun hHeld => ?_)
          clear hK K
          refine norm_ (a' := ?_) ?_ ?_
          rotate_left
          exact zq296
          refine pV 6 29 41 127 ?_
          refine pV 7 30 41 255 ?_
          refine pV 8 31 41 511 ?_
          refine pV 9 32 41 1023 ?_
          refine pV 10 33 41 2047 ?_
          refine pU 11 34 41 4095 ?_
          refine pU 12 35 41 8191 ?_
          refine pU 13 36 41 16383 ?_
          refine pU 14 37 41 32767 ?_
          refine pU 15 38 41 65535 ?_
          refine pU 16 39 41 131071 ?_
          refine pU 17 40 41 262143 ?_
          refine pU 18 41 41 524287 ?_
          refine pU 19 42 41 1048575 ?_
          refine pU 20 43 41 2097151 ?_
          refine pV 21 44 41 4194303 ?_
          refine pV 22 45 41 8388607 ?_
          refine pV 23 46 41 16777215 ?_
          refine pV 24 47 41 33554431 ?_
          refine tV 25 48 41 67108863 rfl zq293 ?_
          refine one_ (i := 26) (N := some 49) (bA 41 134217727) rfl rfl (one_of HT_.out (by kernel_rfl)) (by decide) (fun K hK => ?_)
          refine goes_ Try.func56 (by kernel_rfl) rfl #[.int .i64 ((rd_T39 l0_1 x18_2).f1)] (by rfl) rfl rfl zq7 ?_
          with_reducible refine (impl_isNodeId.calls ((rd_T39 l0_1 x18_2).f1) false _ A36.out).mono ?_
          rintro e w' ⟨rfl, ⟨nd, rfl⟩⟩
          refine ⟨_, rfl, ?_⟩
          refine hK.out _ _ ⟨(blk_cell BK176.out 0).trans rfl, (blk_cell BK176.out 1).trans rfl, (blk_cell BK176.out 2).trans rfl, (blk_cell BK176.out 3).trans rfl, (blk_cell BK173.out 0).trans rfl, (blk_cell BK173.out 1).trans rfl⟩ (fun hHeld => ?_)
          clear hK K
          refine norm_ (a' := ?_) ?_ ?_
          rotate_left
          exact zq297
          refine pV 27 50 41 268435455 ?_
          refine pV 28 51 41 536870911 ?_
          refine pV 29 52 41 1073741823 ?_
          refine pU 30 53 41 2147483647 ?_
          refine pU 31 54 41 4294967295 ?_
          refine pU 32 55 41 8589934591 ?_
          refine pU 33 56 41 17179869183 ?_
          refine pV 34 57 41 34359738367 ?_
          refine pV 35 58 41 68719476735 ?_
          refine pU 36 59 41 137438953471 ?_
          refine pU 37 60 41 274877906943 ?_
          refine pU 38 61 41 549755813887 ?_
          refine pU 39 62 41 1099511627775 ?_
          refine pV 40 63 41 2199023255551 ?_
          refine done_ (done_of HT_.out (by kernel_rfl)) ?_
          try go_wp2
          go_meet
          case rel => exact ⟨_, (true), zq5, H', ⟨zq115⟩, ⟨zq155⟩, ⟨zq160⟩, ⟨zq159⟩⟩
         replace c18 := Bool.eq_false_iff.mpr c18
         subst c18
         have H1 : (impl_isNet.j2 k2 l0_1 (l0_1.length : Int) x18_2 true a0_0 l0_1) = some r := by rw [if_neg (show ¬ (false = true) by decide)] at H; exact H
         clear H
         have H := H1
         clear H1
         have H' := Aside0.mk H
         clear H
         try go_wp2
         have n0_ : Aside0 (((((w14.setCell ⟨gb176, 0, none⟩ (.int .i64 ((rd_T39 l0_1 x18_2).f0))).setCell ⟨gb176, 1, none⟩ (.int .i64 ((rd_T39 l0_1 x18_2).f1))).setCell ⟨gb176, 2, none⟩ (.int .i64 ((rd_T39 l0_1 x18_2).f2))).setCell ⟨gb176, 3, none⟩ (.string ((rd_T39 l0_1 x18_2).f3))).heap[gb173]? = some (.cells #[.int .i64 a0_0, .slice (some ad175) l0_1.length c0_1] 37 (0, 0))) := ⟨zq157⟩
         have n1_ : Aside0 (((((w14.setCell ⟨gb176, 0, none⟩ (.int .i64 ((rd_T39 l0_1 x18_2).f0))).setCell ⟨gb176, 1, none⟩ (.int .i64 ((rd_T39 l0_1 x18_2).f1))).setCell ⟨gb176, 2, none⟩ (.int .i64 ((rd_T39 l0_1 x18_2).f2))).setCell ⟨gb176, 3, none⟩ (.string ((rd_T39 l0_1 x18_2).f3))).heap[gb176]? = some (.cells #[.int .i64 ((rd_T39 l0_1 x18_2).f0), .int .i64 ((rd_T39 l0_1 x18_2).f1), .int .i64 ((rd_T39 l0_1 x18_2).f2), .string ((rd_T39 l0_1 x18_2).f3)] 39 (0, 0))) := ⟨zq158⟩
         have n2_ : Aside0 (Below w.heap.size w ((((w14.setCell ⟨gb176, 0, none⟩ (.int .i64 ((rd_T39 l0_1 x18_2).f0))).setCell ⟨gb176, 1, none⟩ (.int .i64 ((rd_T39 l0_1 x18_2).f1))).setCell ⟨gb176, 2, none⟩ (.int .i64 ((rd_T39 l0_1 x18_2).f2))).setCell ⟨gb176, 3, none⟩ (.string ((rd_T39 l0_1 x18_2).f3)))) := ⟨zq159⟩
         (try clear BK173)
         (try clear BK176)
         (try clear HB)
         generalize ((((w14.setCell ⟨gb176, 0, none⟩ (.int .i64 ((rd_T39 l0_1 x18_2).f0))).setCell ⟨gb176, 1, none⟩ (.int .i64 ((rd_T39 l0_1 x18_2).f1))).setCell ⟨gb176, 2, none⟩ (.int .i64 ((rd_T39 l0_1 x18_2).f2))).setCell ⟨gb176, 3, none⟩ (.string ((rd_T39 l0_1 x18_2).f3))) = w46 at n0_ n1_ n2_ ⊢
         have BK173 := n0_
         have BK176 := n1_
         have HB := n2_
         clear n0_ n1_ n2_
         replace BK173 := Aside0.mk (blk_drew BK173.out)
         replace BK176 := Aside0.mk (blk_drew BK176.out)
         replace HB := Aside0.mk (below_drew1 HB.out)
         refine start_ (n := 41) (S := fun w' => w'.cell? ⟨gb176, 0, none⟩ = some (.int .i64 ((rd_T39 l0_1 x18_2).f0)) ∧ w'.cell? ⟨gb176, 1, none⟩ = some (.int .i64 ((rd_T39 l0_1 x18_2).f1)) ∧ w'.cell? ⟨gb176, 2, none⟩ = some (.int .i64 ((rd_T39 l0_1 x18_2).f2)) ∧ w'.cell? ⟨gb176, 3, none⟩ = some (.string ((rd_T39 l0_1 x18_2).f3)) ∧ w'.cell? ⟨gb173, 0, none⟩ = some (.int .i64 a0_0) ∧ w'.cell? ⟨gb173, 1, none⟩ = some (.slice (some ad175) l0_1.length c0_1)) (ds := []) (bA 41 0) (by kernel_rfl) rfl rfl ⟨(blk_cell BK176.out 0).trans rfl, (blk_cell BK176.out 1).trans rfl, (blk_cell BK176.out 2).trans rfl, (blk_cell BK176.out 3).trans rfl, (blk_cell BK173.out 0).trans rfl, (blk_cell BK173.out 1).trans rfl⟩ (fun hHeld => ?_); refine with_tabW impl_isNet.tab6 impl_isNet.bits6 (fun HT_ HW_ => ?_)
         generalize w46.drew = w47 at BK173 BK176 HB hHeld ⊢
         refine pV 0 23 41 1 ?_
         refine pV 2 25 41 5 ?_
         refine tV 1 24 41 7 rfl zq293 ?_
         refine tV 3 26 41 15 rfl zq293 ?_
         refine pV 4 27 41 31 ?_
         refine one_ (i := 5) (N := some 28) (bA 41 63) rfl rfl (one_of HT_.out (by kernel_rfl)) (by decide) (fun K hK => ?_)
         refine goes_ Try.func65 (by kernel_rfl) rfl #[.int .i64 ((rd_T39 l0_1 x18_2).f0), .int .i64 1, .int .i64 (wrap64 (a0_0 - 1))] (by rfl) rfl rfl zq7 ?_
         with_reducible refine (impl_in.calls ((rd_T39 l0_1 x18_2).f0) 1 (wrap64 (a0_0 - 1)) false _ A17.out).mono ?_
         rintro e w' ⟨rfl, ⟨nd, rfl⟩⟩
         refine ⟨_, rfl, ?_⟩
         refine hK.out _ _ ⟨(blk_cell BK176.out 0).trans rfl, (blk_cell BK176.out 1).trans rfl, (blk_cell BK176.out 2).trans rfl, (blk_cell BK176.out 3).trans rfl, (blk_cell BK173.out 0).trans rfl, (blk_cell BK173.out 1).trans rfl⟩ (fun hHeld => ?_)
         clear hK K
         refine norm_ (a' := ?_) ?_ ?_
         rotate_left
         exact zq296
         refine pV 6 29 41 127 ?_
         refine pV 7 30 41 255 ?_
         refine pU 8 31 41 511 ?_
         refine pU 9 32 41 1023 ?_
         refine pU 10 33 41 2047 ?_
         refine pU 11 34 41 4095 ?_
         refine pU 12 35 41 8191 ?_
         refine pU 13 36 41 16383 ?_
         refine pU 14 37 41 32767 ?_
         refine pU 15 38 41 65535 ?_
         refine pU 16 39 41 131071 ?_
         refine pU 17 40 41 262143 ?_
         refine pU 18 41 41 524287 ?_
         refine pU 19 42 41 1048575 ?_
         refine pU 20 43 41 2097151 ?_
         refine pU 21 44 41 4194303 ?_
         refine pV 22 45 41 8388607 ?_
         refine pV 23 46 41 16777215 ?_
         refine pU 24 47 41 33554431 ?_
         refine pU 25 48 41 67108863 ?_
         refine pU 26 49 41 134217727 ?_
         refine pU 27 50 41 268435455 ?_
         refine pV 28 51 41 536870911 ?_
         refine pV 29 52 41 1073741823 ?_
         refine pU 30 53 41 2147483647 ?_
         refine pU 31 54 41 4294967295 ?_
         refine pU 32 55 41 8589934591 ?_
         refine pU 33 56 41 17179869183 ?_
         refine pV 34 57 41 34359738367 ?_
         refine pV 35 58 41 68719476735 ?_
         refine pU 36 59 41 137438953471 ?_
         refine pU 37 60 41 274877906943 ?_
         refine pU 38 61 41 549755813887 ?_
         refine pU 39 62 41 1099511627775 ?_
         refine pV 40 63 41 2199023255551 ?_
         refine done_ (done_of HT_.out (by kernel_rfl)) ?_
         try go_wp2
         go_meet
         case rel => exact ⟨_, (true), zq5, H', ⟨zq115⟩, ⟨zq155⟩, ⟨zq160⟩, ⟨zq159⟩⟩
        case rest =>
         clear HC13
         try clear c1
         try clear p2
         try clear c3
         try clear c5
         try clear c6
         try clear p6
         try clear c18
         try clear c37
         obtain ⟨kq, x63_12, rfl, HA, HJ12, BK173, BK176, HB⟩ := hcut
         cases kq with
         | zero => exact absurd HA.out (by simp [impl_isNet.j2])
         | succ kj12 =>
          have H := HA.out
          clear HA
          simp only [impl_isNet.j2] at H
          by_cases c48 : x63_12 = true
          ·
           subst c48
           have H1 : (some false) = some r := by rw [if_pos rfl] at H; exact H
           clear H
           have H := H1
           clear H1
           obtain rfl := Option.some.inj H
           go_wp2
           go_ret
           exact ⟨zq3, zq159⟩
          replace c48 := Bool.eq_false_iff.mpr c48
          subst c48
          have H1 : (impl_isNet.l0 kj12 l0_1 (l0_1.length : Int) (wrap64 (x18_2 + 1)) a0_0 l0_1) = some r := by rw [if_neg (show ¬ (false = true) by decide)] at H; exact H
          clear H
          have H := H1
          clear H1
          have H' := Aside0.mk H
          clear H
          go_wp2
          go_roundg kj12
          case measure => have := HJ1.out; have := HK2.out; have := HJ12.out; omega
          case rel => exact ⟨(wrap64 (x18_2 + 1)), zq5, H', ⟨by have := HJ1.out; have := HK2.out; have := HJ12.out; omega⟩, ⟨zq155⟩, ⟨zq159⟩⟩
       rw [if_neg c12] at H
       exact absurd H (by simp)
      rw [if_neg c11] at H
      exact absurd H (by simp)
     rw [if_neg c10] at H
     have c10b0 := decide_eq_false c10
     clear c10
     obtain rfl := Option.some.inj H
     go_wp2
     go_ret
     exact ⟨zq3, zq156⟩

end Go.Proofs.Ytklaigmpceacaaa.QFnExactTake
