/- Written by wip/myprint.py of this repo (the kit's print, with additions of this session). -/
import Derived.Test.YtklaigmpceacaaaQFnPostedx0
import Derived.Test.YtklaigmpceacaaaQFnPostedx3
import Derived.Test.YtklaigmpceacaaaQFnPostedx4
set_option maxRecDepth 100000
namespace Go.Proofs.Ytklaigmpceacaaa.QFnPosted
open Go.RowKit Go.Proofs.YtklaigmpceacaaaW.PrintWords Go.Proofs.YtklaigmpceacaaaW.PrintLast Go.Proofs.YtklaigmpceacaaaW.PrintMore
attribute [local go_sem] max2_int min2_int max_two min_two max_three min_three max_four min_four   -- for this text's walks alone
set_option linter.unusedVariables false
set_option linter.unusedSimpArgs false

/-! ### spec_NetOk: function 38 -/
mutual
def spec_NetOk.j0 : Nat → Bool → Int → List (S39) → Option (Bool)
 | 0, _, _, _ => none
 | k + 1, x14, x140000, x140001 => if x14 = true then (some false) else (spec_NetOk.l0 k 0 x140000 x140001)
def spec_NetOk.l0 : Nat → Int → Int → List (S39) → Option (Bool)
 | 0, _, _, _ => none
 | k + 1, x3, x140000, x140001 => if x3 < (x140001.length : Int) then (if 0 ≤ x3 then ((spec_l1In.f ((rd_T39 x140001 x3).f0) 1 (wrap64 (x140000 - 1))).bind fun t143 => (if t143 = true then ((spec_l8Ends.f ((rd_T39 x140001 x3).f1) ((rd_T39 x140001 x3).f2) ((rd_T39 x140001 x3).f3)).bind fun t144 => (if t144 = true then (if x3 > 0 then (if 0 ≤ (wrap64 (x3 - 1)) then (if (wrap64 (x3 - 1)) < (x140001.length : Int) then (spec_NetOk.j2 k x3 (decide (((rd_T39 x140001 x3).f0) ≤ ((rd_T39 x140001 (wrap64 (x3 - 1))).f0))) x140000 x140001) else (none)) else (none)) else (spec_NetOk.j2 k x3 false x140000 x140001)) else (spec_NetOk.j2 k x3 true x140000 x140001))) else (spec_NetOk.j2 k x3 true x140000 x140001))) else (none)) else (some true)
def spec_NetOk.j2 : Nat → Int → Bool → Int → List (S39) → Option (Bool)
 | 0, _, _, _, _ => none
 | k + 1, x3, x59, x140000, x140001 => if x59 = true then (some false) else (spec_NetOk.l0 k (wrap64 (x3 + 1)) x140000 x140001)
end
def spec_NetOk.f (k : Nat) (a0_0 : Int) (l0_1 : List (S39)) : Option (Bool) := (spec_l1In.f a0_0 1 1000000000000).bind fun t140 => (if t140 = true then (spec_NetOk.j0 k (decide ((l0_1.length : Int) > 300)) a0_0 l0_1) else (spec_NetOk.j0 k true a0_0 l0_1))
theorem spec_NetOk.mono_l : ∀ k, (∀ y0 y1 y2, LeO (spec_NetOk.j0 k y0 y1 y2) (spec_NetOk.j0 (k + 1) y0 y1 y2)) ∧ (∀ y0 y1 y2, LeO (spec_NetOk.l0 k y0 y1 y2) (spec_NetOk.l0 (k + 1) y0 y1 y2)) ∧ (∀ y0 y1 y2 y3, LeO (spec_NetOk.j2 k y0 y1 y2 y3) (spec_NetOk.j2 (k + 1) y0 y1 y2 y3))
 | 0 => ⟨fun _ _ _ r h => by simp [spec_NetOk.j0] at h, fun _ _ _ r h => by simp [spec_NetOk.l0] at h, fun _ _ _ _ r h => by simp [spec_NetOk.j2] at h⟩
 | k + 1 => by
  obtain ⟨ih0, ih1, ih2⟩ := spec_NetOk.mono_l k; refine ⟨?_, ?_, ?_⟩
  ·
   intro y0 y1 y2; unfold spec_NetOk.j0
   repeat' first
   | (with_reducible exact ih0 _ _ _)
   | (with_reducible exact ih1 _ _ _)
   | (with_reducible exact ih2 _ _ _ _)
   | (with_reducible exact LeO.refl _)
   | (with_reducible exact LeO.none _)
   | (with_reducible refine LeO.ite ?_ ?_)
   | (with_reducible refine LeO.bind ?_ (fun _ => ?_))
   | exact LeO.none _
   | refine LeO.ite ?_ ?_
   | refine LeO.bind ?_ (fun _ => ?_)
  ·
   intro y0 y1 y2; unfold spec_NetOk.l0
   repeat' first
   | (with_reducible exact ih0 _ _ _)
   | (with_reducible exact ih1 _ _ _)
   | (with_reducible exact ih2 _ _ _ _)
   | (with_reducible exact LeO.refl _)
   | (with_reducible exact LeO.none _)
   | (with_reducible refine LeO.ite ?_ ?_)
   | (with_reducible refine LeO.bind ?_ (fun _ => ?_))
   | exact LeO.none _
   | refine LeO.ite ?_ ?_
   | refine LeO.bind ?_ (fun _ => ?_)
  intro y0 y1 y2 y3; unfold spec_NetOk.j2
  repeat' first
  | (with_reducible exact ih0 _ _ _)
  | (with_reducible exact ih1 _ _ _)
  | (with_reducible exact ih2 _ _ _ _)
  | (with_reducible exact LeO.refl _)
  | (with_reducible exact LeO.none _)
  | (with_reducible refine LeO.ite ?_ ?_)
  | (with_reducible refine LeO.bind ?_ (fun _ => ?_))
  | exact LeO.none _
  | refine LeO.ite ?_ ?_
  | refine LeO.bind ?_ (fun _ => ?_)
theorem spec_NetOk.mono : ∀ a0 a1 k, LeO (spec_NetOk.f k a0 a1) (spec_NetOk.f (k + 1) a0 a1) := by
 intro a0 a1 k; obtain ⟨ih0, ih1, ih2⟩ := spec_NetOk.mono_l k; unfold spec_NetOk.f
 repeat' first
   | (with_reducible exact ih0 _ _ _)
   | (with_reducible exact ih1 _ _ _)
   | (with_reducible exact ih2 _ _ _ _)
   | (with_reducible exact LeO.refl _)
   | (with_reducible exact LeO.none _)
   | (with_reducible refine LeO.ite ?_ ?_)
   | (with_reducible refine LeO.bind ?_ (fun _ => ?_))
   | exact LeO.none _
   | refine LeO.ite ?_ ?_
   | refine LeO.bind ?_ (fun _ => ?_)
def spec_NetOk.T7 : Bool × List (List Nat × List Nat) := (true, [([], []), ([0], [0]), ([], []), ([2], [2]), ([3], [3]), ([1, 4], [1, 4]), ([5], [5]), ([6, 5], [6]), ([7], [7]), ([8, 7], [7, 8]), ([7], [7]), ([10, 7], [7, 10]), ([7], [7]), ([12, 7], [7, 12]), ([9, 11, 13, 7, 7], [7, 9, 11, 13]), ([14, 7], [7, 14]), ([7, 15], [7, 15]), ([16, 14], [16]), ([17], [17]), ([18, 17], [17, 18]), ([19, 17, 17], [17, 19]), ([20], [20]), ([21, 20], [20, 21]), ([20], [20]), ([23, 20], [20, 23]), ([20], [20]), ([25, 20], [20, 25]), ([24, 26, 20], [20, 24, 26]), ([27, 20], [20, 27]), ([28, 20], [20, 28]), ([22, 29, 20], [20, 22, 29]), ([20, 30, 17], [17, 20, 30]), ([17, 31], [17, 31])])
def spec_NetOk.B7 : List Nat := [0, 1, 0, 4, 12, 31, 63, 127, 255, 511, 255, 1279, 255, 4351, 16383, 32767, 65535, 131071, 262143, 524287, 1048575, 2097151, 4194303, 2097151, 10485759, 2097151, 35651583, 127926271, 262143999, 530579455, 1073741823, 2147483647, 4294967295]
theorem spec_NetOk.tab7 : rtab .any (opsOf Try.f38 7) = spec_NetOk.T7 := by kernel_rfl
theorem spec_NetOk.bits7 : waitsOk spec_NetOk.T7.2 spec_NetOk.B7 = true := by kernel_rfl
set_option maxHeartbeats 8000000 in
set_option maxRecDepth 100000 in
theorem spec_NetOk.calls (k : Nat) (a0_0 : Int) (A0_1 : Option Addr) (c0_1 : Nat) (l0_1 : List (S39)) (r : Bool) (w : World) (hr0_1 : Kd.C k39 w A0_1 l0_1.length l0_1) (hc0_1 : l0_1.length ≤ c0_1) (h : spec_NetOk.f k a0_0 l0_1 = some r) :
  Calls Try.prog 38 #[.agg #[.int .i64 a0_0, .slice A0_1 l0_1.length c0_1]] w fun e w' => e = .returned (.bool r) ∧ Below w.heap.size w w' := by
 have hu37 := Try.underlying37; have hu39 := Try.underlying39; have HR0_1 := aM hr0_1; have HC0_1 := aM hc0_1; clear hr0_1 hc0_1; have HB := aM (Below.refl w.heap.size w); unfold spec_NetOk.f at h; have H := h; clear h; have HC2 := aM H; clear H; go_enter Try.func38, Try.ntmps38
 go_upto_region 1 with (first | ((with_reducible refine gD 1 rfl ?_); (try (refine gate_guard (by rfl) ?_; dsimp only)); refine box_event ?hg (N := 1) ?hd (cs := #[.int .i64 a0_0, .slice A0_1 l0_1.length c0_1]) (t := 37) ?hr ?_; (case hd => rfl); (case hg => rfl); (case hr => exact zq1); intro gb139 hg w3 hbox hb; have BK139 := aM hbox; have GW139 := aM (zq229 : w.heap.size ≤ gb139); have GE139 := aM (zq229 : w.heap.size ≤ gb139); replace HB := sB zq2 hb; clear hb hbox hg))
 (try simp only [Act.put, List.setIfInBounds_toArray, List.set_cons_zero, List.set_cons_succ])
 go_cut [14] (fun v14 wc => ∃ (kq : Nat) (x14_1 : Bool), v14 = .bool x14_1 ∧ Aside0 (spec_NetOk.j0 kq x14_1 a0_0 l0_1 = some r) ∧ Aside0 (kq ≤ k) ∧ Aside0 (wc.heap[gb139]? = some (.cells #[.int .i64 a0_0, (.slice A0_1 l0_1.length c0_1)] 37 (0, 0))) ∧ Aside0 (Below w.heap.size w wc))
 case first =>
  have H := HC2.out; clear HC2; replace H := Option.bind_eq_some_iff.mp H; obtain ⟨t140, A40, H⟩ := H; (try dsimp only at H); have A4 := aM A40; clear A40; by_cases c5 : t140 = true
  ·
   subst c5; rw [if_pos rfl] at H; have H' := aM H; clear H; obtain ⟨hcz6_0, hcz6_1, hfz6_0, hfz6_1⟩ := cells2_ (w := w3) BK139
   go_wp2_with (first | ((with_reducible refine gC 63 rfl ?_); refine gL 7 Try.func63 #[.int .i64 a0_0, .int .i64 1, .int .i64 1000000000000] ?_; (with_reducible refine (spec_l1In.calls a0_0 1 1000000000000 true _ A4.out).mono ?_); rintro e w' ⟨rfl, ⟨nd, rfl⟩⟩; refine ⟨_, rfl, ?_⟩))
   go_meet
   case rel => exact ⟨_, (decide ((l0_1.length : Int) > 300)), zq10, H', ⟨zq39⟩, ⟨zq167⟩, ⟨zq168⟩⟩
  replace c5 := Bool.eq_false_iff.mpr c5; subst c5; rw [if_neg (show ¬ (false = true) by decide)] at H; have H' := aM H; clear H; obtain ⟨hcz7_0, hcz7_1, hfz7_0, hfz7_1⟩ := cells2_ (w := w3) BK139
  go_wp2_with (first | ((with_reducible refine gC 63 rfl ?_); refine gL 7 Try.func63 #[.int .i64 a0_0, .int .i64 1, .int .i64 1000000000000] ?_; (with_reducible refine (spec_l1In.calls a0_0 1 1000000000000 false _ A4.out).mono ?_); rintro e w' ⟨rfl, ⟨nd, rfl⟩⟩; refine ⟨_, rfl, ?_⟩))
  go_meet
  case rel => exact ⟨_, (true), zq10, H', ⟨zq39⟩, ⟨zq167⟩, ⟨zq168⟩⟩
 case rest =>
  clear HC2; (try clear p2); (try clear c3); (try clear c5); (try clear c6); (try clear hcz6_0); (try clear hcz6_1); (try clear hcz7_0); (try clear hcz7_1); (try clear hfz6_0); (try clear hfz6_1); (try clear hfz7_0); (try clear hfz7_1); obtain ⟨kq, x14_1, rfl, HA, HJ1, BK139, HB⟩ := hcut
  cases kq with
  | zero => exact absurd HA.out (by simp [spec_NetOk.j0])
  | succ kj1 =>
   have H := HA.out; clear HA; simp only [spec_NetOk.j0] at H; by_cases c8 : x14_1 = true
   ·
    subst c8; rw [if_pos rfl] at H; obtain rfl := Option.some.inj H; go_wp2; go_ret; exact ⟨zq9, zq168⟩
   replace c8 := Bool.eq_false_iff.mpr c8; subst c8; rw [if_neg (show ¬ (false = true) by decide)] at H; have H' := aM H; clear H; go_wp2
   go_loopg [3] kj1 (fun kq v3 w' => ∃ (x3_2 : Int), v3 = .int .i64 x3_2 ∧ Aside0 (spec_NetOk.l0 kq x3_2 a0_0 l0_1 = some r) ∧ Aside0 (kq ≤ kj1) ∧ Aside0 (w'.heap[gb139]? = some (.cells #[.int .i64 a0_0, (.slice A0_1 l0_1.length c0_1)] 37 (0, 0))) ∧ Aside0 (Below w.heap.size w w'))
   case atStart => exact ⟨(0), zq10, H', ⟨Nat.le_refl _⟩, ⟨zq167⟩, ⟨zq168⟩⟩
   case round =>
    clear H'; (try clear p2); (try clear c3); (try clear c5); (try clear c6); (try clear c8); (try clear hcz6_0); (try clear hcz6_1); (try clear hcz7_0); (try clear hcz7_1); (try clear hfz6_0); (try clear hfz6_1); (try clear hfz7_0); (try clear hfz7_1); (try clear p2); obtain ⟨x3_2, rfl, HA, HK2, BK139, HB⟩ := hrel
    cases gk with
    | zero => exact absurd HA.out (by simp [spec_NetOk.l0])
    | succ k2 =>
     have H := HA.out; clear HA; simp only [spec_NetOk.l0] at H; by_cases c9 : x3_2 < (l0_1.length : Int)
     ·
      rw [if_pos c9] at H; have c9b0 := decide_eq_true c9; clear c9; by_cases c10 : 0 ≤ x3_2
      ·
       rw [if_pos c10] at H; have c10b0 := decide_eq_true c10; clear c10; have HC11 := aM H; clear H; obtain ⟨hcz12_0, hcz12_1, hfz12_0, hfz12_1⟩ := cells2_ (w := wr) BK139; have p141 : 0 ≤ (x3_2 : Int) := of_decide_eq_true zq26; have q141 : x3_2 < (l0_1.length : Int) := of_decide_eq_true zq26; obtain ⟨ad141, e141, hx141_0, hx141_1, hx141_2, hx141_3⟩ := at_T39 HR0_1.out x3_2 p141 q141; cases e141; replace hx141_0 := hxB HB hx141_0; replace hx141_1 := hxB HB hx141_1; replace hx141_2 := hxB HB hx141_2; replace hx141_3 := hxB HB hx141_3; replace p141 := eq_true p141; replace q141 := eq_true q141
       go_upto_region 7 with (first | ((with_reducible refine gD 4 rfl ?_); (try (refine gate_guard (by rfl) ?_; dsimp only)); refine box_event ?hg (N := 4) ?hd (cs := #[.int .i64 0, .int .i64 0, .int .i64 0, .string (⟨#[]⟩ : ByteArray)]) (t := 39) ?hr ?_; (case hd => rfl); (case hg => rfl); (case hr => exact zq1); intro gb142 hg w13 hbox hb; have BK142 := aM hbox; have GW142 := aM (by rw [hg]; exact (below_size zq168) : w.heap.size ≤ gb142); have GE142 := aM (by rw [hg]; exact (below_size zq168) : w.heap.size ≤ gb142); replace HB := sB zq168 hb; have NB139_142 := aM (by rw [hg]; exact Nat.ne_of_lt (blk_lt (g := gb139) (o := .cells #[.int .i64 a0_0, .slice (some ad141) l0_1.length c0_1] 37 (0, 0)) zq167) : gb139 ≠ gb142); have NB142_139 := aM (by rw [hg]; exact Nat.ne_of_gt (blk_lt (g := gb139) (o := .cells #[.int .i64 a0_0, .slice (some ad141) l0_1.length c0_1] 37 (0, 0)) zq167) : gb142 ≠ gb139); replace BK139 := bG BK139 hb; clear hb hbox hg; have hnb14 := NB142_139.out; have hnc14 := NB139_142.out; obtain ⟨hcz15_0, hcz15_1, hcz15_2, hcz15_3, hfz15_0, hfz15_1, hfz15_2, hfz15_3⟩ := cells4_ (w := w13) BK142))
       (try simp only [Act.put, List.setIfInBounds_toArray, List.set_cons_zero, List.set_cons_succ])
       go_cut [59] (fun v59 wc => ∃ (kq : Nat) (x59_10 : Bool), v59 = .bool x59_10 ∧ Aside0 (spec_NetOk.j2 kq x3_2 x59_10 a0_0 l0_1 = some r) ∧ Aside0 (kq ≤ k2) ∧ Aside0 (wc.heap[gb139]? = some (.cells #[.int .i64 a0_0, (.slice (some ad141) l0_1.length c0_1)] 37 (0, 0))) ∧ Aside0 (wc.heap[gb142]? = some (.cells #[.int .i64 ((rd_T39 l0_1 x3_2).f0), .int .i64 ((rd_T39 l0_1 x3_2).f1), .int .i64 ((rd_T39 l0_1 x3_2).f2), .string ((rd_T39 l0_1 x3_2).f3)] 39 (0, 0))) ∧ Aside0 (Below w.heap.size w wc))
       case first =>
        have H := HC11.out; clear HC11; replace H := Option.bind_eq_some_iff.mp H; obtain ⟨t143, A160, H⟩ := H; (try dsimp only at H); have A16 := aM A160; clear A160; by_cases c17 : t143 = true
        ·
         subst c17; rw [if_pos rfl] at H; replace H := Option.bind_eq_some_iff.mp H; obtain ⟨t144, A180, H⟩ := H; (try dsimp only at H); have A18 := aM A180; clear A180; by_cases c19 : t144 = true
         ·
          subst c19; rw [if_pos rfl] at H; by_cases c20 : x3_2 > 0
          ·
           rw [if_pos c20] at H; have c20b0 : decide (0 < x3_2) = true := decide_eq_true c20; clear c20
           (first | rw [c20b0] | (simp only [i64_w, i32_w]; rw [c20b0]) | skip)
           obtain ⟨ji21, hji21⟩ : ∃ j_ : Int, (wrap64 (x3_2 - 1)) = j_ := ⟨_, rfl⟩; replace H : (if 0 ≤ (ji21) then (if (ji21) < (l0_1.length : Int) then (spec_NetOk.j2 k2 x3_2 (decide (((rd_T39 l0_1 x3_2).f0) ≤ ((rd_T39 l0_1 (ji21)).f0))) a0_0 l0_1) else (none)) else (none)) = some r := by first | (rw [hji21] at H; exact H) | (simp only [hji21] at H ⊢; exact H)
           (try rw [hji21] at A16); (try rw [hji21] at A18); have hji21w : (IntKind.i64.wrap (x3_2 - 1)) = ji21 := (i64_w _).trans hji21; by_cases c22 : 0 ≤ (ji21)
           ·
            rw [if_pos c22] at H; have c22b0 := decide_eq_true c22; clear c22; by_cases c23 : (ji21) < (l0_1.length : Int)
            ·
             rw [if_pos c23] at H; have c23b0 := decide_eq_true c23; clear c23; have H' := aM H; clear H
             try go_wp2
             have n0_ : Aside0 (((((w13.setCell ⟨gb142, 0, none⟩ (.int .i64 ((rd_T39 l0_1 x3_2).f0))).setCell ⟨gb142, 1, none⟩ (.int .i64 ((rd_T39 l0_1 x3_2).f1))).setCell ⟨gb142, 2, none⟩ (.int .i64 ((rd_T39 l0_1 x3_2).f2))).setCell ⟨gb142, 3, none⟩ (.string ((rd_T39 l0_1 x3_2).f3))).heap[gb139]? = some (.cells #[.int .i64 a0_0, .slice (some ad141) l0_1.length c0_1] 37 (0, 0))) := ⟨zq169⟩; have n1_ : Aside0 (((((w13.setCell ⟨gb142, 0, none⟩ (.int .i64 ((rd_T39 l0_1 x3_2).f0))).setCell ⟨gb142, 1, none⟩ (.int .i64 ((rd_T39 l0_1 x3_2).f1))).setCell ⟨gb142, 2, none⟩ (.int .i64 ((rd_T39 l0_1 x3_2).f2))).setCell ⟨gb142, 3, none⟩ (.string ((rd_T39 l0_1 x3_2).f3))).heap[gb142]? = some (.cells #[.int .i64 ((rd_T39 l0_1 x3_2).f0), .int .i64 ((rd_T39 l0_1 x3_2).f1), .int .i64 ((rd_T39 l0_1 x3_2).f2), .string ((rd_T39 l0_1 x3_2).f3)] 39 (0, 0))) := ⟨zq170⟩; have n2_ : Aside0 (Below w.heap.size w ((((w13.setCell ⟨gb142, 0, none⟩ (.int .i64 ((rd_T39 l0_1 x3_2).f0))).setCell ⟨gb142, 1, none⟩ (.int .i64 ((rd_T39 l0_1 x3_2).f1))).setCell ⟨gb142, 2, none⟩ (.int .i64 ((rd_T39 l0_1 x3_2).f2))).setCell ⟨gb142, 3, none⟩ (.string ((rd_T39 l0_1 x3_2).f3)))) := ⟨zq171⟩; (try clear BK139); (try clear BK142); (try clear HB)
             generalize ((((w13.setCell ⟨gb142, 0, none⟩ (.int .i64 ((rd_T39 l0_1 x3_2).f0))).setCell ⟨gb142, 1, none⟩ (.int .i64 ((rd_T39 l0_1 x3_2).f1))).setCell ⟨gb142, 2, none⟩ (.int .i64 ((rd_T39 l0_1 x3_2).f2))).setCell ⟨gb142, 3, none⟩ (.string ((rd_T39 l0_1 x3_2).f3))) = w24 at n0_ n1_ n2_ ⊢; have BK139 := n0_; have BK142 := n1_; have HB := n2_; clear n0_ n1_ n2_; replace BK139 := aM (blk_drew BK139.out); replace BK142 := aM (blk_drew BK142.out); replace HB := aM (below_drew1 HB.out); have p145 : 0 ≤ ((ji21) : Int) := of_decide_eq_true zq26; have q145 : (ji21) < (l0_1.length : Int) := of_decide_eq_true zq26; obtain ⟨ad145, e145, hx145_0, hx145_1, hx145_2, hx145_3⟩ := at_T39 HR0_1.out (ji21) p145 q145; have hw145_3 := hx145_3; have hw145_2 := hx145_2; have hw145_1 := hx145_1; have hw145_0 := hx145_0; obtain rfl : ad141 = ad145 := (by injection e145); replace hx145_0 := hxB HB hx145_0; replace hx145_1 := hxB HB hx145_1; replace hx145_2 := hxB HB hx145_2; replace hx145_3 := hxB HB hx145_3; replace p145 := eq_true p145; replace q145 := eq_true q145
             refine start_ (n := 33) (S := fun w' => w'.cell? ⟨gb142, 0, none⟩ = some (.int .i64 ((rd_T39 l0_1 x3_2).f0)) ∧ w'.cell? ⟨gb142, 1, none⟩ = some (.int .i64 ((rd_T39 l0_1 x3_2).f1)) ∧ w'.cell? ⟨gb142, 2, none⟩ = some (.int .i64 ((rd_T39 l0_1 x3_2).f2)) ∧ w'.cell? ⟨gb142, 3, none⟩ = some (.string ((rd_T39 l0_1 x3_2).f3)) ∧ w'.cell? ⟨gb139, 0, none⟩ = some (.int .i64 a0_0) ∧ w'.cell? ⟨gb139, 1, none⟩ = some (.slice (some ad141) l0_1.length c0_1) ∧ w'.cell? (ad141.add (((ji21)).toNat * 4)) = some (.int .i64 ((rd_T39 l0_1 (ji21)).f0)) ∧ w'.cell? ⟨(ad141.add (((ji21)).toNat * 4)).block, (ad141.add (((ji21)).toNat * 4)).off + 1, none⟩ = some (.int .i64 ((rd_T39 l0_1 (ji21)).f1)) ∧ w'.cell? ⟨(ad141.add (((ji21)).toNat * 4)).block, (ad141.add (((ji21)).toNat * 4)).off + 2, none⟩ = some (.int .i64 ((rd_T39 l0_1 (ji21)).f2)) ∧ w'.cell? ⟨(ad141.add (((ji21)).toNat * 4)).block, (ad141.add (((ji21)).toNat * 4)).off + 3, none⟩ = some (.string ((rd_T39 l0_1 (ji21)).f3))) (ds := []) (bA 33 0) (by kernel_rfl) rfl rfl ⟨(blk_cell BK142.out 0).trans rfl, (blk_cell BK142.out 1).trans rfl, (blk_cell BK142.out 2).trans rfl, (blk_cell BK142.out 3).trans rfl, (blk_cell BK139.out 0).trans rfl, (blk_cell BK139.out 1).trans rfl, (hxB HB hw145_0 : _), (hxB HB hw145_1 : _), (hxB HB hw145_2 : _), (hxB HB hw145_3 : _)⟩ (fun hHeld => ?_); refine with_tabW spec_NetOk.tab7 spec_NetOk.bits7 (fun HT_ HW_ => ?_)
             generalize w24.drew = w25 at BK139 BK142 HB hx145_0 hx145_1 hx145_2 hx145_3 hHeld ⊢; refine pV 0 27 33 1 ?_; refine pV 2 29 33 5 ?_; refine tV 1 28 33 7 rfl zq334 ?_; refine tV 3 30 33 15 rfl zq334 ?_; refine pV 4 31 33 31 ?_; refine oE 5 32 33 63 rfl (fun K hK => ?_); refine goes_ Try.func63 (by kernel_rfl) rfl #[.int .i64 ((rd_T39 l0_1 x3_2).f0), .int .i64 1, .int .i64 (wrap64 (a0_0 - 1))] (by rfl) rfl rfl zq12 ?_
             with_reducible refine (spec_l1In.calls ((rd_T39 l0_1 x3_2).f0) 1 (wrap64 (a0_0 - 1)) true _ A16.out).mono ?_
             rintro e w' ⟨rfl, ⟨nd, rfl⟩⟩; refine ⟨_, rfl, ?_⟩; refine hK.out _ _ ⟨(blk_cell BK142.out 0).trans rfl, (blk_cell BK142.out 1).trans rfl, (blk_cell BK142.out 2).trans rfl, (blk_cell BK142.out 3).trans rfl, (blk_cell BK139.out 0).trans rfl, (blk_cell BK139.out 1).trans rfl, (hxB HB hw145_0 : _), (hxB HB hw145_1 : _), (hxB HB hw145_2 : _), (hxB HB hw145_3 : _)⟩ (fun hHeld => ?_); clear hK K; refine norm_ (a' := ?_) ?_ ?_; rotate_left; exact zq340; refine pV 6 33 33 127 ?_; refine pV 7 34 33 255 ?_; refine pV 8 35 33 511 ?_; refine pV 10 37 33 1535 ?_; refine pV 12 39 33 5631 ?_; refine tV 9 36 33 6143 rfl zq334 ?_; refine tV 11 38 33 8191 rfl zq334 ?_; refine tV 13 40 33 16383 rfl zq334 ?_; refine oE 14 41 33 32767 rfl (fun K hK => ?_); refine goes_ Try.func55 (by kernel_rfl) rfl #[.int .i64 ((rd_T39 l0_1 x3_2).f1), .int .i64 ((rd_T39 l0_1 x3_2).f2), .string ((rd_T39 l0_1 x3_2).f3)] (by rfl) rfl rfl zq12 ?_
             with_reducible refine (spec_l8Ends.calls ((rd_T39 l0_1 x3_2).f1) ((rd_T39 l0_1 x3_2).f2) ((rd_T39 l0_1 x3_2).f3) true _ A18.out).mono ?_
             rintro e w' ⟨rfl, ⟨nd, rfl⟩⟩; refine ⟨_, rfl, ?_⟩; refine hK.out _ _ ⟨(blk_cell BK142.out 0).trans rfl, (blk_cell BK142.out 1).trans rfl, (blk_cell BK142.out 2).trans rfl, (blk_cell BK142.out 3).trans rfl, (blk_cell BK139.out 0).trans rfl, (blk_cell BK139.out 1).trans rfl, (hxB HB hw145_0 : _), (hxB HB hw145_1 : _), (hxB HB hw145_2 : _), (hxB HB hw145_3 : _)⟩ (fun hHeld => ?_); clear hK K; refine norm_ (a' := ?_) ?_ ?_; rotate_left; exact zq341; refine pV 15 42 33 65535 ?_; refine pV 16 43 33 131071 ?_; refine pV 17 44 33 262143 ?_; refine pV 18 45 33 524287 ?_; refine pV 19 46 33 1048575 ?_; refine pV 20 47 33 2097151 ?_; refine pV 21 48 33 4194303 ?_; refine pV 23 50 33 12582911 ?_; refine pV 25 52 33 46137343 ?_; refine pV 26 53 33 113246207 ?_; refine tV 22 49 33 117440511 rfl zq334 ?_; refine tV 24 51 33 134217727 rfl zq334 ?_; refine pV 27 54 33 268435455 ?_; refine pV 28 55 33 536870911 ?_; refine tV 29 56 33 1073741823 rfl zq334 ?_; refine pV 30 57 33 2147483647 ?_; refine pV 31 58 33 4294967295 ?_; refine pV 32 59 33 8589934591 ?_; refine dE ?_
             try go_wp2
             go_meet
             case rel => exact ⟨_, (decide (((rd_T39 l0_1 x3_2).f0) ≤ ((rd_T39 l0_1 (ji21)).f0))), (by first | rfl | (simp; done) | (simp only [← hji21] <;> (first | rfl | simp)) | (simp [*]; done)), H', ⟨zq136⟩, ⟨zq167⟩, ⟨zq172⟩, ⟨zq171⟩⟩
            rw [if_neg c23] at H; exact absurd H (by simp)
           rw [if_neg c22] at H; exact absurd H (by simp)
          rw [if_neg c20] at H; have c20b0 : decide (0 < x3_2) = false := decide_eq_false c20; clear c20
          (first | rw [c20b0] | (simp only [i64_w, i32_w]; rw [c20b0]) | skip)
          have H' := aM H; clear H
          try go_wp2
          have n0_ : Aside0 (((((w13.setCell ⟨gb142, 0, none⟩ (.int .i64 ((rd_T39 l0_1 x3_2).f0))).setCell ⟨gb142, 1, none⟩ (.int .i64 ((rd_T39 l0_1 x3_2).f1))).setCell ⟨gb142, 2, none⟩ (.int .i64 ((rd_T39 l0_1 x3_2).f2))).setCell ⟨gb142, 3, none⟩ (.string ((rd_T39 l0_1 x3_2).f3))).heap[gb139]? = some (.cells #[.int .i64 a0_0, .slice (some ad141) l0_1.length c0_1] 37 (0, 0))) := ⟨zq169⟩; have n1_ : Aside0 (((((w13.setCell ⟨gb142, 0, none⟩ (.int .i64 ((rd_T39 l0_1 x3_2).f0))).setCell ⟨gb142, 1, none⟩ (.int .i64 ((rd_T39 l0_1 x3_2).f1))).setCell ⟨gb142, 2, none⟩ (.int .i64 ((rd_T39 l0_1 x3_2).f2))).setCell ⟨gb142, 3, none⟩ (.string ((rd_T39 l0_1 x3_2).f3))).heap[gb142]? = some (.cells #[.int .i64 ((rd_T39 l0_1 x3_2).f0), .int .i64 ((rd_T39 l0_1 x3_2).f1), .int .i64 ((rd_T39 l0_1 x3_2).f2), .string ((rd_T39 l0_1 x3_2).f3)] 39 (0, 0))) := ⟨zq170⟩; have n2_ : Aside0 (Below w.heap.size w ((((w13.setCell ⟨gb142, 0, none⟩ (.int .i64 ((rd_T39 l0_1 x3_2).f0))).setCell ⟨gb142, 1, none⟩ (.int .i64 ((rd_T39 l0_1 x3_2).f1))).setCell ⟨gb142, 2, none⟩ (.int .i64 ((rd_T39 l0_1 x3_2).f2))).setCell ⟨gb142, 3, none⟩ (.string ((rd_T39 l0_1 x3_2).f3)))) := ⟨zq171⟩; (try clear BK139); (try clear BK142); (try clear HB)
          generalize ((((w13.setCell ⟨gb142, 0, none⟩ (.int .i64 ((rd_T39 l0_1 x3_2).f0))).setCell ⟨gb142, 1, none⟩ (.int .i64 ((rd_T39 l0_1 x3_2).f1))).setCell ⟨gb142, 2, none⟩ (.int .i64 ((rd_T39 l0_1 x3_2).f2))).setCell ⟨gb142, 3, none⟩ (.string ((rd_T39 l0_1 x3_2).f3))) = w26 at n0_ n1_ n2_ ⊢; have BK139 := n0_; have BK142 := n1_; have HB := n2_; clear n0_ n1_ n2_; replace BK139 := aM (blk_drew BK139.out); replace BK142 := aM (blk_drew BK142.out); replace HB := aM (below_drew1 HB.out); refine start_ (n := 33) (S := fun w' => w'.cell? ⟨gb142, 0, none⟩ = some (.int .i64 ((rd_T39 l0_1 x3_2).f0)) ∧ w'.cell? ⟨gb142, 1, none⟩ = some (.int .i64 ((rd_T39 l0_1 x3_2).f1)) ∧ w'.cell? ⟨gb142, 2, none⟩ = some (.int .i64 ((rd_T39 l0_1 x3_2).f2)) ∧ w'.cell? ⟨gb142, 3, none⟩ = some (.string ((rd_T39 l0_1 x3_2).f3)) ∧ w'.cell? ⟨gb139, 0, none⟩ = some (.int .i64 a0_0) ∧ w'.cell? ⟨gb139, 1, none⟩ = some (.slice (some ad141) l0_1.length c0_1)) (ds := []) (bA 33 0) (by kernel_rfl) rfl rfl ⟨(blk_cell BK142.out 0).trans rfl, (blk_cell BK142.out 1).trans rfl, (blk_cell BK142.out 2).trans rfl, (blk_cell BK142.out 3).trans rfl, (blk_cell BK139.out 0).trans rfl, (blk_cell BK139.out 1).trans rfl⟩ (fun hHeld => ?_); refine with_tabW spec_NetOk.tab7 spec_NetOk.bits7 (fun HT_ HW_ => ?_)
          generalize w26.drew = w27 at BK139 BK142 HB hHeld ⊢; refine pV 0 27 33 1 ?_; refine pV 2 29 33 5 ?_; refine tV 1 28 33 7 rfl zq338 ?_; refine tV 3 30 33 15 rfl zq338 ?_; refine pV 4 31 33 31 ?_; refine oE 5 32 33 63 rfl (fun K hK => ?_); refine goes_ Try.func63 (by kernel_rfl) rfl #[.int .i64 ((rd_T39 l0_1 x3_2).f0), .int .i64 1, .int .i64 (wrap64 (a0_0 - 1))] (by rfl) rfl rfl zq12 ?_
          with_reducible refine (spec_l1In.calls ((rd_T39 l0_1 x3_2).f0) 1 (wrap64 (a0_0 - 1)) true _ A16.out).mono ?_
          rintro e w' ⟨rfl, ⟨nd, rfl⟩⟩; refine ⟨_, rfl, ?_⟩; refine hK.out _ _ ⟨(blk_cell BK142.out 0).trans rfl, (blk_cell BK142.out 1).trans rfl, (blk_cell BK142.out 2).trans rfl, (blk_cell BK142.out 3).trans rfl, (blk_cell BK139.out 0).trans rfl, (blk_cell BK139.out 1).trans rfl⟩ (fun hHeld => ?_); clear hK K; refine norm_ (a' := ?_) ?_ ?_; rotate_left; exact zq340; refine pV 6 33 33 127 ?_; refine pV 7 34 33 255 ?_; refine pV 8 35 33 511 ?_; refine pV 10 37 33 1535 ?_; refine pV 12 39 33 5631 ?_; refine tV 9 36 33 6143 rfl zq338 ?_; refine tV 11 38 33 8191 rfl zq338 ?_; refine tV 13 40 33 16383 rfl zq338 ?_; refine oE 14 41 33 32767 rfl (fun K hK => ?_); refine goes_ Try.func55 (by kernel_rfl) rfl #[.int .i64 ((rd_T39 l0_1 x3_2).f1), .int .i64 ((rd_T39 l0_1 x3_2).f2), .string ((rd_T39 l0_1 x3_2).f3)] (by rfl) rfl rfl zq12 ?_
          with_reducible refine (spec_l8Ends.calls ((rd_T39 l0_1 x3_2).f1) ((rd_T39 l0_1 x3_2).f2) ((rd_T39 l0_1 x3_2).f3) true _ A18.out).mono ?_
          rintro e w' ⟨rfl, ⟨nd, rfl⟩⟩; refine ⟨_, rfl, ?_⟩; refine hK.out _ _ ⟨(blk_cell BK142.out 0).trans rfl, (blk_cell BK142.out 1).trans rfl, (blk_cell BK142.out 2).trans rfl, (blk_cell BK142.out 3).trans rfl, (blk_cell BK139.out 0).trans rfl, (blk_cell BK139.out 1).trans rfl⟩ (fun hHeld => ?_); clear hK K; refine norm_ (a' := ?_) ?_ ?_; rotate_left; exact zq341; refine pV 15 42 33 65535 ?_; refine pV 16 43 33 131071 ?_; refine pV 17 44 33 262143 ?_; refine pV 18 45 33 524287 ?_; refine pV 19 46 33 1048575 ?_; refine pV 20 47 33 2097151 ?_; refine pU 21 48 33 4194303 ?_; refine pU 22 49 33 8388607 ?_; refine pU 23 50 33 16777215 ?_; refine pU 24 51 33 33554431 ?_; refine pU 25 52 33 67108863 ?_; refine pU 26 53 33 134217727 ?_; refine pU 27 54 33 268435455 ?_; refine pU 28 55 33 536870911 ?_; refine pU 29 56 33 1073741823 ?_; refine pU 30 57 33 2147483647 ?_; refine pV 31 58 33 4294967295 ?_; refine pV 32 59 33 8589934591 ?_; refine dE ?_
          try go_wp2
          go_meet
          case rel => exact ⟨_, (false), zq10, H', ⟨zq136⟩, ⟨zq167⟩, ⟨zq172⟩, ⟨zq171⟩⟩
         replace c19 := Bool.eq_false_iff.mpr c19; subst c19; rw [if_neg (show ¬ (false = true) by decide)] at H; have H' := aM H; clear H
         try go_wp2
         have n0_ : Aside0 (((((w13.setCell ⟨gb142, 0, none⟩ (.int .i64 ((rd_T39 l0_1 x3_2).f0))).setCell ⟨gb142, 1, none⟩ (.int .i64 ((rd_T39 l0_1 x3_2).f1))).setCell ⟨gb142, 2, none⟩ (.int .i64 ((rd_T39 l0_1 x3_2).f2))).setCell ⟨gb142, 3, none⟩ (.string ((rd_T39 l0_1 x3_2).f3))).heap[gb139]? = some (.cells #[.int .i64 a0_0, .slice (some ad141) l0_1.length c0_1] 37 (0, 0))) := ⟨zq169⟩; have n1_ : Aside0 (((((w13.setCell ⟨gb142, 0, none⟩ (.int .i64 ((rd_T39 l0_1 x3_2).f0))).setCell ⟨gb142, 1, none⟩ (.int .i64 ((rd_T39 l0_1 x3_2).f1))).setCell ⟨gb142, 2, none⟩ (.int .i64 ((rd_T39 l0_1 x3_2).f2))).setCell ⟨gb142, 3, none⟩ (.string ((rd_T39 l0_1 x3_2).f3))).heap[gb142]? = some (.cells #[.int .i64 ((rd_T39 l0_1 x3_2).f0), .int .i64 ((rd_T39 l0_1 x3_2).f1), .int .i64 ((rd_T39 l0_1 x3_2).f2), .string ((rd_T39 l0_1 x3_2).f3)] 39 (0, 0))) := ⟨zq170⟩; have n2_ : Aside0 (Below w.heap.size w ((((w13.setCell ⟨gb142, 0, none⟩ (.int .i64 ((rd_T39 l0_1 x3_2).f0))).setCell ⟨gb142, 1, none⟩ (.int .i64 ((rd_T39 l0_1 x3_2).f1))).setCell ⟨gb142, 2, none⟩ (.int .i64 ((rd_T39 l0_1 x3_2).f2))).setCell ⟨gb142, 3, none⟩ (.string ((rd_T39 l0_1 x3_2).f3)))) := ⟨zq171⟩; (try clear BK139); (try clear BK142); (try clear HB)
         generalize ((((w13.setCell ⟨gb142, 0, none⟩ (.int .i64 ((rd_T39 l0_1 x3_2).f0))).setCell ⟨gb142, 1, none⟩ (.int .i64 ((rd_T39 l0_1 x3_2).f1))).setCell ⟨gb142, 2, none⟩ (.int .i64 ((rd_T39 l0_1 x3_2).f2))).setCell ⟨gb142, 3, none⟩ (.string ((rd_T39 l0_1 x3_2).f3))) = w28 at n0_ n1_ n2_ ⊢; have BK139 := n0_; have BK142 := n1_; have HB := n2_; clear n0_ n1_ n2_; replace BK139 := aM (blk_drew BK139.out); replace BK142 := aM (blk_drew BK142.out); replace HB := aM (below_drew1 HB.out); refine start_ (n := 33) (S := fun w' => w'.cell? ⟨gb142, 0, none⟩ = some (.int .i64 ((rd_T39 l0_1 x3_2).f0)) ∧ w'.cell? ⟨gb142, 1, none⟩ = some (.int .i64 ((rd_T39 l0_1 x3_2).f1)) ∧ w'.cell? ⟨gb142, 2, none⟩ = some (.int .i64 ((rd_T39 l0_1 x3_2).f2)) ∧ w'.cell? ⟨gb142, 3, none⟩ = some (.string ((rd_T39 l0_1 x3_2).f3)) ∧ w'.cell? ⟨gb139, 0, none⟩ = some (.int .i64 a0_0) ∧ w'.cell? ⟨gb139, 1, none⟩ = some (.slice (some ad141) l0_1.length c0_1)) (ds := []) (bA 33 0) (by kernel_rfl) rfl rfl ⟨(blk_cell BK142.out 0).trans rfl, (blk_cell BK142.out 1).trans rfl, (blk_cell BK142.out 2).trans rfl, (blk_cell BK142.out 3).trans rfl, (blk_cell BK139.out 0).trans rfl, (blk_cell BK139.out 1).trans rfl⟩ (fun hHeld => ?_); refine with_tabW spec_NetOk.tab7 spec_NetOk.bits7 (fun HT_ HW_ => ?_)
         generalize w28.drew = w29 at BK139 BK142 HB hHeld ⊢; refine pV 0 27 33 1 ?_; refine pV 2 29 33 5 ?_; refine tV 1 28 33 7 rfl zq338 ?_; refine tV 3 30 33 15 rfl zq338 ?_; refine pV 4 31 33 31 ?_; refine oE 5 32 33 63 rfl (fun K hK => ?_); refine goes_ Try.func63 (by kernel_rfl) rfl #[.int .i64 ((rd_T39 l0_1 x3_2).f0), .int .i64 1, .int .i64 (wrap64 (a0_0 - 1))] (by rfl) rfl rfl zq12 ?_
         with_reducible refine (spec_l1In.calls ((rd_T39 l0_1 x3_2).f0) 1 (wrap64 (a0_0 - 1)) true _ A16.out).mono ?_
         rintro e w' ⟨rfl, ⟨nd, rfl⟩⟩; refine ⟨_, rfl, ?_⟩; refine hK.out _ _ ⟨(blk_cell BK142.out 0).trans rfl, (blk_cell BK142.out 1).trans rfl, (blk_cell BK142.out 2).trans rfl, (blk_cell BK142.out 3).trans rfl, (blk_cell BK139.out 0).trans rfl, (blk_cell BK139.out 1).trans rfl⟩ (fun hHeld => ?_); clear hK K; refine norm_ (a' := ?_) ?_ ?_; rotate_left; exact zq340; refine pV 6 33 33 127 ?_; refine pV 7 34 33 255 ?_; refine pV 8 35 33 511 ?_; refine pV 10 37 33 1535 ?_; refine pV 12 39 33 5631 ?_; refine tV 9 36 33 6143 rfl zq338 ?_; refine tV 11 38 33 8191 rfl zq338 ?_; refine tV 13 40 33 16383 rfl zq338 ?_; refine oE 14 41 33 32767 rfl (fun K hK => ?_); refine goes_ Try.func55 (by kernel_rfl) rfl #[.int .i64 ((rd_T39 l0_1 x3_2).f1), .int .i64 ((rd_T39 l0_1 x3_2).f2), .string ((rd_T39 l0_1 x3_2).f3)] (by rfl) rfl rfl zq12 ?_
         with_reducible refine (spec_l8Ends.calls ((rd_T39 l0_1 x3_2).f1) ((rd_T39 l0_1 x3_2).f2) ((rd_T39 l0_1 x3_2).f3) false _ A18.out).mono ?_
         rintro e w' ⟨rfl, ⟨nd, rfl⟩⟩; refine ⟨_, rfl, ?_⟩; refine hK.out _ _ ⟨(blk_cell BK142.out 0).trans rfl, (blk_cell BK142.out 1).trans rfl, (blk_cell BK142.out 2).trans rfl, (blk_cell BK142.out 3).trans rfl, (blk_cell BK139.out 0).trans rfl, (blk_cell BK139.out 1).trans rfl⟩ (fun hHeld => ?_); clear hK K; refine norm_ (a' := ?_) ?_ ?_; rotate_left; exact zq341; refine pV 15 42 33 65535 ?_; refine pV 16 43 33 131071 ?_; refine pV 17 44 33 262143 ?_; refine pU 18 45 33 524287 ?_; refine pU 19 46 33 1048575 ?_; refine pU 20 47 33 2097151 ?_; refine pU 21 48 33 4194303 ?_; refine pU 22 49 33 8388607 ?_; refine pU 23 50 33 16777215 ?_; refine pU 24 51 33 33554431 ?_; refine pU 25 52 33 67108863 ?_; refine pU 26 53 33 134217727 ?_; refine pU 27 54 33 268435455 ?_; refine pU 28 55 33 536870911 ?_; refine pU 29 56 33 1073741823 ?_; refine pU 30 57 33 2147483647 ?_; refine pU 31 58 33 4294967295 ?_; refine pV 32 59 33 8589934591 ?_; refine dE ?_
         try go_wp2
         go_meet
         case rel => exact ⟨_, (true), zq10, H', ⟨zq136⟩, ⟨zq167⟩, ⟨zq172⟩, ⟨zq171⟩⟩
        replace c17 := Bool.eq_false_iff.mpr c17; subst c17; rw [if_neg (show ¬ (false = true) by decide)] at H; have H' := aM H; clear H
        try go_wp2
        have n0_ : Aside0 (((((w13.setCell ⟨gb142, 0, none⟩ (.int .i64 ((rd_T39 l0_1 x3_2).f0))).setCell ⟨gb142, 1, none⟩ (.int .i64 ((rd_T39 l0_1 x3_2).f1))).setCell ⟨gb142, 2, none⟩ (.int .i64 ((rd_T39 l0_1 x3_2).f2))).setCell ⟨gb142, 3, none⟩ (.string ((rd_T39 l0_1 x3_2).f3))).heap[gb139]? = some (.cells #[.int .i64 a0_0, .slice (some ad141) l0_1.length c0_1] 37 (0, 0))) := ⟨zq169⟩; have n1_ : Aside0 (((((w13.setCell ⟨gb142, 0, none⟩ (.int .i64 ((rd_T39 l0_1 x3_2).f0))).setCell ⟨gb142, 1, none⟩ (.int .i64 ((rd_T39 l0_1 x3_2).f1))).setCell ⟨gb142, 2, none⟩ (.int .i64 ((rd_T39 l0_1 x3_2).f2))).setCell ⟨gb142, 3, none⟩ (.string ((rd_T39 l0_1 x3_2).f3))).heap[gb142]? = some (.cells #[.int .i64 ((rd_T39 l0_1 x3_2).f0), .int .i64 ((rd_T39 l0_1 x3_2).f1), .int .i64 ((rd_T39 l0_1 x3_2).f2), .string ((rd_T39 l0_1 x3_2).f3)] 39 (0, 0))) := ⟨zq170⟩; have n2_ : Aside0 (Below w.heap.size w ((((w13.setCell ⟨gb142, 0, none⟩ (.int .i64 ((rd_T39 l0_1 x3_2).f0))).setCell ⟨gb142, 1, none⟩ (.int .i64 ((rd_T39 l0_1 x3_2).f1))).setCell ⟨gb142, 2, none⟩ (.int .i64 ((rd_T39 l0_1 x3_2).f2))).setCell ⟨gb142, 3, none⟩ (.string ((rd_T39 l0_1 x3_2).f3)))) := ⟨zq171⟩; (try clear BK139); (try clear BK142); (try clear HB); generalize ((((w13.setCell ⟨gb142, 0, none⟩ (.int .i64 ((rd_T39 l0_1 x3_2).f0))).setCell ⟨gb142, 1, none⟩ (.int .i64 ((rd_T39 l0_1 x3_2).f1))).setCell ⟨gb142, 2, none⟩ (.int .i64 ((rd_T39 l0_1 x3_2).f2))).setCell ⟨gb142, 3, none⟩ (.string ((rd_T39 l0_1 x3_2).f3))) = w30 at n0_ n1_ n2_ ⊢
        have BK139 := n0_; have BK142 := n1_; have HB := n2_; clear n0_ n1_ n2_; replace BK139 := aM (blk_drew BK139.out); replace BK142 := aM (blk_drew BK142.out); replace HB := aM (below_drew1 HB.out); refine start_ (n := 33) (S := fun w' => w'.cell? ⟨gb142, 0, none⟩ = some (.int .i64 ((rd_T39 l0_1 x3_2).f0)) ∧ w'.cell? ⟨gb142, 1, none⟩ = some (.int .i64 ((rd_T39 l0_1 x3_2).f1)) ∧ w'.cell? ⟨gb142, 2, none⟩ = some (.int .i64 ((rd_T39 l0_1 x3_2).f2)) ∧ w'.cell? ⟨gb142, 3, none⟩ = some (.string ((rd_T39 l0_1 x3_2).f3)) ∧ w'.cell? ⟨gb139, 0, none⟩ = some (.int .i64 a0_0) ∧ w'.cell? ⟨gb139, 1, none⟩ = some (.slice (some ad141) l0_1.length c0_1)) (ds := []) (bA 33 0) (by kernel_rfl) rfl rfl ⟨(blk_cell BK142.out 0).trans rfl, (blk_cell BK142.out 1).trans rfl, (blk_cell BK142.out 2).trans rfl, (blk_cell BK142.out 3).trans rfl, (blk_cell BK139.out 0).trans rfl, (blk_cell BK139.out 1).trans rfl⟩ (fun hHeld => ?_); refine with_tabW spec_NetOk.tab7 spec_NetOk.bits7 (fun HT_ HW_ => ?_)
        generalize w30.drew = w31 at BK139 BK142 HB hHeld ⊢; refine pV 0 27 33 1 ?_; refine pV 2 29 33 5 ?_; refine tV 1 28 33 7 rfl zq338 ?_; refine tV 3 30 33 15 rfl zq338 ?_; refine pV 4 31 33 31 ?_; refine oE 5 32 33 63 rfl (fun K hK => ?_); refine goes_ Try.func63 (by kernel_rfl) rfl #[.int .i64 ((rd_T39 l0_1 x3_2).f0), .int .i64 1, .int .i64 (wrap64 (a0_0 - 1))] (by rfl) rfl rfl zq12 ?_
        with_reducible refine (spec_l1In.calls ((rd_T39 l0_1 x3_2).f0) 1 (wrap64 (a0_0 - 1)) false _ A16.out).mono ?_
        rintro e w' ⟨rfl, ⟨nd, rfl⟩⟩; refine ⟨_, rfl, ?_⟩; refine hK.out _ _ ⟨(blk_cell BK142.out 0).trans rfl, (blk_cell BK142.out 1).trans rfl, (blk_cell BK142.out 2).trans rfl, (blk_cell BK142.out 3).trans rfl, (blk_cell BK139.out 0).trans rfl, (blk_cell BK139.out 1).trans rfl⟩ (fun hHeld => ?_); clear hK K; refine norm_ (a' := ?_) ?_ ?_; rotate_left; exact zq340; refine pV 6 33 33 127 ?_; refine pV 7 34 33 255 ?_; refine pU 8 35 33 511 ?_; refine pU 9 36 33 1023 ?_; refine pU 10 37 33 2047 ?_; refine pU 11 38 33 4095 ?_; refine pU 12 39 33 8191 ?_; refine pU 13 40 33 16383 ?_; refine pU 14 41 33 32767 ?_; refine pU 15 42 33 65535 ?_; refine pV 16 43 33 131071 ?_; refine pV 17 44 33 262143 ?_; refine pU 18 45 33 524287 ?_; refine pU 19 46 33 1048575 ?_; refine pU 20 47 33 2097151 ?_; refine pU 21 48 33 4194303 ?_; refine pU 22 49 33 8388607 ?_; refine pU 23 50 33 16777215 ?_; refine pU 24 51 33 33554431 ?_; refine pU 25 52 33 67108863 ?_; refine pU 26 53 33 134217727 ?_; refine pU 27 54 33 268435455 ?_; refine pU 28 55 33 536870911 ?_; refine pU 29 56 33 1073741823 ?_; refine pU 30 57 33 2147483647 ?_; refine pU 31 58 33 4294967295 ?_; refine pV 32 59 33 8589934591 ?_; refine dE ?_
        try go_wp2
        go_meet
        case rel => exact ⟨_, (true), zq10, H', ⟨zq136⟩, ⟨zq167⟩, ⟨zq172⟩, ⟨zq171⟩⟩
       case rest =>
        clear HC11; (try clear c1); (try clear p2); (try clear c5); (try clear c6); (try clear p6); (try clear c17); (try clear c19); obtain ⟨kq, x59_10, rfl, HA, HJ10, BK139, BK142, HB⟩ := hcut
        cases kq with
        | zero => exact absurd HA.out (by simp [spec_NetOk.j2])
        | succ kj10 =>
         have H := HA.out; clear HA; simp only [spec_NetOk.j2] at H; by_cases c32 : x59_10 = true
         ·
          subst c32; rw [if_pos rfl] at H; obtain rfl := Option.some.inj H; go_wp2; go_ret; exact ⟨zq9, zq171⟩
         replace c32 := Bool.eq_false_iff.mpr c32; subst c32; rw [if_neg (show ¬ (false = true) by decide)] at H; have H' := aM H; clear H; go_wp2
         go_roundg kj10
         case measure => have := HJ1.out; have := HK2.out; have := HJ10.out; omega
         case rel => exact ⟨(wrap64 (x3_2 + 1)), zq10, H', ⟨by have := HJ1.out; have := HK2.out; have := HJ10.out; omega⟩, ⟨zq167⟩, ⟨zq171⟩⟩
      rw [if_neg c10] at H; exact absurd H (by simp)
     rw [if_neg c9] at H; have c9b0 := decide_eq_false c9; clear c9; obtain rfl := Option.some.inj H; obtain ⟨hcz33_0, hcz33_1, hfz33_0, hfz33_1⟩ := cells2_ (w := wr) BK139; go_wp2; go_ret; exact ⟨zq9, zq168⟩

end Go.Proofs.Ytklaigmpceacaaa.QFnPosted
