/- Written by wip/myprint.py of this repo (the kit's print, with additions of this session). -/
import Derived.Test.YtklaigmpceacaaaQFnExactTakex0
import Derived.Test.YtklaigmpceacaaaQFnExactTakex2
import Derived.Test.YtklaigmpceacaaaQFnExactTakex3
set_option maxRecDepth 100000
namespace Go.Proofs.Ytklaigmpceacaaa.QFnExactTake
open Go.RowKit Go.Proofs.YtklaigmpceacaaaW.PrintWords Go.Proofs.YtklaigmpceacaaaW.PrintLast Go.Proofs.YtklaigmpceacaaaW.PrintMore
attribute [local go_sem] max2_int min2_int max_two min_two max_three min_three max_four min_four   -- for this text's walks alone
set_option linter.unusedVariables false
set_option linter.unusedSimpArgs false

/-! ### spec_Take: function 18 -/
def spec_Take.l0 : Nat → Int → Bool → Int → Int → List (S39) → Int → List (S39) → Option (Int × (List (S39)) × Int × Int × Int × ByteArray × Bool)
 | 0, _, _, _, _, _, _, _ => none
 | k + 1, x1, x2, x10, x124000, x124001, x132000, x132001 => if x10 < (x124001.length : Int) then (if 0 ≤ x10 then (if ((rd_T39 x124001 x10).f0) = x1 then (if x2 = true then (some (x132000, x132001, (rd_T39 x124001 x10).f0, (rd_T39 x124001 x10).f1, (rd_T39 x124001 x10).f2, (rd_T39 x124001 x10).f3, true)) else (if x10 ≤ (x132001.length : Int) then (if 0 ≤ (wrap64 (x10 + 1)) then (if (wrap64 (x10 + 1)) ≤ (x132001.length : Int) then (some (x132000, (x132001.eraseIdx (x10 : Int).toNat), (rd_T39 x124001 x10).f0, (rd_T39 x124001 x10).f1, (rd_T39 x124001 x10).f2, (rd_T39 x124001 x10).f3, true)) else (none)) else (none)) else (none))) else (spec_Take.l0 k x1 x2 (wrap64 (x10 + 1)) x124000 x124001 x132000 x132001)) else (none)) else (some (x132000, x132001, 0, 0, 0, (⟨#[]⟩ : ByteArray), false))
def spec_Take.f (k : Nat) (a0_0 : Int) (l0_1 : List (S39)) (a1 : Int) (a2 : Bool) : Option (Int × (List (S39)) × Int × Int × Int × ByteArray × Bool) := (spec_NetOk.f k a0_0 l0_1).bind fun t126 => (if t126 = true then ((spec_l8Copy.f a0_0 l0_1).bind fun bt127 => (spec_Take.l0 k a1 a2 0 a0_0 l0_1 bt127.1 bt127.2)) else (some (0, ([] : List (S39)), 0, 0, 0, (⟨#[]⟩ : ByteArray), false)))
theorem spec_Take.mono_l : ∀ k, (∀ y0 y1 y2 y3 y4 y5 y6, LeO (spec_Take.l0 k y0 y1 y2 y3 y4 y5 y6) (spec_Take.l0 (k + 1) y0 y1 y2 y3 y4 y5 y6))
 | 0 => fun _ _ _ _ _ _ _ r h => by simp [spec_Take.l0] at h
 | k + 1 => by
  have ih0 := spec_Take.mono_l k
  ·
   intro y0 y1 y2 y3 y4 y5 y6
   unfold spec_Take.l0
   repeat' first
   | (with_reducible exact ih0 _ _ _ _ _ _ _)
   | (with_reducible exact spec_NetOk.mono _ _ _)
   | (with_reducible exact LeO.refl _)
   | (with_reducible exact LeO.none _)
   | (with_reducible refine LeO.ite ?_ ?_)
   | (with_reducible refine LeO.bind ?_ (fun _ => ?_))
   | exact LeO.none _
   | refine LeO.ite ?_ ?_
   | refine LeO.bind ?_ (fun _ => ?_)
theorem spec_Take.mono : ∀ a0 a1 a2 a3 k, LeO (spec_Take.f k a0 a1 a2 a3) (spec_Take.f (k + 1) a0 a1 a2 a3) := by
 intro a0 a1 a2 a3 k
 have ih0 := spec_Take.mono_l k
 unfold spec_Take.f
 repeat' first
   | (with_reducible exact ih0 _ _ _ _ _ _ _)
   | (with_reducible exact spec_NetOk.mono _ _ _)
   | (with_reducible exact LeO.refl _)
   | (with_reducible exact LeO.none _)
   | (with_reducible refine LeO.ite ?_ ?_)
   | (with_reducible refine LeO.bind ?_ (fun _ => ?_))
   | exact LeO.none _
   | refine LeO.ite ?_ ?_
   | refine LeO.bind ?_ (fun _ => ?_)
def spec_Take.T9 : Bool × List (List Nat × List Nat) := (true, [([], []), ([0], [0]), ([], []), ([1, 2], [1, 2]), ([], []), ([4], [4]), ([], []), ([6], [6]), ([5, 7], [5, 7]), ([3, 8], [3, 8]), ([0, 1, 2, 3, 4, 5, 6, 7, 8, 9], []), ([10, 9, 9, 0, 1, 2, 3, 4, 5, 6, 7, 8, 9], [9, 10])])
def spec_Take.B9 : List Nat := [0, 1, 0, 7, 0, 16, 0, 64, 240, 511, 1023, 2047]
theorem spec_Take.tab9 : rtab .any (opsOf Try.f18 9) = spec_Take.T9 := by kernel_rfl
theorem spec_Take.bits9 : waitsOk spec_Take.T9.2 spec_Take.B9 = true := by kernel_rfl
def spec_Take.T10 : Bool × List (List Nat × List Nat) := (true, [([], []), ([], []), ([1], [1]), ([], []), ([2, 3], [2, 3]), ([4], [4]), ([0, 0], [0]), ([5, 6, 0, 1, 2, 3, 4, 5, 6], [5]), ([7, 0, 1, 2, 3, 4, 5, 6, 7], [])])
def spec_Take.B10 : List Nat := [0, 0, 2, 0, 14, 30, 1, 127, 255]
theorem spec_Take.tab10 : rtab .any (opsOf Try.f18 10) = spec_Take.T10 := by kernel_rfl
theorem spec_Take.bits10 : waitsOk spec_Take.T10.2 spec_Take.B10 = true := by kernel_rfl
set_option maxHeartbeats 8000000 in
set_option maxRecDepth 100000 in
theorem spec_Take.calls (k : Nat) (a0_0 : Int) (A0_1 : Option Addr) (c0_1 : Nat) (l0_1 : List (S39)) (a1 : Int) (a2 : Bool) (r1 : Int) (r2 : List (S39)) (r3 : Int) (r4 : Int) (r5 : Int) (r6 : ByteArray) (r7 : Bool) (w : World) (hr0_1 : Kd.C k39 w A0_1 l0_1.length l0_1) (hc0_1 : l0_1.length ≤ c0_1) (h : spec_Take.f k a0_0 l0_1 a1 a2 = some (r1, r2, r3, r4, r5, r6, r7)) :
  Calls Try.prog 18 #[.agg #[.int .i64 a0_0, .slice A0_1 l0_1.length c0_1], .int .i64 a1, .bool a2] w fun e w' => ∃ v1_ : Value, e = .returned (.tuple #[.agg #[.int .i64 r1, v1_], .agg #[.int .i64 r3, .int .i64 r4, .int .i64 r5, .string r6], .bool r7]) ∧ Kd.R k39 39 w' w.heap.size (fun _ => True) v1_ r2 ∧ Below w.heap.size w w' := by
 have hu37 := Try.underlying37
 have hu39 := Try.underlying39
 have HR0_1 := Aside0.mk hr0_1
 have HC0_1 := Aside0.mk hc0_1
 clear hr0_1 hc0_1
 have HB := Aside0.mk (Below.refl w.heap.size w)
 have H : ((spec_NetOk.f k a0_0 l0_1).bind fun t126 => (if t126 = true then ((spec_l8Copy.f a0_0 l0_1).bind fun bt127 => (spec_Take.l0 k a1 a2 0 a0_0 l0_1 bt127.1 bt127.2)) else (some (0, ([] : List (S39)), 0, 0, 0, (⟨#[]⟩ : ByteArray), false)))) = some (r1, r2, r3, r4, r5, r6, r7) := h
 clear h
 replace H := Option.bind_eq_some_iff.mp H
 obtain ⟨t126, A40, H⟩ := H
 replace H : (if t126 = true then ((spec_l8Copy.f a0_0 l0_1).bind fun bt127 => (spec_Take.l0 k a1 a2 0 a0_0 l0_1 bt127.1 bt127.2)) else (some (0, ([] : List (S39)), 0, 0, 0, (⟨#[]⟩ : ByteArray), false))) = some (r1, r2, r3, r4, r5, r6, r7) := H
 have A4 := Aside0.mk A40
 clear A40
 by_cases c5 : t126 = true
 ·
  subst c5
  have H1 : ((spec_l8Copy.f a0_0 l0_1).bind fun bt127 => (spec_Take.l0 k a1 a2 0 a0_0 l0_1 bt127.1 bt127.2)) = some (r1, r2, r3, r4, r5, r6, r7) := by rw [if_pos rfl] at H; exact H
  clear H
  have H := H1
  clear H1
  replace H := Option.bind_eq_some_iff.mp H
  obtain ⟨⟨t127, t128⟩, A60, H⟩ := H
  replace H : (spec_Take.l0 k a1 a2 0 a0_0 l0_1 t127 t128) = some (r1, r2, r3, r4, r5, r6, r7) := H
  have A6 := Aside0.mk A60
  clear A60
  have H' := Aside0.mk H
  clear H
  go_enter Try.func18, Try.ntmps18
  go_wp2_with (first | ((with_reducible refine gate_dst (N := 3) rfl ?_); refine box_event ?hg (N := 3) ?hd (cs := #[.int .i64 a0_0, .slice A0_1 l0_1.length c0_1]) (t := 37) ?hr ?_; (case hd => rfl); (case hg => rfl); (case hr => exact zq1); intro gb123 hg w7 hbox hb; have BK123 := Aside0.mk hbox; have GW123 := Aside0.mk (zq205 : w.heap.size ≤ gb123); have GE123 := Aside0.mk (zq205 : w.heap.size ≤ gb123); replace HB := sB zq2 hb; clear hb hbox hg) | ((with_reducible refine gate_dst (N := 6) rfl ?_); refine box_event ?hg (N := 6) ?hd (cs := #[.int .i64 0, .slice none 0 0]) (t := 37) ?hr ?_; (case hd => rfl); (case hg => rfl); (case hr => exact zq1); intro gb124 hg w8 hbox hb; have BK124 := Aside0.mk hbox; have GW124 := Aside0.mk (zq224 : w.heap.size ≤ gb124); have GE124 := Aside0.mk (zq224 : w.heap.size ≤ gb124); replace HB := sB zq122 hb; have NB123_124 := Aside0.mk (zq225 : gb123 ≠ gb124); have NB124_123 := Aside0.mk (zq226 : gb124 ≠ gb123); replace BK123 := bF BK123 zq121 hb; clear hb hbox hg) | ((with_reducible refine gate_dst (N := 7) rfl ?_); refine box_event ?hg (N := 7) ?hd (cs := #[.int .i64 0, .int .i64 0, .int .i64 0, .string (⟨#[]⟩ : ByteArray)]) (t := 39) ?hr ?_; (case hd => rfl); (case hg => rfl); (case hr => exact zq1); intro gb125 hg w9 hbox hb; have BK125 := Aside0.mk hbox; have GW125 := Aside0.mk (zq227 : w.heap.size ≤ gb125); have GE125 := Aside0.mk (zq227 : w.heap.size ≤ gb125); replace HB := sB zq124 hb; have NB123_125 := Aside0.mk (zq225 : gb123 ≠ gb125); have NB125_123 := Aside0.mk (zq226 : gb125 ≠ gb123); replace BK123 := bF BK123 zq121 hb; have NB124_125 := Aside0.mk (zq228 : gb124 ≠ gb125); have NB125_124 := Aside0.mk (zq229 : gb125 ≠ gb124); replace BK124 := bF BK124 zq123 hb; clear hb hbox hg; have hnb10 := NB123_124.out; have hnc10 := NB124_123.out; have hnb11 := NB123_125.out; have hnc11 := NB125_123.out; obtain ⟨hcz12_0, hcz12_1, hfz12_0, hfz12_1⟩ := c2 (w := w9) BK123) | ((with_reducible refine gC 38 rfl ?_); refine gL 12 Try.func38 #[.agg #[.int .i64 a0_0, .slice A0_1 l0_1.length c0_1]] ?_; (with_reducible refine (spec_NetOk.calls k a0_0 _ _ l0_1 true _ ?_ ?_ A4.out).mono ?_); exact zq9; exact zq10; rintro e w13 ⟨rfl, hb⟩; refine ⟨_, rfl, ?_⟩; replace BK123 := bF BK123 zq121 hb; replace BK124 := bF BK124 zq123 hb; replace BK125 := bF BK125 zq125 hb; replace HB := sB zq126 hb; clear hb; obtain ⟨hcz14_0, hcz14_1, hfz14_0, hfz14_1⟩ := c2 (w := w13) BK123) | ((with_reducible refine gC 39 rfl ?_); refine gL 17 Try.func39 #[.agg #[.int .i64 a0_0, .slice A0_1 l0_1.length c0_1]] ?_; (with_reducible refine (spec_l8Copy.calls a0_0 _ _ l0_1 t127 t128 _ ?_ ?_ A6.out).mono ?_); exact zq9; exact zq10; rintro e w15 ⟨v129, rfl, ho0, hb⟩; refine ⟨_, rfl, ?_⟩; have HO130 := Aside0.mk (Kd.R_lower (Kd.R_newB ho0 (g := gb125) (o := .cells #[.int .i64 0, .int .i64 0, .int .i64 0, .string (⟨#[]⟩ : ByteArray)] 39 (0, 0)) zq125) (below_size zq126)); replace BK123 := bF BK123 zq121 hb; replace BK124 := bF BK124 zq123 hb; replace BK125 := bF BK125 zq125 hb; replace HB := sB zq126 hb; clear hb; (try clear ho0)) | ((with_reducible refine gate_dst (N := 9) rfl ?_); refine box_event ?hg (N := 9) ?hd (cs := #[.int .i64 0, .slice none 0 0]) (t := 37) ?hr ?_; (case hd => rfl); (case hg => rfl); (case hr => exact zq1); intro gb131 hg w16 hbox hb; replace HO130 := rB (by (with_reducible repeat (first | apply Kd.R_alloc | apply Kd.R_drewN | apply Kd.R_drew)); exact HO130.out) hb; have BK131 := Aside0.mk hbox; have GW131 := Aside0.mk (by rw [hg]; exact (below_size zq126) : w.heap.size ≤ gb131); have GE131 := Aside0.mk (by rw [hg]; exact (below_size zq126) : w.heap.size ≤ gb131); replace HB := sB zq126 hb; have NB123_131 := Aside0.mk (zq225 : gb123 ≠ gb131); have NB131_123 := Aside0.mk (zq226 : gb131 ≠ gb123); replace BK123 := bF BK123 zq121 hb; have NB124_131 := Aside0.mk (zq228 : gb124 ≠ gb131); have NB131_124 := Aside0.mk (zq229 : gb131 ≠ gb124); replace BK124 := bF BK124 zq123 hb; have NB125_131 := Aside0.mk (by rw [hg]; exact Nat.ne_of_lt (blk_lt (g := gb125) (o := .cells #[.int .i64 0, .int .i64 0, .int .i64 0, .string (⟨#[]⟩ : ByteArray)] 39 (0, 0)) zq125) : gb125 ≠ gb131); have NB131_125 := Aside0.mk (by rw [hg]; exact Nat.ne_of_gt (blk_lt (g := gb125) (o := .cells #[.int .i64 0, .int .i64 0, .int .i64 0, .string (⟨#[]⟩ : ByteArray)] 39 (0, 0)) zq125) : gb131 ≠ gb125); replace BK125 := bF BK125 zq125 hb; clear hb hbox hg; have hnb17 := NB131_123.out; have hnc17 := NB123_131.out; have hnb18 := NB131_124.out; have hnc18 := NB124_131.out; have hnb19 := NB131_125.out; have hnc19 := NB125_131.out; obtain ⟨hcz20_0, hcz20_1, hfz20_0, hfz20_1⟩ := c2 (w := w16) BK131; obtain ⟨Ao21, co21, eo21⟩ := Kd.R_slice HO130.out; subst eo21))
  go_loopg [10] k (fun kq v10 w' => ∃ (x10_1 : Int) (x125000_1 : Int) (x126000_1 : Int) (x126001_1 : Int) (x126002_1 : Int) (x126003_1 : ByteArray) (x132001_1 : List (S39)) (u132001 : Value), v10 = .int .i64 x10_1 ∧ Aside0 (spec_Take.l0 kq a1 a2 x10_1 a0_0 l0_1 t127 x132001_1 = some (r1, r2, r3, r4, r5, r6, r7)) ∧ Aside0 (kq ≤ k) ∧ Aside0 (Kd.R k39 39 w' w.heap.size (fun k_ => k_ ≠ gb125) u132001 x132001_1) ∧ Aside0 (w'.heap[gb123]? = some (.cells #[.int .i64 a0_0, (.slice A0_1 l0_1.length c0_1)] 37 (0, 0))) ∧ Aside0 (w'.heap[gb124]? = some (.cells #[.int .i64 x125000_1, (.slice none 0 0)] 37 (0, 0))) ∧ Aside0 (w'.heap[gb125]? = some (.cells #[.int .i64 x126000_1, .int .i64 x126001_1, .int .i64 x126002_1, .string x126003_1] 39 (0, 0))) ∧ Aside0 (w'.heap[gb131]? = some (.cells #[.int .i64 t127, u132001] 37 (0, 0))) ∧ Aside0 (Below w.heap.size w w'))
  case atStart => exact ⟨(0), (0), (0), (0), (0), ((⟨#[]⟩ : ByteArray)), (t128), (.slice Ao21 t128.length co21), zq5, H', ⟨Nat.le_refl _⟩, ⟨by (with_reducible repeat (first | apply Kd.R_alloc | apply Kd.R_drewN | apply Kd.R_drew)); exact Kd.R_mono (Kd.R_far (p := ⟨gb131, 1, none⟩) (Kd.R_far (p := ⟨gb131, 0, none⟩) (Kd.R_types HO130.out BK131.out (by decide)) (fun _ hk => hk.2) (.int .i64 t127)) (fun _ hk => hk.2) (.slice Ao21 t128.length co21)) (fun _ hk => hk.1.2)⟩, ⟨by (with_reducible repeat (first | refine blk_drewN ?_ _ | refine blk_drew ?_ | refine blk_alloc ?_ _)); refine blk_far ?_ NB123_131.out _; (with_reducible repeat (first | refine blk_drewN ?_ _ | refine blk_drew ?_ | refine blk_alloc ?_ _)); refine blk_far ?_ NB123_131.out _; (with_reducible repeat (first | refine blk_drewN ?_ _ | refine blk_drew ?_ | refine blk_alloc ?_ _)); exact BK123.out⟩, ⟨by (with_reducible repeat (first | refine blk_drewN ?_ _ | refine blk_drew ?_ | refine blk_alloc ?_ _)); refine blk_far ?_ NB124_131.out _; (with_reducible repeat (first | refine blk_drewN ?_ _ | refine blk_drew ?_ | refine blk_alloc ?_ _)); refine blk_far ?_ NB124_131.out _; (with_reducible repeat (first | refine blk_drewN ?_ _ | refine blk_drew ?_ | refine blk_alloc ?_ _)); exact BK124.out⟩, ⟨by (with_reducible repeat (first | refine blk_drewN ?_ _ | refine blk_drew ?_ | refine blk_alloc ?_ _)); refine blk_far ?_ NB125_131.out _; (with_reducible repeat (first | refine blk_drewN ?_ _ | refine blk_drew ?_ | refine blk_alloc ?_ _)); refine blk_far ?_ NB125_131.out _; (with_reducible repeat (first | refine blk_drewN ?_ _ | refine blk_drew ?_ | refine blk_alloc ?_ _)); exact BK125.out⟩, ⟨by (with_reducible repeat (first | refine blk_drewN ?_ _ | refine blk_drew ?_ | refine blk_alloc ?_ _)); refine blk_put (cs := #[.int .i64 t127, .slice none 0 0]) ?_ 1 _ rfl; (with_reducible repeat (first | refine blk_drewN ?_ _ | refine blk_drew ?_ | refine blk_alloc ?_ _)); refine blk_put (cs := #[.int .i64 0, .slice none 0 0]) ?_ 0 _ rfl; (with_reducible repeat (first | refine blk_drewN ?_ _ | refine blk_drew ?_ | refine blk_alloc ?_ _)); exact BK131.out⟩, ⟨zq127⟩⟩
  case round =>
   clear H'
   try clear c1
   try clear p2
   try clear c3
   try clear c5
   try clear c10
   try clear c11
   try clear c17
   try clear c18
   try clear c19
   try clear hcz12_0
   try clear hcz12_1
   try clear hcz14_0
   try clear hcz14_1
   try clear hcz20_0
   try clear hcz20_1
   try clear hfz12_0
   try clear hfz12_1
   try clear hfz14_0
   try clear hfz14_1
   try clear hfz20_0
   try clear hfz20_1
   obtain ⟨x10_1, x125000_1, x126000_1, x126001_1, x126002_1, x126003_1, x132001_1, u132001, rfl, HA, HK1, HO_132001, BK123, BK124, BK125, BK131, HB⟩ := hrel
   cases gk with
   | zero => exact absurd HA.out (by simp [spec_Take.l0])
   | succ k1 =>
    have H := HA.out
    clear HA
    simp only [spec_Take.l0] at H
    by_cases c22 : x10_1 < (l0_1.length : Int)
    ·
     rw [if_pos c22] at H
     have c22b0 := decide_eq_true c22
     clear c22
     by_cases c23 : 0 ≤ x10_1
     ·
      rw [if_pos c23] at H
      have c23b0 := decide_eq_true c23
      clear c23
      by_cases c24 : ((rd_T39 l0_1 x10_1).f0) = a1
      ·
       rw [if_pos c24] at H
       have c24b0 : (((rd_T39 l0_1 x10_1).f0) == a1) = true := beq_iff_eq.mpr c24
       have c24b1 : (((rd_T39 l0_1 x10_1).f0) != a1) = false := bne_eq_false_iff_eq.mpr c24
       clear c24
       by_cases c25 : a2 = true
       ·
        subst c25
        have H1 : (some (t127, x132001_1, (rd_T39 l0_1 x10_1).f0, (rd_T39 l0_1 x10_1).f1, (rd_T39 l0_1 x10_1).f2, (rd_T39 l0_1 x10_1).f3, true)) = some (r1, r2, r3, r4, r5, r6, r7) := by rw [if_pos rfl] at H; exact H
        clear H
        have H := H1
        clear H1
        simp only [Option.some.injEq, Prod.mk.injEq] at H
        obtain ⟨rfl, rfl, rfl, rfl, rfl, rfl, rfl⟩ := H
        have hnb26 := NB123_124.out
        have hnc26 := NB124_123.out
        have hnb27 := NB123_125.out
        have hnc27 := NB125_123.out
        have hnb28 := NB123_131.out
        have hnc28 := NB131_123.out
        obtain ⟨hcz29_0, hcz29_1, hfz29_0, hfz29_1⟩ := c2 (w := wr) BK123
        have p132 : 0 ≤ (x10_1 : Int) := of_decide_eq_true zq6
        have q132 : x10_1 < (l0_1.length : Int) := of_decide_eq_true zq6
        obtain ⟨ad132, e132, hx132_0, hx132_1, hx132_2, hx132_3⟩ := at_T39 HR0_1.out x10_1 p132 q132
        cases e132
        replace hx132_0 := (HB.out.cell (World.block_lt_of_cell? w _ hx132_0)).trans hx132_0
        replace hx132_1 := (HB.out.cell (World.block_lt_of_cell? w _ hx132_1)).trans hx132_1
        replace hx132_2 := (HB.out.cell (World.block_lt_of_cell? w _ hx132_2)).trans hx132_2
        replace hx132_3 := (HB.out.cell (World.block_lt_of_cell? w _ hx132_3)).trans hx132_3
        replace p132 := eq_true p132
        replace q132 := eq_true q132
        try go_wp2
        replace HO_132001 := Aside0.mk (Kd.R_drew HO_132001.out)
        replace BK123 := Aside0.mk (blk_drew BK123.out)
        replace BK124 := Aside0.mk (blk_drew BK124.out)
        replace BK125 := Aside0.mk (blk_drew BK125.out)
        replace BK131 := Aside0.mk (blk_drew BK131.out)
        replace HB := Aside0.mk (below_drew1 HB.out)
        have p133 : 0 ≤ (x10_1 : Int) := of_decide_eq_true zq6
        have q133 : x10_1 < (l0_1.length : Int) := of_decide_eq_true zq6
        obtain ⟨ad133, e133, hx133_0, hx133_1, hx133_2, hx133_3⟩ := at_T39 HR0_1.out x10_1 p133 q133
        have hw133_3 := hx133_3
        have hw133_2 := hx133_2
        have hw133_1 := hx133_1
        have hw133_0 := hx133_0
        obtain rfl : ad132 = ad133 := (by injection e133)
        replace hx133_0 := (HB.out.cell (World.block_lt_of_cell? w _ hx133_0)).trans hx133_0
        replace hx133_1 := (HB.out.cell (World.block_lt_of_cell? w _ hx133_1)).trans hx133_1
        replace hx133_2 := (HB.out.cell (World.block_lt_of_cell? w _ hx133_2)).trans hx133_2
        replace hx133_3 := (HB.out.cell (World.block_lt_of_cell? w _ hx133_3)).trans hx133_3
        replace p133 := eq_true p133
        replace q133 := eq_true q133
        obtain ⟨Ao32, co32, eo32⟩ := Kd.R_slice HO_132001.out
        (first | subst eo32 | (injection eo32 with f1_ f2_ f3_; have f4_ := f1_.symm; have f5_ := f3_.symm; clear f1_ f2_ f3_; subst f4_; subst f5_))
        refine start_ (n := 9) (S := fun w' => w'.cell? ⟨gb131, 0, none⟩ = some (.int .i64 t127) ∧ w'.cell? ⟨gb131, 1, none⟩ = some (.slice Ao32 x132001_1.length co32) ∧ w'.cell? ⟨gb123, 0, none⟩ = some (.int .i64 a0_0) ∧ w'.cell? ⟨gb123, 1, none⟩ = some (.slice (some ad132) l0_1.length c0_1) ∧ w'.cell? (ad132.add ((x10_1).toNat * 4)) = some (.int .i64 ((rd_T39 l0_1 x10_1).f0)) ∧ w'.cell? ⟨(ad132.add ((x10_1).toNat * 4)).block, (ad132.add ((x10_1).toNat * 4)).off + 1, none⟩ = some (.int .i64 ((rd_T39 l0_1 x10_1).f1)) ∧ w'.cell? ⟨(ad132.add ((x10_1).toNat * 4)).block, (ad132.add ((x10_1).toNat * 4)).off + 2, none⟩ = some (.int .i64 ((rd_T39 l0_1 x10_1).f2)) ∧ w'.cell? ⟨(ad132.add ((x10_1).toNat * 4)).block, (ad132.add ((x10_1).toNat * 4)).off + 3, none⟩ = some (.string ((rd_T39 l0_1 x10_1).f3))) (ds := []) (bA 9 0) (by kernel_rfl) rfl rfl ⟨(blk_cell BK131.out 0).trans rfl, (blk_cell BK131.out 1).trans rfl, (blk_cell BK123.out 0).trans rfl, (blk_cell BK123.out 1).trans rfl, ((HB.out.cell (World.block_lt_of_cell? w _ hw133_0)).trans hw133_0), ((HB.out.cell (World.block_lt_of_cell? w _ hw133_1)).trans hw133_1), ((HB.out.cell (World.block_lt_of_cell? w _ hw133_2)).trans hw133_2), ((HB.out.cell (World.block_lt_of_cell? w _ hw133_3)).trans hw133_3)⟩ (fun hHeld => ?_); refine with_tabW spec_Take.tab10 spec_Take.bits10 (fun HT_ HW_ => ?_)
        generalize wr.drew = w30 at HO_132001 BK123 BK124 BK125 BK131 HB hx133_0 hx133_1 hx133_2 hx133_3 hHeld ⊢
        refine pV 1 47 9 2 ?_
        refine pV 3 49 9 10 ?_
        refine tV 0 46 9 11 rfl zq294 ?_
        refine tV 2 48 9 15 rfl zq294 ?_
        refine pV 4 50 9 31 ?_
        refine tV 5 51 9 63 rfl zq294 ?_
        refine one_ (i := 6) (N := none) (bA 9 127) rfl rfl (one_of HT_.out (by kernel_rfl)) (by decide) (fun K hK => ?_)
        have hs31 : w30.cell? ⟨gb124, 0, none⟩ = some (.int .i64 x125000_1) := (blk_cell BK124.out 0).trans rfl
        have hfs31 := blk_frozen BK124.out 0
        have hns31_0 := NB123_124.out
        have hns31_2 := NB125_124.out
        have hns31_3 := NB131_124.out
        have hms31_0 := NB124_123.out
        have hms31_2 := NB124_125.out
        have hms31_3 := NB124_131.out
        have hs33 : w30.cell? ⟨gb124, 1, none⟩ = some (.slice none 0 0) := (blk_cell BK124.out 1).trans rfl
        have hfs33 := blk_frozen BK124.out 1
        have hns33_0 := NB123_124.out
        have hns33_2 := NB125_124.out
        have hns33_3 := NB131_124.out
        have hms33_0 := NB124_123.out
        have hms33_2 := NB124_125.out
        have hms33_3 := NB124_131.out
        refine skip_ (w1 := ?_) (by rfl) rfl ?_ ?_
        rotate_left
        ·
         go_simp
         rfl
        refine hK.out _ _ ⟨((cell_far (p := ⟨gb124, _, none⟩) NB131_124.out _).trans (((cell_far (p := ⟨gb124, _, none⟩) NB131_124.out _).trans (hHeld.1)))), ((cell_far (p := ⟨gb124, _, none⟩) NB131_124.out _).trans (((cell_far (p := ⟨gb124, _, none⟩) NB131_124.out _).trans (hHeld.2.1)))), ((cell_far (p := ⟨gb124, _, none⟩) NB123_124.out _).trans (((cell_far (p := ⟨gb124, _, none⟩) NB123_124.out _).trans (hHeld.2.2.1)))), ((cell_far (p := ⟨gb124, _, none⟩) NB123_124.out _).trans (((cell_far (p := ⟨gb124, _, none⟩) NB123_124.out _).trans (hHeld.2.2.2.1)))), ((cell_far (p := ⟨gb124, _, none⟩) zq230 _).trans (((cell_far (p := ⟨gb124, _, none⟩) zq230 _).trans (hHeld.2.2.2.2.1)))), ((cell_far (p := ⟨gb124, _, none⟩) zq231 _).trans (((cell_far (p := ⟨gb124, _, none⟩) zq231 _).trans (hHeld.2.2.2.2.2.1)))), ((cell_far (p := ⟨gb124, _, none⟩) zq232 _).trans (((cell_far (p := ⟨gb124, _, none⟩) zq232 _).trans (hHeld.2.2.2.2.2.2.1)))), ((cell_far (p := ⟨gb124, _, none⟩) zq233 _).trans (((cell_far (p := ⟨gb124, _, none⟩) zq233 _).trans (hHeld.2.2.2.2.2.2.2))))⟩ (fun hHeld => ?_)
        clear hK K
        refine one_ (i := 7) (N := none) (bA 9 255) rfl rfl (one_of HT_.out (by kernel_rfl)) (by decide) (fun K hK => ?_)
        have hs34 : w30.cell? ⟨gb125, 0, none⟩ = some (.int .i64 x126000_1) := (blk_cell BK125.out 0).trans rfl
        have hfs34 := blk_frozen BK125.out 0
        have hns34_0 := NB123_125.out
        have hns34_1 := NB124_125.out
        have hns34_3 := NB131_125.out
        have hms34_0 := NB125_123.out
        have hms34_1 := NB125_124.out
        have hms34_3 := NB125_131.out
        have hs35 : w30.cell? ⟨gb125, 1, none⟩ = some (.int .i64 x126001_1) := (blk_cell BK125.out 1).trans rfl
        have hfs35 := blk_frozen BK125.out 1
        have hns35_0 := NB123_125.out
        have hns35_1 := NB124_125.out
        have hns35_3 := NB131_125.out
        have hms35_0 := NB125_123.out
        have hms35_1 := NB125_124.out
        have hms35_3 := NB125_131.out
        have hs36 : w30.cell? ⟨gb125, 2, none⟩ = some (.int .i64 x126002_1) := (blk_cell BK125.out 2).trans rfl
        have hfs36 := blk_frozen BK125.out 2
        have hns36_0 := NB123_125.out
        have hns36_1 := NB124_125.out
        have hns36_3 := NB131_125.out
        have hms36_0 := NB125_123.out
        have hms36_1 := NB125_124.out
        have hms36_3 := NB125_131.out
        have hs37 : w30.cell? ⟨gb125, 3, none⟩ = some (.string x126003_1) := (blk_cell BK125.out 3).trans rfl
        have hfs37 := blk_frozen BK125.out 3
        have hns37_0 := NB123_125.out
        have hns37_1 := NB124_125.out
        have hns37_3 := NB131_125.out
        have hms37_0 := NB125_123.out
        have hms37_1 := NB125_124.out
        have hms37_3 := NB125_131.out
        refine skip_ (w1 := ?_) (by rfl) rfl ?_ ?_
        rotate_left
        ·
         go_simp
         rfl
        refine hK.out _ _ ⟨((cell_far (p := ⟨gb125, _, none⟩) NB131_125.out _).trans (((cell_far (p := ⟨gb125, _, none⟩) NB131_125.out _).trans (((cell_far (p := ⟨gb125, _, none⟩) NB131_125.out _).trans (((cell_far (p := ⟨gb125, _, none⟩) NB131_125.out _).trans (hHeld.1)))))))), ((cell_far (p := ⟨gb125, _, none⟩) NB131_125.out _).trans (((cell_far (p := ⟨gb125, _, none⟩) NB131_125.out _).trans (((cell_far (p := ⟨gb125, _, none⟩) NB131_125.out _).trans (((cell_far (p := ⟨gb125, _, none⟩) NB131_125.out _).trans (hHeld.2.1)))))))), ((cell_far (p := ⟨gb125, _, none⟩) NB123_125.out _).trans (((cell_far (p := ⟨gb125, _, none⟩) NB123_125.out _).trans (((cell_far (p := ⟨gb125, _, none⟩) NB123_125.out _).trans (((cell_far (p := ⟨gb125, _, none⟩) NB123_125.out _).trans (hHeld.2.2.1)))))))), ((cell_far (p := ⟨gb125, _, none⟩) NB123_125.out _).trans (((cell_far (p := ⟨gb125, _, none⟩) NB123_125.out _).trans (((cell_far (p := ⟨gb125, _, none⟩) NB123_125.out _).trans (((cell_far (p := ⟨gb125, _, none⟩) NB123_125.out _).trans (hHeld.2.2.2.1)))))))), ((cell_far (p := ⟨gb125, _, none⟩) zq234 _).trans (((cell_far (p := ⟨gb125, _, none⟩) zq234 _).trans (((cell_far (p := ⟨gb125, _, none⟩) zq234 _).trans (((cell_far (p := ⟨gb125, _, none⟩) zq234 _).trans (hHeld.2.2.2.2.1)))))))), ((cell_far (p := ⟨gb125, _, none⟩) zq235 _).trans (((cell_far (p := ⟨gb125, _, none⟩) zq235 _).trans (((cell_far (p := ⟨gb125, _, none⟩) zq235 _).trans (((cell_far (p := ⟨gb125, _, none⟩) zq235 _).trans (hHeld.2.2.2.2.2.1)))))))), ((cell_far (p := ⟨gb125, _, none⟩) zq236 _).trans (((cell_far (p := ⟨gb125, _, none⟩) zq236 _).trans (((cell_far (p := ⟨gb125, _, none⟩) zq236 _).trans (((cell_far (p := ⟨gb125, _, none⟩) zq236 _).trans (hHeld.2.2.2.2.2.2.1)))))))), ((cell_far (p := ⟨gb125, _, none⟩) zq237 _).trans (((cell_far (p := ⟨gb125, _, none⟩) zq237 _).trans (((cell_far (p := ⟨gb125, _, none⟩) zq237 _).trans (((cell_far (p := ⟨gb125, _, none⟩) zq237 _).trans (hHeld.2.2.2.2.2.2.2))))))))⟩ (fun hHeld => ?_)
        clear hK K
        refine pV 8 8 9 511 ?_
        refine done_ (done_of HT_.out (by kernel_rfl)) ?_
        try go_wp2
        refine bodyPost_ret (results_list (rs := [.cell 6 37, .cell 7 39, .tmp 8]) rfl (by simp) (.cell gb124 37 #[.int .i64 t127, .slice Ao32 x132001_1.length co32] (0, 0) _ rfl zq132 Try.underlying37 rfl (by kernel_rfl) (.cell gb125 39 #[.int .i64 ((rd_T39 l0_1 x10_1).f0), .int .i64 ((rd_T39 l0_1 x10_1).f1), .int .i64 ((rd_T39 l0_1 x10_1).f2), .string ((rd_T39 l0_1 x10_1).f3)] (0, 0) _ rfl zq133 Try.underlying39 rfl (by kernel_rfl) (.tmp .nil)))) rfl ?_
        exact ⟨_, zq3, by (with_reducible repeat (first | apply Kd.R_alloc | apply Kd.R_drewN | apply Kd.R_drew)); exact Kd.R_mono (Kd.R_far (p := ⟨gb125, 3, none⟩) (Kd.R_far (p := ⟨gb125, 2, none⟩) (Kd.R_far (p := ⟨gb125, 1, none⟩) (Kd.R_far (p := ⟨gb125, 0, none⟩) (Kd.R_far (p := ⟨gb124, 1, none⟩) (Kd.R_far (p := ⟨gb124, 0, none⟩) (Kd.R_mono (Kd.R_types HO_132001.out BK124.out (by decide)) (fun k_ hk => (⟨hk, hk.1⟩ : _ ∧ k_ ≠ gb125))) (fun _ hk => hk.1.2) (.int .i64 t127)) (fun _ hk => hk.1.2) (.slice Ao32 x132001_1.length co32)) (fun _ hk => hk.2) (.int .i64 ((rd_T39 l0_1 x10_1).f0))) (fun _ hk => hk.2) (.int .i64 ((rd_T39 l0_1 x10_1).f1))) (fun _ hk => hk.2) (.int .i64 ((rd_T39 l0_1 x10_1).f2))) (fun _ hk => hk.2) (.string ((rd_T39 l0_1 x10_1).f3))) (fun _ hk => trivial), zq127⟩
       replace c25 := Bool.eq_false_iff.mpr c25
       subst c25
       have H1 : (if x10_1 ≤ (x132001_1.length : Int) then (if 0 ≤ (wrap64 (x10_1 + 1)) then (if (wrap64 (x10_1 + 1)) ≤ (x132001_1.length : Int) then (some (t127, (x132001_1.eraseIdx (x10_1 : Int).toNat), (rd_T39 l0_1 x10_1).f0, (rd_T39 l0_1 x10_1).f1, (rd_T39 l0_1 x10_1).f2, (rd_T39 l0_1 x10_1).f3, true)) else (none)) else (none)) else (none)) = some (r1, r2, r3, r4, r5, r6, r7) := by rw [if_neg (show ¬ (false = true) by decide)] at H; exact H
       clear H
       have H := H1
       clear H1
       have c38b0 := eq_true (of_decide_eq_true zq6 : 0 ≤ x10_1)
       by_cases c39 : x10_1 ≤ (x132001_1.length : Int)
       ·
        rw [if_pos c39] at H
        have c39b0 := eq_true c39
        have c39b1 := decide_eq_true c39
        clear c39
        obtain ⟨y134, hy134⟩ : ∃ y_ : List (S39), y_ = (x132001_1.take (x10_1 : Int).toNat) := ⟨_, rfl⟩
        replace H : (if 0 ≤ (wrap64 (x10_1 + 1)) then (if (wrap64 (x10_1 + 1)) ≤ (x132001_1.length : Int) then (some (t127, (x132001_1.eraseIdx (x10_1 : Int).toNat), (rd_T39 l0_1 x10_1).f0, (rd_T39 l0_1 x10_1).f1, (rd_T39 l0_1 x10_1).f2, (rd_T39 l0_1 x10_1).f3, true)) else (none)) else (none)) = some (r1, r2, r3, r4, r5, r6, r7) := by first | (rw [hy134]; with_reducible exact H) | (have H2_ := (Option.bind_some _ _).symm.trans H; rw [hy134]; with_reducible exact H2_) | (have H2_ := (Option.bind_some _ _).symm.trans H; with_reducible exact H2_) | with_reducible exact H | (rw [hy134]; exact H) | exact H
        have Ny134 := Aside0.mk hy134
        clear hy134
        obtain ⟨ji40, hji40⟩ : ∃ j_ : Int, (wrap64 (x10_1 + 1)) = j_ := ⟨_, rfl⟩
        replace H : (if 0 ≤ (ji40) then (if (ji40) ≤ (x132001_1.length : Int) then (some (t127, (x132001_1.eraseIdx (x10_1 : Int).toNat), (rd_T39 l0_1 x10_1).f0, (rd_T39 l0_1 x10_1).f1, (rd_T39 l0_1 x10_1).f2, (rd_T39 l0_1 x10_1).f3, true)) else (none)) else (none)) = some (r1, r2, r3, r4, r5, r6, r7) := by first | (rw [hji40] at H; exact H) | (simp only [hji40] at H ⊢; exact H)
        have hji40w : (IntKind.i64.wrap (x10_1 + 1)) = ji40 := (i64_w _).trans hji40
        by_cases c41 : 0 ≤ (ji40)
        ·
         rw [if_pos c41] at H
         have c41b0 := eq_true c41
         have c41b1 := decide_eq_true c41
         clear c41
         by_cases c42 : (ji40) ≤ (x132001_1.length : Int)
         ·
          rw [if_pos c42] at H
          have c42b0 := eq_true c42
          have c42b1 := decide_eq_true c42
          clear c42
          obtain ⟨y138, hy138⟩ : ∃ y_ : List (S39), y_ = (x132001_1.drop ((ji40) : Int).toNat) := ⟨_, rfl⟩
          replace H : (some (t127, (x132001_1.eraseIdx (x10_1 : Int).toNat), (rd_T39 l0_1 x10_1).f0, (rd_T39 l0_1 x10_1).f1, (rd_T39 l0_1 x10_1).f2, (rd_T39 l0_1 x10_1).f3, true)) = some (r1, r2, r3, r4, r5, r6, r7) := by first | (rw [hy138]; with_reducible exact H) | (have H2_ := (Option.bind_some _ _).symm.trans H; rw [hy138]; with_reducible exact H2_) | (have H2_ := (Option.bind_some _ _).symm.trans H; with_reducible exact H2_) | with_reducible exact H | (rw [hy138]; exact H) | exact H
          have Ny138 := Aside0.mk hy138
          clear hy138
          obtain ⟨y142, hy142⟩ : ∃ y_ : List (S39), y_ = (x132001_1.eraseIdx (x10_1 : Int).toNat) := ⟨_, rfl⟩
          replace H : (some (t127, y142, (rd_T39 l0_1 x10_1).f0, (rd_T39 l0_1 x10_1).f1, (rd_T39 l0_1 x10_1).f2, (rd_T39 l0_1 x10_1).f3, true)) = some (r1, r2, r3, r4, r5, r6, r7) := by first | (rw [hy142]; with_reducible exact H) | (have H2_ := (Option.bind_some _ _).symm.trans H; rw [hy142]; with_reducible exact H2_) | (have H2_ := (Option.bind_some _ _).symm.trans H; with_reducible exact H2_) | with_reducible exact H | (rw [hy142]; exact H) | exact H
          have Ny142 := Aside0.mk hy142
          clear hy142
          simp only [Option.some.injEq, Prod.mk.injEq] at H
          obtain ⟨rfl, rfl, rfl, rfl, rfl, rfl, rfl⟩ := H
          have hnb43 := NB123_124.out
          have hnc43 := NB124_123.out
          have hnb44 := NB123_125.out
          have hnc44 := NB125_123.out
          have hnb45 := NB123_131.out
          have hnc45 := NB131_123.out
          obtain ⟨hcz46_0, hcz46_1, hfz46_0, hfz46_1⟩ := c2 (w := wr) BK123
          have p132 : 0 ≤ (x10_1 : Int) := of_decide_eq_true zq6
          have q132 : x10_1 < (l0_1.length : Int) := of_decide_eq_true zq6
          obtain ⟨ad132, e132, hx132_0, hx132_1, hx132_2, hx132_3⟩ := at_T39 HR0_1.out x10_1 p132 q132
          cases e132
          replace hx132_0 := (HB.out.cell (World.block_lt_of_cell? w _ hx132_0)).trans hx132_0
          replace hx132_1 := (HB.out.cell (World.block_lt_of_cell? w _ hx132_1)).trans hx132_1
          replace hx132_2 := (HB.out.cell (World.block_lt_of_cell? w _ hx132_2)).trans hx132_2
          replace hx132_3 := (HB.out.cell (World.block_lt_of_cell? w _ hx132_3)).trans hx132_3
          replace p132 := eq_true p132
          replace q132 := eq_true q132
          try go_wp2
          replace HO_132001 := Aside0.mk (Kd.R_drew HO_132001.out)
          replace BK123 := Aside0.mk (blk_drew BK123.out)
          replace BK124 := Aside0.mk (blk_drew BK124.out)
          replace BK125 := Aside0.mk (blk_drew BK125.out)
          replace BK131 := Aside0.mk (blk_drew BK131.out)
          replace HB := Aside0.mk (below_drew1 HB.out)
          obtain ⟨Ao49, co49, eo49⟩ := Kd.R_slice HO_132001.out
          (first | subst eo49 | (injection eo49 with f1_ f2_ f3_; have f4_ := f1_.symm; have f5_ := f3_.symm; clear f1_ f2_ f3_; subst f4_; subst f5_))
          have q48 : (x10_1 : Int) ≤ ((x132001_1.length : Int) : Int) := of_decide_eq_true zq6
          obtain ⟨i048, hi048, _, hsz48, _⟩ := info_parts info39
          have hroom48 : x132001_1.length ≤ co49 := (Kd.R_reads' HO_132001.out).2.1
          have hC48 : Kd.C k39 _ Ao49 x132001_1.length x132001_1 := (Kd.R_reads' HO_132001.out).2.2
          have hcut48 := cut_to (P := Try.prog) 35 39 .i64 Try.underlying35 hi048 Ao49 x132001_1.length co49 x10_1 (of_decide_eq_true zq6) q48 hroom48
          have hr48 := Kd.C_take (m := (x10_1 : Int).toNat) hC48 (by omega)
          have hy48 : y134.length = (x10_1 : Int).toNat := (by rw [Ny134.out, List.length_take]; omega)
          rw [← Ny134.out] at hr48
          rw [← hy48] at hcut48
          have HR137 := Aside0.mk hr48
          have HC137 := Aside0.mk (show y134.length ≤ co49 from by omega)
          clear hr48 hC48 hroom48 hi048 hsz48
          have KY48 := Aside0.mk hy48
          clear hy48
          have KL48 := Aside0.mk (show (x10_1 : Int).toNat ≤ x132001_1.length from by omega)
          replace q48 := eq_true q48
          have q50 : ((ji40) : Int) ≤ ((x132001_1.length : Int) : Int) := of_decide_eq_true zq6
          obtain ⟨i050, hi050, _, hsz50, _⟩ := info_parts info39
          have hroom50 : x132001_1.length ≤ co49 := (Kd.R_reads' HO_132001.out).2.1
          have hC50 : Kd.C k39 _ Ao49 x132001_1.length x132001_1 := (Kd.R_reads' HO_132001.out).2.2
          have q050 : (0 : Int) ≤ ((ji40) : Int) := of_decide_eq_true zq6
          have hcut50 := cut_from (P := Try.prog) 35 39 .i64 Try.underlying35 hi050 4 hsz50 Ao49 x132001_1.length co49 (ji40) q050 q50
          have hr50 := Kd.C_drop (m := ((ji40) : Int).toNat) (c := co49) hC50 (by omega) hroom50
          obtain ⟨A50, hA50⟩ : ∃ A1, A1 = (if co49 = ((ji40) : Int).toNat then Ao49 else (Ao49 : Option Addr).map (·.add (((ji40) : Int).toNat * 4))) := ⟨_, rfl⟩
          obtain ⟨c50, hc50⟩ : ∃ c1, c1 = co49 - ((ji40) : Int).toNat := ⟨_, rfl⟩
          have hy50 : y138.length = x132001_1.length - ((ji40) : Int).toNat := (by rw [Ny138.out, List.length_drop] <;> omega)
          rw [show (x132001_1).drop ((ji40) : Int).toNat = y138 from Ny138.out.symm] at hr50
          replace hr50 : Kd.C k39 _ A50 y138.length y138 := (by rw [hA50]; exact hr50)
          rw [← hy50, ← hA50, ← hc50] at hcut50
          have HR141 := Aside0.mk hr50
          have HC141 := Aside0.mk (show y138.length ≤ c50 from by rw [hy50, hc50]; exact Nat.sub_le_sub_right hroom50 _)
          clear hr50 hC50 hroom50 hi050 hsz50 hc50
          have KY50 := Aside0.mk hy50
          have KA50 := Aside0.mk hA50
          clear hy50 hA50
          have KL50 := Aside0.mk (show ((ji40) : Int).toNat ≤ x132001_1.length from by omega)
          replace q50 := eq_true q50
          obtain ⟨go52, co52, eo52, gb52, gl52, cl52, HG52⟩ := Kd.R_form HO_132001.out (by have hj_ : 0 ≤ (x10_1 : Int) := of_decide_eq_true zq6; have hl_ : (ji40 : Int) ≤ (x132001_1.length : Int) := of_decide_eq_true zq6; have hh_ : (x10_1 : Int) ≤ (x132001_1.length : Int) := of_decide_eq_true zq6; rw [← hji40] at hl_; unfold wrap64 at hl_; omega)
          (first | cases eo52 | (injection eo52 with ea_ en_ ec_; (first | subst ea_ | (injection ea_ with ea_; subst ea_)); subst ec_; clear en_))
          have GB52 := Aside0.mk gb52
          have GG52 := Aside0.mk HG52
          clear gb52 gl52 HG52
          refine start_ (n := 12) (S := fun w' => w'.cell? ⟨gb131, 0, none⟩ = some (.int .i64 t127) ∧ w'.cell? ⟨gb131, 1, none⟩ = some (.slice (some ⟨go52, 0, none⟩) x132001_1.length co49)) (ds := [11]) (bA 12 0) (by kernel_rfl) rfl rfl ⟨(blk_cell BK131.out 0).trans rfl, (blk_cell BK131.out 1).trans rfl⟩ (fun hHeld => ?_); refine with_tabW spec_Take.tab9 spec_Take.bits9 (fun HT_ HW_ => ?_)
          generalize wr.drew = w47 at HO_132001 BK123 BK124 BK125 BK131 HB GG52 HR137 HR141 hHeld ⊢
          refine pV 0 35 12 1 ?_
          refine pV 2 37 12 5 ?_
          refine pV 4 39 12 21 ?_
          refine pV 6 41 12 85 ?_
          refine pV 7 42 12 213 ?_
          refine tV 1 36 12 215 rfl zq295 ?_
          refine pV 3 38 12 223 ?_
          refine tV 5 40 12 255 rfl zq295 ?_
          refine pV 8 43 12 511 ?_
          refine one_ (i := 9) (N := some 44) (bA 12 1023) rfl rfl (one_of HT_.out (by kernel_rfl)) (by decide) (fun K hK => ?_)
          have hj_ : 0 ≤ (x10_1 : Int) := of_decide_eq_true zq6
          have hl_ : (ji40 : Int) ≤ (x132001_1.length : Int) := of_decide_eq_true zq6
          have hh_ : (x10_1 : Int) ≤ (x132001_1.length : Int) := of_decide_eq_true zq6
          have hb_ := (Kd.R_reads' HO_132001.out).2.2.2.1
          have h0_ : (0 : Int) ≤ (ji40 : Int) := of_decide_eq_true zq6
          have hy1_ := KY48.out
          have hk_ : (ji40 : Int).toNat = y134.length + 1 := (by have hw_ : (ji40 : Int) = x10_1 + 1 := (by have h00_ := h0_; rw [← hji40] at h00_ ⊢; unfold wrap64 at h00_ ⊢; omega); rw [hw_]; omega)
          refine Kd.R_delete_step k39 (w0 := w) w.heap.size (by rfl) (.tmp 38) (.tmp 43) 35 39 rfl Try.underlying35 (by kernel_rfl) (g := go52) (n := x132001_1.length) (c := co49) (k := y134.length) rfl rfl ?hA ?hm zq134 ?hk zq127 (below_size zq127) ?_
          (case hA => have ha_ := KA50.out; rw [hk_] at ha_; exact ha_)
          (case hm => have ha_ := KY50.out; omega)
          (case hk => omega)
          intro w51 ho hb hg
          clear hj_ hl_ hh_ hb_ hk_ h0_
          rw [hy1_, ← Ny142.out] at ho
          clear hy1_
          have hn_ : x132001_1.length - 1 = y142.length := (by have := (Kd.R_reads' ho).1; omega)
          rw [hn_] at ho ⊢
          clear hn_
          replace BK123 := Aside0.mk (blk_grown (g := gb123) (o := .cells #[.int .i64 a0_0, .slice (some ad132) l0_1.length c0_1] 37 (0, 0)) zq121 hg (Kd.R_ne HO_132001.out BK123.out (by decide)))
          replace BK124 := Aside0.mk (blk_grown (g := gb124) (o := .cells #[.int .i64 x125000_1, .slice none 0 0] 37 (0, 0)) zq123 hg (Kd.R_ne HO_132001.out BK124.out (by decide)))
          replace BK125 := Aside0.mk (blk_grown (g := gb125) (o := .cells #[.int .i64 x126000_1, .int .i64 x126001_1, .int .i64 x126002_1, .string x126003_1] 39 (0, 0)) zq125 hg (Kd.R_away HO_132001.out (fun _ hk => hk)))
          replace BK131 := Aside0.mk (blk_grown (g := gb131) (o := .cells #[.int .i64 t127, .slice (some ⟨go52, 0, none⟩) x132001_1.length co49] 37 (0, 0)) zq135 hg (Kd.R_ne HO_132001.out BK131.out (by decide)))
          replace HO_132001 := Aside0.mk ho
          replace HB := Aside0.mk hb
          clear ho hb hg
          refine hK.out _ _ ⟨(blk_cell BK131.out 0).trans rfl, (blk_cell BK131.out 1).trans rfl⟩ (fun hHeld => ?_)
          clear hK K
          refine norm_ (a' := ?_) ?_ ?_
          rotate_left
          ·
           show Act.put _ (some 44) _ = _
           simp only [Act.put, List.setIfInBounds_toArray, List.set_cons_zero, List.set_cons_succ, i64_w, i32_w]
           rfl
          refine pV 10 45 12 2047 ?_
          refine last_ (i := 11) (N := none) (bA 12 4095) rfl rfl (one_of HT_.out (by kernel_rfl)) (by decide) (fun K hK => ?_)
          have hs53 : w51.cell? ⟨gb131, 1, none⟩ = some (.slice (some ⟨go52, 0, none⟩) x132001_1.length co49) := (blk_cell BK131.out 1).trans rfl
          have hfs53 := blk_frozen BK131.out 1
          have hns53_0 := NB123_131.out
          have hns53_1 := NB124_131.out
          have hns53_2 := NB125_131.out
          have hms53_0 := NB131_123.out
          have hms53_1 := NB131_124.out
          have hms53_2 := NB131_125.out
          refine skip_ (w1 := ?_) (by rfl) rfl ?_ ?_
          rotate_left
          ·
           go_simp
           rfl
          refine hK.out _ _ ?_
          clear hK K
          refine done_ (done_of HT_.out (by kernel_rfl)) ?_
          try go_wp2
          have n0_ : Aside0 (Kd.R k39 39 (w51.setCell ⟨gb131, 1, none⟩ (.slice (some ⟨go52, 0, none⟩) y142.length co49)) w.heap.size (fun k_ => k_ ≠ gb125) (.slice (some ⟨go52, 0, none⟩) y142.length co49) y142) := ⟨by (with_reducible repeat (first | apply Kd.R_alloc | apply Kd.R_drewN | apply Kd.R_drew)); exact Kd.R_mono (Kd.R_far (p := ⟨gb131, 1, none⟩) (Kd.R_types HO_132001.out BK131.out (by decide)) (fun _ hk => hk.2) (.slice (some ⟨go52, 0, none⟩) y142.length co49)) (fun _ hk => hk.1)⟩
          have n1_ : Aside0 ((w51.setCell ⟨gb131, 1, none⟩ (.slice (some ⟨go52, 0, none⟩) y142.length co49)).heap[gb123]? = some (.cells #[.int .i64 a0_0, .slice (some ad132) l0_1.length c0_1] 37 (0, 0))) := ⟨by (with_reducible repeat (first | refine blk_drewN ?_ _ | refine blk_drew ?_ | refine blk_alloc ?_ _)); refine blk_far ?_ NB123_131.out _; (with_reducible repeat (first | refine blk_drewN ?_ _ | refine blk_drew ?_ | refine blk_alloc ?_ _)); exact BK123.out⟩
          have n2_ : Aside0 ((w51.setCell ⟨gb131, 1, none⟩ (.slice (some ⟨go52, 0, none⟩) y142.length co49)).heap[gb124]? = some (.cells #[.int .i64 x125000_1, .slice none 0 0] 37 (0, 0))) := ⟨by (with_reducible repeat (first | refine blk_drewN ?_ _ | refine blk_drew ?_ | refine blk_alloc ?_ _)); refine blk_far ?_ NB124_131.out _; (with_reducible repeat (first | refine blk_drewN ?_ _ | refine blk_drew ?_ | refine blk_alloc ?_ _)); exact BK124.out⟩
          have n3_ : Aside0 ((w51.setCell ⟨gb131, 1, none⟩ (.slice (some ⟨go52, 0, none⟩) y142.length co49)).heap[gb125]? = some (.cells #[.int .i64 x126000_1, .int .i64 x126001_1, .int .i64 x126002_1, .string x126003_1] 39 (0, 0))) := ⟨by (with_reducible repeat (first | refine blk_drewN ?_ _ | refine blk_drew ?_ | refine blk_alloc ?_ _)); refine blk_far ?_ NB125_131.out _; (with_reducible repeat (first | refine blk_drewN ?_ _ | refine blk_drew ?_ | refine blk_alloc ?_ _)); exact BK125.out⟩
          have n4_ : Aside0 ((w51.setCell ⟨gb131, 1, none⟩ (.slice (some ⟨go52, 0, none⟩) y142.length co49)).heap[gb131]? = some (.cells #[.int .i64 t127, .slice (some ⟨go52, 0, none⟩) y142.length co49] 37 (0, 0))) := ⟨by (with_reducible repeat (first | refine blk_drewN ?_ _ | refine blk_drew ?_ | refine blk_alloc ?_ _)); refine blk_put (cs := #[.int .i64 t127, .slice (some ⟨go52, 0, none⟩) x132001_1.length co49]) ?_ 1 _ rfl; (with_reducible repeat (first | refine blk_drewN ?_ _ | refine blk_drew ?_ | refine blk_alloc ?_ _)); exact BK131.out⟩
          have n5_ : Aside0 (Below w.heap.size w (w51.setCell ⟨gb131, 1, none⟩ (.slice (some ⟨go52, 0, none⟩) y142.length co49))) := ⟨zq127⟩
          (try clear HO_132001)
          (try clear BK123)
          (try clear BK124)
          (try clear BK125)
          (try clear BK131)
          (try clear HB)
          generalize (w51.setCell ⟨gb131, 1, none⟩ (.slice (some ⟨go52, 0, none⟩) y142.length co49)) = w54 at n0_ n1_ n2_ n3_ n4_ n5_ ⊢
          have HO_132001 := n0_
          have BK123 := n1_
          have BK124 := n2_
          have BK125 := n3_
          have BK131 := n4_
          have HB := n5_
          clear n0_ n1_ n2_ n3_ n4_ n5_
          replace HO_132001 := Aside0.mk (Kd.R_drew HO_132001.out)
          replace BK123 := Aside0.mk (blk_drew BK123.out)
          replace BK124 := Aside0.mk (blk_drew BK124.out)
          replace BK125 := Aside0.mk (blk_drew BK125.out)
          replace BK131 := Aside0.mk (blk_drew BK131.out)
          replace HB := Aside0.mk (below_drew1 HB.out)
          have p145 : 0 ≤ (x10_1 : Int) := of_decide_eq_true zq6
          have q145 : x10_1 < (l0_1.length : Int) := of_decide_eq_true zq6
          obtain ⟨ad145, e145, hx145_0, hx145_1, hx145_2, hx145_3⟩ := at_T39 HR0_1.out x10_1 p145 q145
          have hw145_3 := hx145_3
          have hw145_2 := hx145_2
          have hw145_1 := hx145_1
          have hw145_0 := hx145_0
          obtain rfl : ad132 = ad145 := (by injection e145)
          replace hx145_0 := (HB.out.cell (World.block_lt_of_cell? w _ hx145_0)).trans hx145_0
          replace hx145_1 := (HB.out.cell (World.block_lt_of_cell? w _ hx145_1)).trans hx145_1
          replace hx145_2 := (HB.out.cell (World.block_lt_of_cell? w _ hx145_2)).trans hx145_2
          replace hx145_3 := (HB.out.cell (World.block_lt_of_cell? w _ hx145_3)).trans hx145_3
          replace p145 := eq_true p145
          replace q145 := eq_true q145
          refine start_ (n := 9) (S := fun w' => w'.cell? ⟨gb131, 0, none⟩ = some (.int .i64 t127) ∧ w'.cell? ⟨gb131, 1, none⟩ = some (.slice (some ⟨go52, 0, none⟩) y142.length co49) ∧ w'.cell? ⟨gb123, 0, none⟩ = some (.int .i64 a0_0) ∧ w'.cell? ⟨gb123, 1, none⟩ = some (.slice (some ad132) l0_1.length c0_1) ∧ w'.cell? (ad132.add ((x10_1).toNat * 4)) = some (.int .i64 ((rd_T39 l0_1 x10_1).f0)) ∧ w'.cell? ⟨(ad132.add ((x10_1).toNat * 4)).block, (ad132.add ((x10_1).toNat * 4)).off + 1, none⟩ = some (.int .i64 ((rd_T39 l0_1 x10_1).f1)) ∧ w'.cell? ⟨(ad132.add ((x10_1).toNat * 4)).block, (ad132.add ((x10_1).toNat * 4)).off + 2, none⟩ = some (.int .i64 ((rd_T39 l0_1 x10_1).f2)) ∧ w'.cell? ⟨(ad132.add ((x10_1).toNat * 4)).block, (ad132.add ((x10_1).toNat * 4)).off + 3, none⟩ = some (.string ((rd_T39 l0_1 x10_1).f3))) (ds := []) (bA 9 0) (by kernel_rfl) rfl rfl ⟨(blk_cell BK131.out 0).trans rfl, (blk_cell BK131.out 1).trans rfl, (blk_cell BK123.out 0).trans rfl, (blk_cell BK123.out 1).trans rfl, ((HB.out.cell (World.block_lt_of_cell? w _ hw145_0)).trans hw145_0), ((HB.out.cell (World.block_lt_of_cell? w _ hw145_1)).trans hw145_1), ((HB.out.cell (World.block_lt_of_cell? w _ hw145_2)).trans hw145_2), ((HB.out.cell (World.block_lt_of_cell? w _ hw145_3)).trans hw145_3)⟩ (fun hHeld => ?_); refine with_tabW spec_Take.tab10 spec_Take.bits10 (fun HT_ HW_ => ?_)
          generalize w54.drew = w55 at HO_132001 BK123 BK124 BK125 BK131 HB hx145_0 hx145_1 hx145_2 hx145_3 hHeld ⊢
          refine pV 1 47 9 2 ?_
          refine pV 3 49 9 10 ?_
          refine tV 0 46 9 11 rfl zq294 ?_
          refine tV 2 48 9 15 rfl zq294 ?_
          refine pV 4 50 9 31 ?_
          refine tV 5 51 9 63 rfl zq294 ?_
          refine one_ (i := 6) (N := none) (bA 9 127) rfl rfl (one_of HT_.out (by kernel_rfl)) (by decide) (fun K hK => ?_)
          have hs56 : w55.cell? ⟨gb124, 0, none⟩ = some (.int .i64 x125000_1) := (blk_cell BK124.out 0).trans rfl
          have hfs56 := blk_frozen BK124.out 0
          have hns56_0 := NB123_124.out
          have hns56_2 := NB125_124.out
          have hns56_3 := NB131_124.out
          have hms56_0 := NB124_123.out
          have hms56_2 := NB124_125.out
          have hms56_3 := NB124_131.out
          have hs57 : w55.cell? ⟨gb124, 1, none⟩ = some (.slice none 0 0) := (blk_cell BK124.out 1).trans rfl
          have hfs57 := blk_frozen BK124.out 1
          have hns57_0 := NB123_124.out
          have hns57_2 := NB125_124.out
          have hns57_3 := NB131_124.out
          have hms57_0 := NB124_123.out
          have hms57_2 := NB124_125.out
          have hms57_3 := NB124_131.out
          refine skip_ (w1 := ?_) (by rfl) rfl ?_ ?_
          rotate_left
          ·
           go_simp
           rfl
          refine hK.out _ _ ⟨((cell_far (p := ⟨gb124, _, none⟩) NB131_124.out _).trans (((cell_far (p := ⟨gb124, _, none⟩) NB131_124.out _).trans (hHeld.1)))), ((cell_far (p := ⟨gb124, _, none⟩) NB131_124.out _).trans (((cell_far (p := ⟨gb124, _, none⟩) NB131_124.out _).trans (hHeld.2.1)))), ((cell_far (p := ⟨gb124, _, none⟩) NB123_124.out _).trans (((cell_far (p := ⟨gb124, _, none⟩) NB123_124.out _).trans (hHeld.2.2.1)))), ((cell_far (p := ⟨gb124, _, none⟩) NB123_124.out _).trans (((cell_far (p := ⟨gb124, _, none⟩) NB123_124.out _).trans (hHeld.2.2.2.1)))), ((cell_far (p := ⟨gb124, _, none⟩) zq238 _).trans (((cell_far (p := ⟨gb124, _, none⟩) zq238 _).trans (hHeld.2.2.2.2.1)))), ((cell_far (p := ⟨gb124, _, none⟩) zq239 _).trans (((cell_far (p := ⟨gb124, _, none⟩) zq239 _).trans (hHeld.2.2.2.2.2.1)))), ((cell_far (p := ⟨gb124, _, none⟩) zq240 _).trans (((cell_far (p := ⟨gb124, _, none⟩) zq240 _).trans (hHeld.2.2.2.2.2.2.1)))), ((cell_far (p := ⟨gb124, _, none⟩) zq241 _).trans (((cell_far (p := ⟨gb124, _, none⟩) zq241 _).trans (hHeld.2.2.2.2.2.2.2))))⟩ (fun hHeld => ?_)
          clear hK K
          refine one_ (i := 7) (N := none) (bA 9 255) rfl rfl (one_of HT_.out (by kernel_rfl)) (by decide) (fun K hK => ?_)
          have hs58 : w55.cell? ⟨gb125, 0, none⟩ = some (.int .i64 x126000_1) := (blk_cell BK125.out 0).trans rfl
          have hfs58 := blk_frozen BK125.out 0
          have hns58_0 := NB123_125.out
          have hns58_1 := NB124_125.out
          have hns58_3 := NB131_125.out
          have hms58_0 := NB125_123.out
          have hms58_1 := NB125_124.out
          have hms58_3 := NB125_131.out
          have hs59 : w55.cell? ⟨gb125, 1, none⟩ = some (.int .i64 x126001_1) := (blk_cell BK125.out 1).trans rfl
          have hfs59 := blk_frozen BK125.out 1
          have hns59_0 := NB123_125.out
          have hns59_1 := NB124_125.out
          have hns59_3 := NB131_125.out
          have hms59_0 := NB125_123.out
          have hms59_1 := NB125_124.out
          have hms59_3 := NB125_131.out
          have hs60 : w55.cell? ⟨gb125, 2, none⟩ = some (.int .i64 x126002_1) := (blk_cell BK125.out 2).trans rfl
          have hfs60 := blk_frozen BK125.out 2
          have hns60_0 := NB123_125.out
          have hns60_1 := NB124_125.out
          have hns60_3 := NB131_125.out
          have hms60_0 := NB125_123.out
          have hms60_1 := NB125_124.out
          have hms60_3 := NB125_131.out
          have hs61 : w55.cell? ⟨gb125, 3, none⟩ = some (.string x126003_1) := (blk_cell BK125.out 3).trans rfl
          have hfs61 := blk_frozen BK125.out 3
          have hns61_0 := NB123_125.out
          have hns61_1 := NB124_125.out
          have hns61_3 := NB131_125.out
          have hms61_0 := NB125_123.out
          have hms61_1 := NB125_124.out
          have hms61_3 := NB125_131.out
          refine skip_ (w1 := ?_) (by rfl) rfl ?_ ?_
          rotate_left
          ·
           go_simp
           rfl
          refine hK.out _ _ ⟨((cell_far (p := ⟨gb125, _, none⟩) NB131_125.out _).trans (((cell_far (p := ⟨gb125, _, none⟩) NB131_125.out _).trans (((cell_far (p := ⟨gb125, _, none⟩) NB131_125.out _).trans (((cell_far (p := ⟨gb125, _, none⟩) NB131_125.out _).trans (hHeld.1)))))))), ((cell_far (p := ⟨gb125, _, none⟩) NB131_125.out _).trans (((cell_far (p := ⟨gb125, _, none⟩) NB131_125.out _).trans (((cell_far (p := ⟨gb125, _, none⟩) NB131_125.out _).trans (((cell_far (p := ⟨gb125, _, none⟩) NB131_125.out _).trans (hHeld.2.1)))))))), ((cell_far (p := ⟨gb125, _, none⟩) NB123_125.out _).trans (((cell_far (p := ⟨gb125, _, none⟩) NB123_125.out _).trans (((cell_far (p := ⟨gb125, _, none⟩) NB123_125.out _).trans (((cell_far (p := ⟨gb125, _, none⟩) NB123_125.out _).trans (hHeld.2.2.1)))))))), ((cell_far (p := ⟨gb125, _, none⟩) NB123_125.out _).trans (((cell_far (p := ⟨gb125, _, none⟩) NB123_125.out _).trans (((cell_far (p := ⟨gb125, _, none⟩) NB123_125.out _).trans (((cell_far (p := ⟨gb125, _, none⟩) NB123_125.out _).trans (hHeld.2.2.2.1)))))))), ((cell_far (p := ⟨gb125, _, none⟩) zq242 _).trans (((cell_far (p := ⟨gb125, _, none⟩) zq242 _).trans (((cell_far (p := ⟨gb125, _, none⟩) zq242 _).trans (((cell_far (p := ⟨gb125, _, none⟩) zq242 _).trans (hHeld.2.2.2.2.1)))))))), ((cell_far (p := ⟨gb125, _, none⟩) zq243 _).trans (((cell_far (p := ⟨gb125, _, none⟩) zq243 _).trans (((cell_far (p := ⟨gb125, _, none⟩) zq243 _).trans (((cell_far (p := ⟨gb125, _, none⟩) zq243 _).trans (hHeld.2.2.2.2.2.1)))))))), ((cell_far (p := ⟨gb125, _, none⟩) zq244 _).trans (((cell_far (p := ⟨gb125, _, none⟩) zq244 _).trans (((cell_far (p := ⟨gb125, _, none⟩) zq244 _).trans (((cell_far (p := ⟨gb125, _, none⟩) zq244 _).trans (hHeld.2.2.2.2.2.2.1)))))))), ((cell_far (p := ⟨gb125, _, none⟩) zq245 _).trans (((cell_far (p := ⟨gb125, _, none⟩) zq245 _).trans (((cell_far (p := ⟨gb125, _, none⟩) zq245 _).trans (((cell_far (p := ⟨gb125, _, none⟩) zq245 _).trans (hHeld.2.2.2.2.2.2.2))))))))⟩ (fun hHeld => ?_)
          clear hK K
          refine pV 8 8 9 511 ?_
          refine done_ (done_of HT_.out (by kernel_rfl)) ?_
          try go_wp2
          refine bodyPost_ret (results_list (rs := [.cell 6 37, .cell 7 39, .tmp 8]) rfl (by simp) (.cell gb124 37 #[.int .i64 t127, .slice (some ⟨go52, 0, none⟩) y142.length co49] (0, 0) _ rfl zq132 Try.underlying37 rfl (by kernel_rfl) (.cell gb125 39 #[.int .i64 ((rd_T39 l0_1 x10_1).f0), .int .i64 ((rd_T39 l0_1 x10_1).f1), .int .i64 ((rd_T39 l0_1 x10_1).f2), .string ((rd_T39 l0_1 x10_1).f3)] (0, 0) _ rfl zq133 Try.underlying39 rfl (by kernel_rfl) (.tmp .nil)))) rfl ?_
          exact ⟨_, by first | rfl | (simp [errW_none, errW_some] <;> rfl) | (simp only [← hji40]; first | rfl | (simp [errW_none, errW_some] <;> rfl)) | (simp [*, errW_none, errW_some] <;> rfl), by (with_reducible repeat (first | apply Kd.R_alloc | apply Kd.R_drewN | apply Kd.R_drew)); exact Kd.R_mono (Kd.R_far (p := ⟨gb125, 3, none⟩) (Kd.R_far (p := ⟨gb125, 2, none⟩) (Kd.R_far (p := ⟨gb125, 1, none⟩) (Kd.R_far (p := ⟨gb125, 0, none⟩) (Kd.R_far (p := ⟨gb124, 1, none⟩) (Kd.R_far (p := ⟨gb124, 0, none⟩) (Kd.R_mono (Kd.R_types HO_132001.out BK124.out (by decide)) (fun k_ hk => (⟨hk, hk.1⟩ : _ ∧ k_ ≠ gb125))) (fun _ hk => hk.1.2) (.int .i64 t127)) (fun _ hk => hk.1.2) (.slice (some ⟨go52, 0, none⟩) y142.length co49)) (fun _ hk => hk.2) (.int .i64 ((rd_T39 l0_1 x10_1).f0))) (fun _ hk => hk.2) (.int .i64 ((rd_T39 l0_1 x10_1).f1))) (fun _ hk => hk.2) (.int .i64 ((rd_T39 l0_1 x10_1).f2))) (fun _ hk => hk.2) (.string ((rd_T39 l0_1 x10_1).f3))) (fun _ hk => trivial), zq127⟩
         rw [if_neg c42] at H
         exact absurd H (by simp)
        rw [if_neg c41] at H
        exact absurd H (by simp)
       rw [if_neg c39] at H
       exact absurd H (by simp)
      rw [if_neg c24] at H
      have c24b0 : (((rd_T39 l0_1 x10_1).f0) == a1) = false := beq_eq_false_iff_ne.mpr c24
      have c24b1 : (((rd_T39 l0_1 x10_1).f0) != a1) = true := bne_iff_ne.mpr c24
      have H' := Aside0.mk H
      clear H
      have hnb62 := NB123_124.out
      have hnc62 := NB124_123.out
      have hnb63 := NB123_125.out
      have hnc63 := NB125_123.out
      have hnb64 := NB123_131.out
      have hnc64 := NB131_123.out
      obtain ⟨hcz65_0, hcz65_1, hfz65_0, hfz65_1⟩ := c2 (w := wr) BK123
      have p132 : 0 ≤ (x10_1 : Int) := of_decide_eq_true zq6
      have q132 : x10_1 < (l0_1.length : Int) := of_decide_eq_true zq6
      obtain ⟨ad132, e132, hx132_0, hx132_1, hx132_2, hx132_3⟩ := at_T39 HR0_1.out x10_1 p132 q132
      cases e132
      replace hx132_0 := (HB.out.cell (World.block_lt_of_cell? w _ hx132_0)).trans hx132_0
      replace hx132_1 := (HB.out.cell (World.block_lt_of_cell? w _ hx132_1)).trans hx132_1
      replace hx132_2 := (HB.out.cell (World.block_lt_of_cell? w _ hx132_2)).trans hx132_2
      replace hx132_3 := (HB.out.cell (World.block_lt_of_cell? w _ hx132_3)).trans hx132_3
      replace p132 := eq_true p132
      replace q132 := eq_true q132
      go_wp2
      go_roundg k1
      case measure => have := HK1.out; omega
      case rel => exact ⟨(wrap64 (x10_1 + 1)), (x125000_1), (x126000_1), (x126001_1), (x126002_1), (x126003_1), (x132001_1), (u132001), zq5, H', ⟨zq8⟩, ⟨zq134⟩, ⟨zq121⟩, ⟨zq123⟩, ⟨zq125⟩, ⟨zq135⟩, ⟨zq127⟩⟩
     rw [if_neg c23] at H
     exact absurd H (by simp)
    rw [if_neg c22] at H
    have c22b0 := decide_eq_false c22
    clear c22
    simp only [Option.some.injEq, Prod.mk.injEq] at H
    obtain ⟨rfl, rfl, rfl, rfl, rfl, rfl, rfl⟩ := H
    have hnb66 := NB123_124.out
    have hnc66 := NB124_123.out
    have hnb67 := NB123_125.out
    have hnc67 := NB125_123.out
    have hnb68 := NB123_131.out
    have hnc68 := NB131_123.out
    obtain ⟨hcz69_0, hcz69_1, hfz69_0, hfz69_1⟩ := c2 (w := wr) BK123
    have hnb70 := NB131_124.out
    have hnc70 := NB124_131.out
    have hnb71 := NB131_125.out
    have hnc71 := NB125_131.out
    obtain ⟨hcz72_0, hcz72_1, hfz72_0, hfz72_1⟩ := c2 (w := wr) BK131
    have hnb73 := NB124_125.out
    have hnc73 := NB125_124.out
    obtain ⟨hcz74_0, hcz74_1, hfz74_0, hfz74_1⟩ := c2 (w := wr) BK124
    obtain ⟨Ao75, co75, eo75⟩ := Kd.R_slice HO_132001.out
    subst eo75
    obtain ⟨hcz76_0, hcz76_1, hcz76_2, hcz76_3, hfz76_0, hfz76_1, hfz76_2, hfz76_3⟩ := c4 (w := wr) BK125
    go_wp2
    refine bodyPost_ret (results_list (rs := [.cell 6 37, .cell 7 39, .tmp 8]) rfl (by simp) (.cell gb124 37 #[.int .i64 t127, .slice Ao75 x132001_1.length co75] (0, 0) _ rfl zq132 Try.underlying37 rfl (by kernel_rfl) (.cell gb125 39 #[.int .i64 0, .int .i64 0, .int .i64 0, .string (⟨#[]⟩ : ByteArray)] (0, 0) _ rfl (by (with_reducible repeat (first | refine blk_drewN ?_ _ | refine blk_drew ?_ | refine blk_alloc ?_ _)); refine blk_put (cs := #[.int .i64 0, .int .i64 0, .int .i64 0, .string x126003_1]) ?_ 3 _ rfl; (with_reducible repeat (first | refine blk_drewN ?_ _ | refine blk_drew ?_ | refine blk_alloc ?_ _)); refine blk_put (cs := #[.int .i64 0, .int .i64 0, .int .i64 x126002_1, .string x126003_1]) ?_ 2 _ rfl; (with_reducible repeat (first | refine blk_drewN ?_ _ | refine blk_drew ?_ | refine blk_alloc ?_ _)); refine blk_put (cs := #[.int .i64 0, .int .i64 x126001_1, .int .i64 x126002_1, .string x126003_1]) ?_ 1 _ rfl; (with_reducible repeat (first | refine blk_drewN ?_ _ | refine blk_drew ?_ | refine blk_alloc ?_ _)); refine blk_put (cs := #[.int .i64 x126000_1, .int .i64 x126001_1, .int .i64 x126002_1, .string x126003_1]) ?_ 0 _ rfl; (with_reducible repeat (first | refine blk_drewN ?_ _ | refine blk_drew ?_ | refine blk_alloc ?_ _)); refine blk_far ?_ NB125_124.out _; (with_reducible repeat (first | refine blk_drewN ?_ _ | refine blk_drew ?_ | refine blk_alloc ?_ _)); refine blk_far ?_ NB125_124.out _; (with_reducible repeat (first | refine blk_drewN ?_ _ | refine blk_drew ?_ | refine blk_alloc ?_ _)); exact BK125.out) Try.underlying39 rfl (by kernel_rfl) (.tmp .nil)))) rfl ?_
    exact ⟨_, zq3, by (with_reducible repeat (first | apply Kd.R_alloc | apply Kd.R_drewN | apply Kd.R_drew)); exact Kd.R_mono (Kd.R_far (p := ⟨gb125, 3, none⟩) (Kd.R_far (p := ⟨gb125, 2, none⟩) (Kd.R_far (p := ⟨gb125, 1, none⟩) (Kd.R_far (p := ⟨gb125, 0, none⟩) (Kd.R_far (p := ⟨gb124, 1, none⟩) (Kd.R_far (p := ⟨gb124, 0, none⟩) (Kd.R_mono (Kd.R_types HO_132001.out BK124.out (by decide)) (fun k_ hk => (⟨hk, hk.1⟩ : _ ∧ k_ ≠ gb125))) (fun _ hk => hk.1.2) (.int .i64 t127)) (fun _ hk => hk.1.2) (.slice Ao75 x132001_1.length co75)) (fun _ hk => hk.2) (.int .i64 0)) (fun _ hk => hk.2) (.int .i64 0)) (fun _ hk => hk.2) (.int .i64 0)) (fun _ hk => hk.2) (.string (⟨#[]⟩ : ByteArray))) (fun _ hk => trivial), zq127⟩
 replace c5 := Bool.eq_false_iff.mpr c5
 subst c5
 have H1 : (some (0, ([] : List (S39)), 0, 0, 0, (⟨#[]⟩ : ByteArray), false)) = some (r1, r2, r3, r4, r5, r6, r7) := by rw [if_neg (show ¬ (false = true) by decide)] at H; exact H
 clear H
 have H := H1
 clear H1
 simp only [Option.some.injEq, Prod.mk.injEq] at H
 obtain ⟨rfl, rfl, rfl, rfl, rfl, rfl, rfl⟩ := H
 go_enter Try.func18, Try.ntmps18
 go_wp2_with (first | ((with_reducible refine gate_dst (N := 3) rfl ?_); refine box_event ?hg (N := 3) ?hd (cs := #[.int .i64 a0_0, .slice A0_1 l0_1.length c0_1]) (t := 37) ?hr ?_; (case hd => rfl); (case hg => rfl); (case hr => exact zq1); intro gb123 hg w77 hbox hb; have BK123 := Aside0.mk hbox; have GW123 := Aside0.mk (zq205 : w.heap.size ≤ gb123); have GE123 := Aside0.mk (zq205 : w.heap.size ≤ gb123); replace HB := sB zq2 hb; clear hb hbox hg) | ((with_reducible refine gate_dst (N := 6) rfl ?_); refine box_event ?hg (N := 6) ?hd (cs := #[.int .i64 0, .slice none 0 0]) (t := 37) ?hr ?_; (case hd => rfl); (case hg => rfl); (case hr => exact zq1); intro gb124 hg w78 hbox hb; have BK124 := Aside0.mk hbox; have GW124 := Aside0.mk (zq224 : w.heap.size ≤ gb124); have GE124 := Aside0.mk (zq224 : w.heap.size ≤ gb124); replace HB := sB zq122 hb; have NB123_124 := Aside0.mk (zq225 : gb123 ≠ gb124); have NB124_123 := Aside0.mk (zq226 : gb124 ≠ gb123); replace BK123 := bF BK123 zq121 hb; clear hb hbox hg) | ((with_reducible refine gate_dst (N := 7) rfl ?_); refine box_event ?hg (N := 7) ?hd (cs := #[.int .i64 0, .int .i64 0, .int .i64 0, .string (⟨#[]⟩ : ByteArray)]) (t := 39) ?hr ?_; (case hd => rfl); (case hg => rfl); (case hr => exact zq1); intro gb125 hg w79 hbox hb; have BK125 := Aside0.mk hbox; have GW125 := Aside0.mk (zq227 : w.heap.size ≤ gb125); have GE125 := Aside0.mk (zq227 : w.heap.size ≤ gb125); replace HB := sB zq124 hb; have NB123_125 := Aside0.mk (zq225 : gb123 ≠ gb125); have NB125_123 := Aside0.mk (zq226 : gb125 ≠ gb123); replace BK123 := bF BK123 zq121 hb; have NB124_125 := Aside0.mk (zq228 : gb124 ≠ gb125); have NB125_124 := Aside0.mk (zq229 : gb125 ≠ gb124); replace BK124 := bF BK124 zq123 hb; clear hb hbox hg; have hnb80 := NB123_124.out; have hnc80 := NB124_123.out; have hnb81 := NB123_125.out; have hnc81 := NB125_123.out; obtain ⟨hcz82_0, hcz82_1, hfz82_0, hfz82_1⟩ := c2 (w := w79) BK123) | ((with_reducible refine gC 38 rfl ?_); refine gL 12 Try.func38 #[.agg #[.int .i64 a0_0, .slice A0_1 l0_1.length c0_1]] ?_; (with_reducible refine (spec_NetOk.calls k a0_0 _ _ l0_1 false _ ?_ ?_ A4.out).mono ?_); exact zq9; exact zq10; rintro e w83 ⟨rfl, hb⟩; refine ⟨_, rfl, ?_⟩; replace BK123 := bF BK123 zq121 hb; replace BK124 := bF BK124 zq123 hb; replace BK125 := bF BK125 zq125 hb; replace HB := sB zq126 hb; clear hb; have hnb84 := NB124_125.out; have hnc84 := NB125_124.out; obtain ⟨hcz85_0, hcz85_1, hfz85_0, hfz85_1⟩ := c2 (w := w83) BK124; obtain ⟨hcz86_0, hcz86_1, hcz86_2, hcz86_3, hfz86_0, hfz86_1, hfz86_2, hfz86_3⟩ := c4 (w := w83) BK125))
 refine bodyPost_ret (results_list (rs := [.cell 6 37, .cell 7 39, .tmp 8]) rfl (by simp) (.cell gb124 37 #[.int .i64 0, .slice none 0 0] (0, 0) _ rfl (by (with_reducible repeat (first | refine blk_drewN ?_ _ | refine blk_drew ?_ | refine blk_alloc ?_ _)); refine blk_far ?_ NB124_125.out _; (with_reducible repeat (first | refine blk_drewN ?_ _ | refine blk_drew ?_ | refine blk_alloc ?_ _)); refine blk_far ?_ NB124_125.out _; (with_reducible repeat (first | refine blk_drewN ?_ _ | refine blk_drew ?_ | refine blk_alloc ?_ _)); refine blk_far ?_ NB124_125.out _; (with_reducible repeat (first | refine blk_drewN ?_ _ | refine blk_drew ?_ | refine blk_alloc ?_ _)); refine blk_far ?_ NB124_125.out _; (with_reducible repeat (first | refine blk_drewN ?_ _ | refine blk_drew ?_ | refine blk_alloc ?_ _)); refine blk_put (cs := #[.int .i64 0, .slice none 0 0]) ?_ 1 _ rfl; (with_reducible repeat (first | refine blk_drewN ?_ _ | refine blk_drew ?_ | refine blk_alloc ?_ _)); refine blk_put (cs := #[.int .i64 0, .slice none 0 0]) ?_ 0 _ rfl; (with_reducible repeat (first | refine blk_drewN ?_ _ | refine blk_drew ?_ | refine blk_alloc ?_ _)); exact BK124.out) Try.underlying37 rfl (by kernel_rfl) (.cell gb125 39 #[.int .i64 0, .int .i64 0, .int .i64 0, .string (⟨#[]⟩ : ByteArray)] (0, 0) _ rfl (by (with_reducible repeat (first | refine blk_drewN ?_ _ | refine blk_drew ?_ | refine blk_alloc ?_ _)); refine blk_put (cs := #[.int .i64 0, .int .i64 0, .int .i64 0, .string (⟨#[]⟩ : ByteArray)]) ?_ 3 _ rfl; (with_reducible repeat (first | refine blk_drewN ?_ _ | refine blk_drew ?_ | refine blk_alloc ?_ _)); refine blk_put (cs := #[.int .i64 0, .int .i64 0, .int .i64 0, .string (⟨#[]⟩ : ByteArray)]) ?_ 2 _ rfl; (with_reducible repeat (first | refine blk_drewN ?_ _ | refine blk_drew ?_ | refine blk_alloc ?_ _)); refine blk_put (cs := #[.int .i64 0, .int .i64 0, .int .i64 0, .string (⟨#[]⟩ : ByteArray)]) ?_ 1 _ rfl; (with_reducible repeat (first | refine blk_drewN ?_ _ | refine blk_drew ?_ | refine blk_alloc ?_ _)); refine blk_put (cs := #[.int .i64 0, .int .i64 0, .int .i64 0, .string (⟨#[]⟩ : ByteArray)]) ?_ 0 _ rfl; (with_reducible repeat (first | refine blk_drewN ?_ _ | refine blk_drew ?_ | refine blk_alloc ?_ _)); refine blk_far ?_ NB125_124.out _; (with_reducible repeat (first | refine blk_drewN ?_ _ | refine blk_drew ?_ | refine blk_alloc ?_ _)); refine blk_far ?_ NB125_124.out _; (with_reducible repeat (first | refine blk_drewN ?_ _ | refine blk_drew ?_ | refine blk_alloc ?_ _)); exact BK125.out) Try.underlying39 rfl (by kernel_rfl) (.tmp .nil)))) rfl ?_
 exact ⟨_, zq3, zq140, zq126⟩

end Go.Proofs.Ytklaigmpceacaaa.QFnExactTake
