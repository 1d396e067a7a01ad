/- Written by wip/myprint.py of this repo (the kit's print, with additions of this session). -/
import Derived.Test.YtklaigmpceacaaaQFnPostedx0
import Derived.Test.YtklaigmpceacaaaQFnPostedx2
set_option maxRecDepth 100000
namespace Go.Proofs.Ytklaigmpceacaaa.QFnPosted
open Go.RowKit Go.Proofs.YtklaigmpceacaaaW.PrintWords Go.Proofs.YtklaigmpceacaaaW.PrintLast Go.Proofs.YtklaigmpceacaaaW.PrintMore
attribute [local go_sem] max2_int min2_int max_two min_two max_three min_three max_four min_four   -- for this text's walks alone
set_option linter.unusedVariables false
set_option linter.unusedSimpArgs false

/-! ### laws_hasInt: function 29 -/
def laws_hasInt.l0 : Nat → List Int → Int → Int → Option (Bool)
 | 0, _, _, _ => none
 | k + 1, x0, x1, x5 => if x5 < (x0.length : Int) then (if 0 ≤ x5 then (if (rd x0 x5) = x1 then (some true) else (laws_hasInt.l0 k x0 x1 (wrap64 (x5 + 1)))) else (none)) else (some false)
def laws_hasInt.f (k : Nat) (l0 : List Int) (a1 : Int) : Option (Bool) := laws_hasInt.l0 k l0 a1 0
theorem laws_hasInt.mono_l : ∀ k, (∀ y0 y1 y2, LeO (laws_hasInt.l0 k y0 y1 y2) (laws_hasInt.l0 (k + 1) y0 y1 y2))
 | 0 => fun _ _ _ r h => by simp [laws_hasInt.l0] at h
 | k + 1 => by
  have ih0 := laws_hasInt.mono_l k
  ·
   intro y0 y1 y2; unfold laws_hasInt.l0
   repeat' first
   | (with_reducible exact ih0 _ _ _)
   | (with_reducible exact LeO.refl _)
   | (with_reducible exact LeO.none _)
   | (with_reducible refine LeO.ite ?_ ?_)
   | (with_reducible refine LeO.bind ?_ (fun _ => ?_))
   | exact LeO.none _
   | refine LeO.ite ?_ ?_
   | refine LeO.bind ?_ (fun _ => ?_)
theorem laws_hasInt.mono : ∀ a0 a1 k, LeO (laws_hasInt.f k a0 a1) (laws_hasInt.f (k + 1) a0 a1) := by
 intro a0 a1 k; have ih0 := laws_hasInt.mono_l k; unfold laws_hasInt.f
 repeat' first
   | (with_reducible exact ih0 _ _ _)
   | (with_reducible exact LeO.refl _)
   | (with_reducible exact LeO.none _)
   | (with_reducible refine LeO.ite ?_ ?_)
   | (with_reducible refine LeO.bind ?_ (fun _ => ?_))
   | exact LeO.none _
   | refine LeO.ite ?_ ?_
   | refine LeO.bind ?_ (fun _ => ?_)
set_option maxHeartbeats 8000000 in
set_option maxRecDepth 100000 in
theorem laws_hasInt.calls (k : Nat) (A0 : Option Addr) (c0 : Nat) (l0 : List Int) (a1 : Int) (r : Bool) (w : World) (hr0 : Kd.C (Kd.int .i64) w A0 l0.length l0) (hc0 : l0.length ≤ c0) (h : laws_hasInt.f k l0 a1 = some r) :
  Calls Try.prog 29 #[.slice A0 l0.length c0, .int .i64 a1] w fun e w' => e = .returned (.bool r) ∧ Drawn0 w w' := by
 have HR0 := aM hr0; have HC0 := aM hc0; clear hr0 hc0; have H : (laws_hasInt.l0 k l0 a1 0) = some r := h; clear h; have H' := aM H; clear H; go_enter Try.func29, Try.ntmps29; go_wp2
 go_loopg [5] k (fun kq v5 w' => ∃ (x5_1 : Int), v5 = .int .i64 x5_1 ∧ Aside0 (laws_hasInt.l0 kq l0 a1 x5_1 = some r) ∧ Aside0 (kq ≤ k) ∧ Drawn0 w w')
 case atStart => exact ⟨(0), zq10, H', ⟨Nat.le_refl _⟩, zq11⟩
 case round =>
  clear H'; (try clear c2); (try clear p2); obtain ⟨x5_1, rfl, HA, HK1, ⟨m1, rfl⟩⟩ := hrel
  cases gk with
  | zero => exact absurd HA.out (by simp [laws_hasInt.l0])
  | succ k1 =>
   have H := HA.out; clear HA; simp only [laws_hasInt.l0] at H; by_cases c3 : x5_1 < (l0.length : Int)
   ·
    rw [if_pos c3] at H; have c3b0 := decide_eq_true c3; clear c3; by_cases c4 : 0 ≤ x5_1
    ·
     rw [if_pos c4] at H; have c4b0 := decide_eq_true c4; clear c4; by_cases c5 : (rd l0 x5_1) = a1
     ·
      rw [if_pos c5] at H; have c5b0 : ((rd l0 x5_1) == a1) = true := beq_iff_eq.mpr c5; have c5b1 : ((rd l0 x5_1) != a1) = false := bne_eq_false_iff_eq.mpr c5; clear c5; obtain rfl := Option.some.inj H; have p304 : 0 ≤ (x5_1 : Int) := of_decide_eq_true zq26; have q304 : x5_1 < (l0.length : Int) := of_decide_eq_true zq26; obtain ⟨ad304, e304, hx304_0⟩ := Kd.at_int HR0.out x5_1 p304 q304; cases e304; replace p304 := eq_true p304; replace q304 := eq_true q304; go_wp2; go_ret; exact ⟨zq10, zq11⟩
     rw [if_neg c5] at H; have c5b0 : ((rd l0 x5_1) == a1) = false := beq_eq_false_iff_ne.mpr c5; have c5b1 : ((rd l0 x5_1) != a1) = true := bne_iff_ne.mpr c5; have H' := aM H; clear H; have p304 : 0 ≤ (x5_1 : Int) := of_decide_eq_true zq26; have q304 : x5_1 < (l0.length : Int) := of_decide_eq_true zq26; obtain ⟨ad304, e304, hx304_0⟩ := Kd.at_int HR0.out x5_1 p304 q304; cases e304; replace p304 := eq_true p304; replace q304 := eq_true q304; go_wp2
     go_roundg k1
     case measure => have := HK1.out; omega
     case rel => exact ⟨(wrap64 (x5_1 + 1)), zq10, H', ⟨zq44⟩, zq11⟩
    rw [if_neg c4] at H; exact absurd H (by simp)
   rw [if_neg c3] at H; have c3b0 := decide_eq_false c3; clear c3; obtain rfl := Option.some.inj H; go_wp2; go_ret; exact ⟨zq10, zq11⟩

/-! ### impl_Between: function 30 -/
def impl_Between.l0 : Nat → Int → Int → List Int → List (S39) → Int → Int → Option (List Int)
 | 0, _, _, _, _, _, _ => none
 | k + 1, x1, x2, x7, x15, x16, x17 => if x17 < x16 then (if 0 ≤ x17 then (if x17 < (x15.length : Int) then (if ((rd_T39 x15 x17).f1) = x1 then (if ((rd_T39 x15 x17).f2) = x2 then (if x7.length < 17592186044416 then (impl_Between.l0 k x1 x2 (x7 ++ [(rd_T39 x15 x17).f0]) x15 x16 (wrap64 (x17 + 1))) else (none)) else (impl_Between.l0 k x1 x2 x7 x15 x16 (wrap64 (x17 + 1)))) else (impl_Between.l0 k x1 x2 x7 x15 x16 (wrap64 (x17 + 1)))) else (none)) else (none)) else (some x7)
def impl_Between.f (k : Nat) (a0_0 : Int) (l0_1 : List (S39)) (a1 : Int) (a2 : Int) : Option (List Int) := (impl_isNet.f k a0_0 l0_1).bind fun t306 => (if t306 = true then (impl_Between.l0 k a1 a2 (([] : List Int)) l0_1 (l0_1.length : Int) 0) else (some ([] : List Int)))
theorem impl_Between.mono_l : ∀ k, (∀ y0 y1 y2 y3 y4 y5, LeO (impl_Between.l0 k y0 y1 y2 y3 y4 y5) (impl_Between.l0 (k + 1) y0 y1 y2 y3 y4 y5))
 | 0 => fun _ _ _ _ _ _ r h => by simp [impl_Between.l0] at h
 | k + 1 => by
  have ih0 := impl_Between.mono_l k
  ·
   intro y0 y1 y2 y3 y4 y5; unfold impl_Between.l0
   repeat' first
   | (with_reducible exact ih0 _ _ _ _ _ _)
   | (with_reducible exact impl_isNet.mono _ _ _)
   | (with_reducible exact LeO.refl _)
   | (with_reducible exact LeO.none _)
   | (with_reducible refine LeO.ite ?_ ?_)
   | (with_reducible refine LeO.bind ?_ (fun _ => ?_))
   | exact LeO.none _
   | refine LeO.ite ?_ ?_
   | refine LeO.bind ?_ (fun _ => ?_)
theorem impl_Between.mono : ∀ a0 a1 a2 a3 k, LeO (impl_Between.f k a0 a1 a2 a3) (impl_Between.f (k + 1) a0 a1 a2 a3) := by
 intro a0 a1 a2 a3 k; have ih0 := impl_Between.mono_l k; unfold impl_Between.f
 repeat' first
   | (with_reducible exact ih0 _ _ _ _ _ _)
   | (with_reducible exact impl_isNet.mono _ _ _)
   | (with_reducible exact LeO.refl _)
   | (with_reducible exact LeO.none _)
   | (with_reducible refine LeO.ite ?_ ?_)
   | (with_reducible refine LeO.bind ?_ (fun _ => ?_))
   | exact LeO.none _
   | refine LeO.ite ?_ ?_
   | refine LeO.bind ?_ (fun _ => ?_)
set_option maxHeartbeats 8000000 in
set_option maxRecDepth 100000 in
theorem impl_Between.calls (k : Nat) (a0_0 : Int) (A0_1 : Option Addr) (c0_1 : Nat) (l0_1 : List (S39)) (a1 : Int) (a2 : Int) (r : List Int) (w : World) (hr0_1 : Kd.C k39 w A0_1 l0_1.length l0_1) (hc0_1 : l0_1.length ≤ c0_1) (h : impl_Between.f k a0_0 l0_1 a1 a2 = some r) :
  Calls Try.prog 30 #[.agg #[.int .i64 a0_0, .slice A0_1 l0_1.length c0_1], .int .i64 a1, .int .i64 a2] w fun e w' => ∃ v0_ : Value, e = .returned (v0_) ∧ Kd.R (Kd.int .i64) 2 w' w.heap.size (fun _ => True) v0_ r ∧ Below w.heap.size w w' := by
 have hu37 := Try.underlying37; have hu39 := Try.underlying39; have HR0_1 := aM hr0_1; have HC0_1 := aM hc0_1; clear hr0_1 hc0_1; have HB := aM (Below.refl w.heap.size w); unfold impl_Between.f at h; have H := h; clear h; replace H := Option.bind_eq_some_iff.mp H; obtain ⟨t306, A40, H⟩ := H; (try dsimp only at H); have A4 := aM A40; clear A40; by_cases c5 : t306 = true
 ·
  subst c5; rw [if_pos rfl] at H; obtain ⟨y307, hy307⟩ : ∃ y_ : List Int, y_ = (([] : List Int)) := ⟨_, rfl⟩; have hy_ := hy307; replace H : (impl_Between.l0 k a1 a2 y307 l0_1 (l0_1.length : Int) 0) = some r := hyE; clear hy_; have Ny307 := aM hy307; clear hy307; have H' := aM H; clear H; go_enter Try.func30, Try.ntmps30
  go_wp2_with (first | ((with_reducible refine gD 3 rfl ?_); refine bE 3 #[.int .i64 a0_0, .slice A0_1 l0_1.length c0_1] 37 ?_; intro gb305 hg w6 hbox hb; have BK305 := aM hbox; have GW305 := aM (zq229 : w.heap.size ≤ gb305); have GE305 := aM (zq229 : w.heap.size ≤ gb305); replace HB := sB zq2 hb; clear hb hbox hg; obtain ⟨hcz7_0, hcz7_1, hfz7_0, hfz7_1⟩ := cells2_ (w := w6) BK305) | ((with_reducible refine gC 42 rfl ?_); refine gL 11 Try.func42 #[.agg #[.int .i64 a0_0, .slice A0_1 l0_1.length c0_1]] ?_; (with_reducible refine (impl_isNet.calls k a0_0 _ _ l0_1 true _ ?_ ?_ A4.out).mono ?_); exact zq7; exact zq31; rintro e w8 ⟨rfl, hb⟩; refine ⟨_, rfl, ?_⟩; replace BK305 := bG BK305 hb; replace HB := sB zq46 hb; clear hb) | ((with_reducible refine gD 13 rfl ?_); refine Kd.R_lit (Kd.int .i64) _ 2 ?hg (N := 13) ?hd (xs := ([] : List Int)) (inner := []) (ok := fun _ => True) (okp := fun _ => True) ?hr ?hp (fun _ hk => hk) trivial (Below.refl _ _) (Nat.le_refl _) (by simp) ?_; (case hd => rfl); (case hg => rfl); (case hr => exact zq1); (case hp => exact (Reps.none _ _)); intro v308 w9 ho10 hb hg_ hnew_; clear hg_ hnew_; (first | rw [← Ny307.out] at ho10 | (simp only [Int.reduceToNat] at ho10; rw [← Ny307.out] at ho10)); have HO309 := aM (Kd.R_lower ho10 (below_size zq46)); replace BK305 := bG BK305 hb; replace HB := sB zq46 hb; clear hb ho10; obtain ⟨hcz11_0, hcz11_1, hfz11_0, hfz11_1⟩ := cells2_ (w := w9) BK305))
  go_loopg [7, 17] k (fun kq v7 v17 w' => ∃ (x7_1 : List Int) (x17_1 : Int), v17 = .int .i64 x17_1 ∧ Aside0 (impl_Between.l0 kq a1 a2 x7_1 l0_1 (l0_1.length : Int) x17_1 = some r) ∧ Aside0 (kq ≤ k) ∧ Aside0 (Kd.R (Kd.int .i64) 2 w' w.heap.size (fun _ => True) v7 x7_1) ∧ Aside0 (w'.heap[gb305]? = some (.cells #[.int .i64 a0_0, (.slice A0_1 l0_1.length c0_1)] 37 (0, 0))) ∧ Aside0 (Below w.heap.size w w'))
  case atStart => exact ⟨(y307), (0), zq10, H', ⟨Nat.le_refl _⟩, ⟨by refine dR ?_; exact HO309.out⟩, ⟨zq45⟩, ⟨zq46⟩⟩
  case round =>
   clear H'; (try clear p2); (try clear c3); (try clear c4); (try clear c5); (try clear hcz11_0); (try clear hcz11_1); (try clear hcz7_0); (try clear hcz7_1); (try clear hfz11_0); (try clear hfz11_1); (try clear hfz7_0); (try clear hfz7_1); obtain ⟨x7_1, x17_1, rfl, HA, HK1, HO_7, BK305, HB⟩ := hrel
   cases gk with
   | zero => exact absurd HA.out (by simp [impl_Between.l0])
   | succ k1 =>
    have H := HA.out; clear HA; simp only [impl_Between.l0] at H; by_cases c12 : x17_1 < (l0_1.length : Int)
    ·
     rw [if_pos c12] at H; have c12b0 := decide_eq_true c12; clear c12; by_cases c13 : 0 ≤ x17_1
     ·
      rw [if_pos c13] at H; have c13b0 := decide_eq_true c13; clear c13; by_cases c14 : x17_1 < (l0_1.length : Int)
      ·
       rw [if_pos c14] at H; have c14b0 := decide_eq_true c14; clear c14; by_cases c15 : ((rd_T39 l0_1 x17_1).f1) = a1
       ·
        rw [if_pos c15] at H; have c15b0 : (((rd_T39 l0_1 x17_1).f1) == a1) = true := beq_iff_eq.mpr c15; have c15b1 : (((rd_T39 l0_1 x17_1).f1) != a1) = false := bne_eq_false_iff_eq.mpr c15; clear c15; by_cases c16 : ((rd_T39 l0_1 x17_1).f2) = a2
        ·
         rw [if_pos c16] at H; have c16b0 : (((rd_T39 l0_1 x17_1).f2) == a2) = true := beq_iff_eq.mpr c16; have c16b1 : (((rd_T39 l0_1 x17_1).f2) != a2) = false := bne_eq_false_iff_eq.mpr c16; clear c16; by_cases c17 : x7_1.length < 17592186044416
         ·
          rw [if_pos c17] at H; have LMc17 := aM c17; clear c17; obtain ⟨y312, hy312⟩ : ∃ y_ : List Int, y_ = (x7_1 ++ [(rd_T39 l0_1 x17_1).f0]) := ⟨_, rfl⟩; have hy_ := hy312; replace H : (impl_Between.l0 k1 a1 a2 y312 l0_1 (l0_1.length : Int) (wrap64 (x17_1 + 1))) = some r := hyE; clear hy_; have Ny312 := aM hy312; clear hy312; have H' := aM H; clear H; have p310 : 0 ≤ (x17_1 : Int) := of_decide_eq_true zq26; have q310 : x17_1 < (l0_1.length : Int) := of_decide_eq_true zq26; obtain ⟨ad310, e310, hx310_0, hx310_1, hx310_2, hx310_3⟩ := at_T39 HR0_1.out x17_1 p310 q310; cases e310; replace hx310_0 := hxB HB hx310_0; replace hx310_1 := hxB HB hx310_1; replace hx310_2 := hxB HB hx310_2; replace hx310_3 := hxB HB hx310_3; replace p310 := eq_true p310; replace q310 := eq_true q310
          go_wp2_with (first | ((with_reducible refine gD 9 rfl ?_); refine bE 9 #[.int .i64 0, .int .i64 0, .int .i64 0, .string (⟨#[]⟩ : ByteArray)] 39 ?_; intro gb311 hg w18 hbox hb; replace HO_7 := rG HO_7 hb; have BK311 := aM hbox; have GW311 := aM (zq239 : w.heap.size ≤ gb311); have GE311 := aM (zq239 : w.heap.size ≤ gb311); replace HB := sB zq46 hb; have NB305_311 := aM (zq240 : gb305 ≠ gb311); have NB311_305 := aM (zq241 : gb311 ≠ gb305); replace BK305 := bG BK305 hb; clear hb hbox hg; have hnb19 := NB311_305.out; have hnc19 := NB305_311.out; obtain ⟨hcz20_0, hcz20_1, hcz20_2, hcz20_3, hfz20_0, hfz20_1, hfz20_2, hfz20_3⟩ := cells4_ (w := w18) BK311) | ((with_reducible refine gate_builtin (b := .append) (xs := #[.tmp 31, .tmp 34]) rfl ?_); at_builtin; refine Kd.R_append (Kd.int .i64) (w0 := w) w.heap.size rfl (.tmp 31) (.tmp 34) 54 2 (.int .i64 0) 8 rfl Try.underlying54 info2 rfl (by decide) (by omega) u7 x7_1 ((rd_T39 l0_1 x17_1).f0) [.int .i64 ((rd_T39 l0_1 x17_1).f0)] (fun _ => True) (fun _ => False) rfl zq1 ?aP (fun _ hk => hk.elim) ?aF ?aO ?aB ?aS ?aL ?_; (case aP => exact rfl); (case aB => exact zq48); (case aF => exact zq8); (case aO => exact zq49); (case aS => exact (below_size zq48)); (case aL => have := LMc17.out; omega); intro v313 w21 ho hb hg hat; rw [← Ny312.out] at ho; have n0_ := aM (blk_grown (g := gb305) (o := .cells #[.int .i64 a0_0, .slice (some ad310) l0_1.length c0_1] 37 (0, 0)) zq50 hg (Kd.R_ne HO_7.out BK305.out (by decide))); have n1_ := aM (blk_grown (g := gb311) (o := .cells #[.int .i64 ((rd_T39 l0_1 x17_1).f0), .int .i64 ((rd_T39 l0_1 x17_1).f1), .int .i64 ((rd_T39 l0_1 x17_1).f2), .string ((rd_T39 l0_1 x17_1).f3)] 39 (0, 0)) (by refine dW ?_; refine blk_put (cs := #[.int .i64 ((rd_T39 l0_1 x17_1).f0), .int .i64 ((rd_T39 l0_1 x17_1).f1), .int .i64 ((rd_T39 l0_1 x17_1).f2), .string (⟨#[]⟩ : ByteArray)]) ?_ 3 _ rfl; refine dW ?_; refine blk_put (cs := #[.int .i64 ((rd_T39 l0_1 x17_1).f0), .int .i64 ((rd_T39 l0_1 x17_1).f1), .int .i64 0, .string (⟨#[]⟩ : ByteArray)]) ?_ 2 _ rfl; refine dW ?_; refine blk_put (cs := #[.int .i64 ((rd_T39 l0_1 x17_1).f0), .int .i64 0, .int .i64 0, .string (⟨#[]⟩ : ByteArray)]) ?_ 1 _ rfl; refine dW ?_; refine blk_put (cs := #[.int .i64 0, .int .i64 0, .int .i64 0, .string (⟨#[]⟩ : ByteArray)]) ?_ 0 _ rfl; refine dW ?_; exact BK311.out) hg (Kd.R_ne HO_7.out BK311.out (by decide))); have n2_ := aM (hb); have n3_ := aM (ho); clear BK305; clear BK311; clear HB; clear HO_7; have BK305 := n0_; have BK311 := n1_; have HB := n2_; have HO314 := n3_; clear n0_ n1_ n2_ n3_; clear ho hb hg hat))
          go_roundg k1
          case measure => have := HK1.out; omega
          case rel => exact ⟨(y312), (wrap64 (x17_1 + 1)), zq10, H', ⟨zq44⟩, ⟨by refine dR ?_; exact HO314.out⟩, ⟨zq45⟩, ⟨zq48⟩⟩
         rw [if_neg c17] at H; exact absurd H (by simp)
        rw [if_neg c16] at H; have c16b0 : (((rd_T39 l0_1 x17_1).f2) == a2) = false := beq_eq_false_iff_ne.mpr c16; have c16b1 : (((rd_T39 l0_1 x17_1).f2) != a2) = true := bne_iff_ne.mpr c16; have H' := aM H; clear H; have p310 : 0 ≤ (x17_1 : Int) := of_decide_eq_true zq26; have q310 : x17_1 < (l0_1.length : Int) := of_decide_eq_true zq26; obtain ⟨ad310, e310, hx310_0, hx310_1, hx310_2, hx310_3⟩ := at_T39 HR0_1.out x17_1 p310 q310; cases e310; replace hx310_0 := hxB HB hx310_0; replace hx310_1 := hxB HB hx310_1; replace hx310_2 := hxB HB hx310_2; replace hx310_3 := hxB HB hx310_3; replace p310 := eq_true p310; replace q310 := eq_true q310
        go_wp2_with (first | ((with_reducible refine gD 9 rfl ?_); refine bE 9 #[.int .i64 0, .int .i64 0, .int .i64 0, .string (⟨#[]⟩ : ByteArray)] 39 ?_; intro gb311 hg w22 hbox hb; replace HO_7 := rG HO_7 hb; have BK311 := aM hbox; have GW311 := aM (zq239 : w.heap.size ≤ gb311); have GE311 := aM (zq239 : w.heap.size ≤ gb311); replace HB := sB zq46 hb; have NB305_311 := aM (zq240 : gb305 ≠ gb311); have NB311_305 := aM (zq241 : gb311 ≠ gb305); replace BK305 := bG BK305 hb; clear hb hbox hg; have hnb23 := NB311_305.out; have hnc23 := NB305_311.out; obtain ⟨hcz24_0, hcz24_1, hcz24_2, hcz24_3, hfz24_0, hfz24_1, hfz24_2, hfz24_3⟩ := cells4_ (w := w22) BK311))
        go_roundg k1
        case measure => have := HK1.out; omega
        case rel => exact ⟨(x7_1), (wrap64 (x17_1 + 1)), zq10, H', ⟨zq44⟩, ⟨zq49⟩, ⟨zq50⟩, ⟨zq48⟩⟩
       rw [if_neg c15] at H; have c15b0 : (((rd_T39 l0_1 x17_1).f1) == a1) = false := beq_eq_false_iff_ne.mpr c15; have c15b1 : (((rd_T39 l0_1 x17_1).f1) != a1) = true := bne_iff_ne.mpr c15; have H' := aM H; clear H; have p310 : 0 ≤ (x17_1 : Int) := of_decide_eq_true zq26; have q310 : x17_1 < (l0_1.length : Int) := of_decide_eq_true zq26; obtain ⟨ad310, e310, hx310_0, hx310_1, hx310_2, hx310_3⟩ := at_T39 HR0_1.out x17_1 p310 q310; cases e310; replace hx310_0 := hxB HB hx310_0; replace hx310_1 := hxB HB hx310_1; replace hx310_2 := hxB HB hx310_2; replace hx310_3 := hxB HB hx310_3; replace p310 := eq_true p310; replace q310 := eq_true q310
       go_wp2_with (first | ((with_reducible refine gD 9 rfl ?_); refine bE 9 #[.int .i64 0, .int .i64 0, .int .i64 0, .string (⟨#[]⟩ : ByteArray)] 39 ?_; intro gb311 hg w25 hbox hb; replace HO_7 := rG HO_7 hb; have BK311 := aM hbox; have GW311 := aM (zq239 : w.heap.size ≤ gb311); have GE311 := aM (zq239 : w.heap.size ≤ gb311); replace HB := sB zq46 hb; have NB305_311 := aM (zq240 : gb305 ≠ gb311); have NB311_305 := aM (zq241 : gb311 ≠ gb305); replace BK305 := bG BK305 hb; clear hb hbox hg; have hnb26 := NB311_305.out; have hnc26 := NB305_311.out; obtain ⟨hcz27_0, hcz27_1, hcz27_2, hcz27_3, hfz27_0, hfz27_1, hfz27_2, hfz27_3⟩ := cells4_ (w := w25) BK311))
       go_roundg k1
       case measure => have := HK1.out; omega
       case rel => exact ⟨(x7_1), (wrap64 (x17_1 + 1)), zq10, H', ⟨zq44⟩, ⟨zq49⟩, ⟨zq50⟩, ⟨zq48⟩⟩
      rw [if_neg c14] at H; exact absurd H (by simp)
     rw [if_neg c13] at H; exact absurd H (by simp)
    rw [if_neg c12] at H; have c12b0 := decide_eq_false c12; clear c12; obtain rfl := Option.some.inj H; go_wp2; go_ret; exact ⟨_, zq9, zq47, zq46⟩
 replace c5 := Bool.eq_false_iff.mpr c5; subst c5; rw [if_neg (show ¬ (false = true) by decide)] at H; obtain rfl := Option.some.inj H; go_enter Try.func30, Try.ntmps30
 go_wp2_with (first | ((with_reducible refine gD 3 rfl ?_); refine bE 3 #[.int .i64 a0_0, .slice A0_1 l0_1.length c0_1] 37 ?_; intro gb305 hg w28 hbox hb; have BK305 := aM hbox; have GW305 := aM (zq229 : w.heap.size ≤ gb305); have GE305 := aM (zq229 : w.heap.size ≤ gb305); replace HB := sB zq2 hb; clear hb hbox hg; obtain ⟨hcz29_0, hcz29_1, hfz29_0, hfz29_1⟩ := cells2_ (w := w28) BK305) | ((with_reducible refine gC 42 rfl ?_); refine gL 11 Try.func42 #[.agg #[.int .i64 a0_0, .slice A0_1 l0_1.length c0_1]] ?_; (with_reducible refine (impl_isNet.calls k a0_0 _ _ l0_1 false _ ?_ ?_ A4.out).mono ?_); exact zq7; exact zq31; rintro e w30 ⟨rfl, hb⟩; refine ⟨_, rfl, ?_⟩; replace BK305 := bG BK305 hb; replace HB := sB zq46 hb; clear hb))
 go_ret; exact ⟨_, zq9, zq43, zq46⟩

/-! ### impl_NetOk: function 31 -/
def impl_NetOk.f (k : Nat) (a0_0 : Int) (l0_1 : List (S39)) : Option (Bool) := (impl_isNet.f k a0_0 l0_1).bind fun t316 => (some t316)
theorem impl_NetOk.mono : ∀ a0 a1 k, LeO (impl_NetOk.f k a0 a1) (impl_NetOk.f (k + 1) a0 a1) := by
 intro a0 a1 k; unfold impl_NetOk.f
 repeat' first
   | (with_reducible exact impl_isNet.mono _ _ _)
   | (with_reducible exact LeO.refl _)
   | (with_reducible exact LeO.none _)
   | (with_reducible refine LeO.ite ?_ ?_)
   | (with_reducible refine LeO.bind ?_ (fun _ => ?_))
   | exact LeO.none _
   | refine LeO.ite ?_ ?_
   | refine LeO.bind ?_ (fun _ => ?_)
set_option maxHeartbeats 8000000 in
set_option maxRecDepth 100000 in
theorem impl_NetOk.calls (k : Nat) (a0_0 : Int) (A0_1 : Option Addr) (c0_1 : Nat) (l0_1 : List (S39)) (r : Bool) (w : World) (hr0_1 : Kd.C k39 w A0_1 l0_1.length l0_1) (hc0_1 : l0_1.length ≤ c0_1) (h : impl_NetOk.f k a0_0 l0_1 = some r) :
  Calls Try.prog 31 #[.agg #[.int .i64 a0_0, .slice A0_1 l0_1.length c0_1]] w fun e w' => e = .returned (.bool r) ∧ Below w.heap.size w w' := by
 have hu37 := Try.underlying37; have HR0_1 := aM hr0_1; have HC0_1 := aM hc0_1; clear hr0_1 hc0_1; have HB := aM (Below.refl w.heap.size w); unfold impl_NetOk.f at h; have H := h; clear h; replace H := Option.bind_eq_some_iff.mp H; obtain ⟨t316, A20, H⟩ := H; replace H : (some t316) = some r := H; have A2 := aM A20; clear A20; obtain rfl := Option.some.inj H; go_enter Try.func31, Try.ntmps31
 go_wp2_with (first | ((with_reducible refine gD 1 rfl ?_); refine bE 1 #[.int .i64 a0_0, .slice A0_1 l0_1.length c0_1] 37 ?_; intro gb315 hg w3 hbox hb; have BK315 := aM hbox; have GW315 := aM (zq229 : w.heap.size ≤ gb315); have GE315 := aM (zq229 : w.heap.size ≤ gb315); replace HB := sB zq2 hb; clear hb hbox hg; obtain ⟨hcz4_0, hcz4_1, hfz4_0, hfz4_1⟩ := cells2_ (w := w3) BK315) | ((with_reducible refine gC 42 rfl ?_); refine gL 4 Try.func42 #[.agg #[.int .i64 a0_0, .slice A0_1 l0_1.length c0_1]] ?_; (with_reducible refine (impl_isNet.calls k a0_0 _ _ l0_1 t316 _ ?_ ?_ A2.out).mono ?_); exact zq7; exact zq31; rintro e w5 ⟨rfl, hb⟩; refine ⟨_, rfl, ?_⟩; replace BK315 := bF BK315 (by refine dW ?_; exact BK315.out) hb; replace HB := sB zq51 hb; clear hb))
 go_ret; exact ⟨zq9, zq51⟩

end Go.Proofs.Ytklaigmpceacaaa.QFnPosted
