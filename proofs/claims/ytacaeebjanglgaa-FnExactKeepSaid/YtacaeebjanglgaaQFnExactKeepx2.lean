/- Written by wip/myprint.py of this repo (the kit's print, with additions of this session). -/
import Derived.Test.YtacaeebjanglgaaQFnExactKeepx1
set_option maxRecDepth 100000
namespace Go.Proofs.Ytacaeebjanglgaa.QFnExactKeep
open Go.RowKit Go.Proofs.YtacaeebjanglgaaW.PrintWords Go.Proofs.YtacaeebjanglgaaW.PrintLast Go.Proofs.YtacaeebjanglgaaW.PrintMore
attribute [local go_sem] max2_int min2_int max_two min_two max_three min_three max_four min_four
set_option linter.unusedVariables false
set_option linter.unusedSimpArgs false
def laws_eqBlobS.l0 : Nat → List (S66) → List (S66) → Int → Option (Bool)
 | 0, _, _, _ => none
 | k + 1, x0, x1, x5 => if x5 < (x0.length : Int) then (if 0 ≤ x5 then (if x5 < (x1.length : Int) then ((laws_eqBlob.f ((rd_T66 x0 x5).f0) ((rd_T66 x0 x5).f1) ((rd_T66 x1 x5).f0) ((rd_T66 x1 x5).f1)).bind fun t143 => (if t143 = true then (laws_eqBlobS.l0 k x0 x1 (wrap64 (x5 + 1))) else (some false))) else (none)) else (none)) else (some true)
def laws_eqBlobS.f (k : Nat) (l0 : List (S66)) (l1 : List (S66)) : Option (Bool) := if (l0.length : Int) = (l1.length : Int) then (laws_eqBlobS.l0 k l0 l1 0) else (some false)
theorem laws_eqBlobS.mono_l : ∀ k, (∀ y0 y1 y2, LeO (laws_eqBlobS.l0 k y0 y1 y2) (laws_eqBlobS.l0 (k + 1) y0 y1 y2))
 | 0 => fun _ _ _ r h => by simp [laws_eqBlobS.l0] at h
 | k + 1 => by
  have ih0 := laws_eqBlobS.mono_l k
  ·
   intro y0 y1 y2; unfold laws_eqBlobS.l0
   repeat' first
   | (with_reducible apply ih0)
   | (with_reducible exact LeO.refl _)
   | (with_reducible exact LeO.none _)
   | (with_reducible refine LeO.ite ?_ ?_)
   | (with_reducible refine LeO.bind ?_ (fun _ => ?_))
   | exact LeO.none _
   | refine LeO.ite ?_ ?_
   | refine LeO.bind ?_ (fun _ => ?_)
theorem laws_eqBlobS.mono : ∀ a0 a1 k, LeO (laws_eqBlobS.f k a0 a1) (laws_eqBlobS.f (k + 1) a0 a1) := by
 intro a0 a1 k; have ih0 := laws_eqBlobS.mono_l k; unfold laws_eqBlobS.f
 repeat' first
   | (with_reducible apply ih0)
   | (with_reducible exact LeO.refl _)
   | (with_reducible exact LeO.none _)
   | (with_reducible refine LeO.ite ?_ ?_)
   | (with_reducible refine LeO.bind ?_ (fun _ => ?_))
   | exact LeO.none _
   | refine LeO.ite ?_ ?_
   | refine LeO.bind ?_ (fun _ => ?_)
def laws_eqBlobS.T6 : Bool × List (List Nat × List Nat) := (true, [([], []), ([], []), ([0, 1], [0, 1]), ([2], [2]), ([], []), ([], []), ([4, 5], [4, 5]), ([6], [6]), ([3, 7], [3, 7]), ([8], [8])])
def laws_eqBlobS.B6 : List Nat := [0, 0, 3, 7, 0, 0, 48, 112, 255, 511]
theorem laws_eqBlobS.tab6 : rtab .any (opsOf Try.f56 6) = laws_eqBlobS.T6 := by kernel_rfl
theorem laws_eqBlobS.bits6 : waitsOk laws_eqBlobS.T6.2 laws_eqBlobS.B6 = true := by kernel_rfl
set_option maxHeartbeats 8000000 in
set_option maxRecDepth 100000 in
theorem laws_eqBlobS.calls (k : Nat) (A0 : Option Addr) (c0 : Nat) (l0 : List (S66)) (A1 : Option Addr) (c1 : Nat) (l1 : List (S66)) (r : Bool) (w : World) (hr0 : Kd.C k66 w A0 l0.length l0) (hc0 : l0.length ≤ c0) (hr1 : Kd.C k66 w A1 l1.length l1) (hc1 : l1.length ≤ c1) (h : laws_eqBlobS.f k l0 l1 = some r) :
  Calls Try.prog 56 #[.slice A0 l0.length c0, .slice A1 l1.length c1] w fun e w' => e = .returned (.bool r) ∧ Below w.heap.size w w' := by
 have hu66 := Try.underlying66; have HR0 := aM hr0; have HC0 := aM hc0; clear hr0 hc0; have HR1 := aM hr1; have HC1 := aM hc1; clear hr1 hc1; have HB := aM (Below.refl w.heap.size w); unfold laws_eqBlobS.f at h; have H := h; clear h; by_cases c3 : (l0.length : Int) = (l1.length : Int)
 ·
  rw [if_pos c3] at H; have c3b0 : ((l0.length : Int) == (l1.length : Int)) = true := beq_iff_eq.mpr c3; have c3b1 : ((l0.length : Int) != (l1.length : Int)) = false := bne_eq_false_iff_eq.mpr c3; have c3b2 : (l0.length == l1.length) = true := by first | simpa using c3 | (simp at c3 ⊢; omega)
  clear c3; have H' := aM H; clear H; go_enter Try.func56, Try.ntmps56; go_wp2
  go_loopg [5] k (fun kq v5 w' => ∃ (x5_1 : Int), v5 = .int .i64 x5_1 ∧ Aside0 (laws_eqBlobS.l0 kq l0 l1 x5_1 = some r) ∧ Aside0 (kq ≤ k) ∧ Aside0 (Below w.heap.size w w'))
  case atStart => exact ⟨(0), zq6, H', ⟨Nat.le_refl _⟩, ⟨zq3⟩⟩
  case round =>
   clear H'; (try clear c1); (try clear p2); (try clear c3); (try clear c3b0); (try clear c3b1); (try clear c3b2); obtain ⟨x5_1, rfl, HA, HK1, HB⟩ := hrel
   cases gk with
   | zero => exact absurd HA.out (by simp [laws_eqBlobS.l0])
   | succ k1 =>
    have H := HA.out; clear HA; simp only [laws_eqBlobS.l0] at H; by_cases c4 : x5_1 < (l0.length : Int)
    ·
     rw [if_pos c4] at H; have c4b0 := decide_eq_true c4; clear c4; by_cases c5 : 0 ≤ x5_1
     ·
      rw [if_pos c5] at H; have c5b0 := decide_eq_true c5; clear c5; by_cases c6 : x5_1 < (l1.length : Int)
      ·
       rw [if_pos c6] at H; have c6b0 := decide_eq_true c6; clear c6; replace H := Option.bind_eq_some_iff.mp H; obtain ⟨t143, A70, H⟩ := H; (try dsimp only at H); have A7 := aM A70; clear A70; by_cases c8 : t143 = true
       ·
        subst c8; rw [if_pos rfl] at H; have H' := aM H; clear H
        try go_wp2
        replace HB := aM (below_drew1 HB.out); have p141 : 0 ≤ (x5_1 : Int) := of_decide_eq_true zq7; have q141 : x5_1 < (l0.length : Int) := of_decide_eq_true zq7; obtain ⟨ad141, e141, hx141_0, hx141_1⟩ := at_T66 HR0.out x5_1 p141 q141; have hw141_1 := hx141_1; have hw141_0 := hx141_0; cases e141; replace hx141_0 := hxB HB hx141_0; replace hx141_1 := hxB HB hx141_1; replace p141 := eq_true p141; replace q141 := eq_true q141; have p142 : 0 ≤ (x5_1 : Int) := of_decide_eq_true zq7; have q142 : x5_1 < (l1.length : Int) := of_decide_eq_true zq7; obtain ⟨ad142, e142, hx142_0, hx142_1⟩ := at_T66 HR1.out x5_1 p142 q142; have hw142_1 := hx142_1; have hw142_0 := hx142_0; cases e142; replace hx142_0 := hxB HB hx142_0; replace hx142_1 := hxB HB hx142_1; replace p142 := eq_true p142; replace q142 := eq_true q142
        refine start_ (n := 10) (S := fun w' => w'.cell? (ad141.add ((x5_1).toNat * 2)) = some (.string ((rd_T66 l0 x5_1).f0)) ∧ w'.cell? ⟨(ad141.add ((x5_1).toNat * 2)).block, (ad141.add ((x5_1).toNat * 2)).off + 1, none⟩ = some (.string ((rd_T66 l0 x5_1).f1)) ∧ w'.cell? (ad142.add ((x5_1).toNat * 2)) = some (.string ((rd_T66 l1 x5_1).f0)) ∧ w'.cell? ⟨(ad142.add ((x5_1).toNat * 2)).block, (ad142.add ((x5_1).toNat * 2)).off + 1, none⟩ = some (.string ((rd_T66 l1 x5_1).f1))) (ds := []) (bA 10 0) (by kernel_rfl) rfl rfl ⟨(hxB HB hw141_0 : _), (hxB HB hw141_1 : _), (hxB HB hw142_0 : _), (hxB HB hw142_1 : _)⟩ (fun hHeld => ?_); refine with_tabW laws_eqBlobS.tab6 laws_eqBlobS.bits6 (fun HT_ HW_ => ?_)
        generalize wr.drew = w9 at HB hx141_0 hx141_1 hx142_0 hx142_1 hHeld ⊢; refine pV 0 17 10 1 ?_; refine pV 1 18 10 3 ?_; refine pV 2 19 10 7 ?_; refine pV 4 21 10 23 ?_; refine pV 5 22 10 55 ?_; refine pV 6 23 10 119 ?_; refine tV 3 20 10 127 rfl zq391 ?_; refine tV 7 24 10 255 rfl zq391 ?_; refine oE 8 25 10 511 rfl (fun K hK => ?_); refine goes_ Try.func91 (by kernel_rfl) rfl #[.agg #[.string ((rd_T66 l0 x5_1).f0), .string ((rd_T66 l0 x5_1).f1)], .agg #[.string ((rd_T66 l1 x5_1).f0), .string ((rd_T66 l1 x5_1).f1)]] (by rfl) rfl rfl zq8 ?_
        with_reducible refine (laws_eqBlob.calls ((rd_T66 l0 x5_1).f0) ((rd_T66 l0 x5_1).f1) ((rd_T66 l1 x5_1).f0) ((rd_T66 l1 x5_1).f1) true _ A7.out).mono ?_
        rintro e w10 ⟨rfl, hb⟩; refine ⟨_, rfl, ?_⟩; replace HB := sB zq3 hb; (try clear hb); (try clear hb2); (try clear hk); (try clear hi); refine hK.out _ _ ⟨(hxB HB hw141_0 : _), (hxB HB hw141_1 : _), (hxB HB hw142_0 : _), (hxB HB hw142_1 : _)⟩ (fun hHeld => ?_); clear hK K; refine norm_ (a' := ?_) ?_ ?_; rotate_left; exact zq407; refine pV 9 26 10 1023 ?_; refine dE ?_
        try go_wp2
        go_roundg k1
        case measure => have := HK1.out; omega
        case rel => exact ⟨(wrap64 (x5_1 + 1)), zq6, H', ⟨zq9⟩, ⟨zq3⟩⟩
       replace c8 := Bool.eq_false_iff.mpr c8; subst c8; rw [if_neg (show ¬ (false = true) by decide)] at H; obtain rfl := Option.some.inj H
       try go_wp2
       replace HB := aM (below_drew1 HB.out); have p141 : 0 ≤ (x5_1 : Int) := of_decide_eq_true zq7; have q141 : x5_1 < (l0.length : Int) := of_decide_eq_true zq7; obtain ⟨ad141, e141, hx141_0, hx141_1⟩ := at_T66 HR0.out x5_1 p141 q141; have hw141_1 := hx141_1; have hw141_0 := hx141_0; cases e141; replace hx141_0 := hxB HB hx141_0; replace hx141_1 := hxB HB hx141_1; replace p141 := eq_true p141; replace q141 := eq_true q141; have p142 : 0 ≤ (x5_1 : Int) := of_decide_eq_true zq7; have q142 : x5_1 < (l1.length : Int) := of_decide_eq_true zq7; obtain ⟨ad142, e142, hx142_0, hx142_1⟩ := at_T66 HR1.out x5_1 p142 q142; have hw142_1 := hx142_1; have hw142_0 := hx142_0; cases e142; replace hx142_0 := hxB HB hx142_0; replace hx142_1 := hxB HB hx142_1; replace p142 := eq_true p142; replace q142 := eq_true q142
       refine start_ (n := 10) (S := fun w' => w'.cell? (ad141.add ((x5_1).toNat * 2)) = some (.string ((rd_T66 l0 x5_1).f0)) ∧ w'.cell? ⟨(ad141.add ((x5_1).toNat * 2)).block, (ad141.add ((x5_1).toNat * 2)).off + 1, none⟩ = some (.string ((rd_T66 l0 x5_1).f1)) ∧ w'.cell? (ad142.add ((x5_1).toNat * 2)) = some (.string ((rd_T66 l1 x5_1).f0)) ∧ w'.cell? ⟨(ad142.add ((x5_1).toNat * 2)).block, (ad142.add ((x5_1).toNat * 2)).off + 1, none⟩ = some (.string ((rd_T66 l1 x5_1).f1))) (ds := []) (bA 10 0) (by kernel_rfl) rfl rfl ⟨(hxB HB hw141_0 : _), (hxB HB hw141_1 : _), (hxB HB hw142_0 : _), (hxB HB hw142_1 : _)⟩ (fun hHeld => ?_); refine with_tabW laws_eqBlobS.tab6 laws_eqBlobS.bits6 (fun HT_ HW_ => ?_)
       generalize wr.drew = w11 at HB hx141_0 hx141_1 hx142_0 hx142_1 hHeld ⊢; refine pV 0 17 10 1 ?_; refine pV 1 18 10 3 ?_; refine pV 2 19 10 7 ?_; refine pV 4 21 10 23 ?_; refine pV 5 22 10 55 ?_; refine pV 6 23 10 119 ?_; refine tV 3 20 10 127 rfl zq391 ?_; refine tV 7 24 10 255 rfl zq391 ?_; refine oE 8 25 10 511 rfl (fun K hK => ?_); refine goes_ Try.func91 (by kernel_rfl) rfl #[.agg #[.string ((rd_T66 l0 x5_1).f0), .string ((rd_T66 l0 x5_1).f1)], .agg #[.string ((rd_T66 l1 x5_1).f0), .string ((rd_T66 l1 x5_1).f1)]] (by rfl) rfl rfl zq8 ?_
       with_reducible refine (laws_eqBlob.calls ((rd_T66 l0 x5_1).f0) ((rd_T66 l0 x5_1).f1) ((rd_T66 l1 x5_1).f0) ((rd_T66 l1 x5_1).f1) false _ A7.out).mono ?_
       rintro e w12 ⟨rfl, hb⟩; refine ⟨_, rfl, ?_⟩; replace HB := sB zq3 hb; (try clear hb); (try clear hb2); (try clear hk); (try clear hi); refine hK.out _ _ ⟨(hxB HB hw141_0 : _), (hxB HB hw141_1 : _), (hxB HB hw142_0 : _), (hxB HB hw142_1 : _)⟩ (fun hHeld => ?_); clear hK K; refine norm_ (a' := ?_) ?_ ?_; rotate_left; exact zq407; refine pV 9 26 10 1023 ?_; refine dE ?_
       try go_wp2
       go_ret; exact ⟨zq4, zq3⟩
      exact zq396
     exact zq384
    rw [if_neg c4] at H; have c4b0 := decide_eq_false c4; clear c4; obtain rfl := Option.some.inj H; go_wp2; go_ret; exact ⟨zq4, zq3⟩
 rw [if_neg c3] at H; have c3b0 : ((l0.length : Int) == (l1.length : Int)) = false := beq_eq_false_iff_ne.mpr c3; have c3b1 : ((l0.length : Int) != (l1.length : Int)) = true := bne_iff_ne.mpr c3; have c3b2 : (l0.length == l1.length) = false := by first | simpa using c3 | (simp at c3 ⊢; omega)
 obtain rfl := Option.some.inj H; go_enter Try.func56, Try.ntmps56; go_wp2; go_ret; exact ⟨zq4, zq3⟩
def laws_eqUpload.f (a0_0 : Int) (a0_1 : ByteArray) (a1_0 : Int) (a1_1 : ByteArray) : Option (Bool) := if a0_0 = a1_0 then (if a0_1.toList = a1_1.toList then (some true) else (some false)) else (some false)
set_option maxHeartbeats 8000000 in
set_option maxRecDepth 100000 in
theorem laws_eqUpload.calls (a0_0 : Int) (a0_1 : ByteArray) (a1_0 : Int) (a1_1 : ByteArray) (r : Bool) (w : World) (h : laws_eqUpload.f a0_0 a0_1 a1_0 a1_1 = some r) :
  Calls Try.prog 92 #[.agg #[.int .i64 a0_0, .string a0_1], .agg #[.int .i64 a1_0, .string a1_1]] w fun e w' => e = .returned (.bool r) ∧ Below w.heap.size w w' := by
 have hu68 := Try.underlying68; have HB := aM (Below.refl w.heap.size w); unfold laws_eqUpload.f at h; have H := h; clear h; by_cases c3 : a0_0 = a1_0
 ·
  rw [if_pos c3] at H; have c3b0 : (a0_0 == a1_0) = true := beq_iff_eq.mpr c3; have c3b1 : (a0_0 != a1_0) = false := bne_eq_false_iff_eq.mpr c3; clear c3; by_cases c4 : a0_1.toList = a1_1.toList
  ·
   rw [if_pos c4] at H; have c4b0 : (a0_1.toList == a1_1.toList) = true := beq_iff_eq.mpr c4; have c4b1 : (a0_1.toList != a1_1.toList) = false := bne_eq_false_iff_eq.mpr c4; clear c4; obtain rfl := Option.some.inj H; go_enter Try.func92, Try.ntmps92
   go_wp2_with (first | ((with_reducible refine gD 2 rfl ?_); refine bE 2 #[.int .i64 a0_0, .string a0_1] 68 ?_; intro gb144 hg w5 hbox hb; have BK144 := aM hbox; have GW144 := aM (zq316 : w.heap.size ≤ gb144); have GE144 := GW144; replace HB := sB zq3 hb; clear hb hbox hg) | ((with_reducible refine gD 3 rfl ?_); refine bE 3 #[.int .i64 a1_0, .string a1_1] 68 ?_; intro gb145 hg w6 hbox hb; have BK145 := aM hbox; have GW145 := aM (zq357 : w.heap.size ≤ gb145); have GE145 := GW145; replace HB := sB zq148 hb; have NB144_145 := aM (zq358 : gb144 ≠ gb145); have NB145_144 := aM (zq359 : gb145 ≠ gb144); replace BK144 := bG BK144 hb; clear hb hbox hg; have hnb7 := NB144_145.out; have hnc7 := NB145_144.out; obtain ⟨hcz8_0, hcz8_1, hfz8_0, hfz8_1⟩ := cells2_ (w := w6) BK144; obtain ⟨hcz9_0, hcz9_1, hfz9_0, hfz9_1⟩ := cells2_ (w := w6) BK145))
   go_ret; exact ⟨zq4, zq149⟩
  rw [if_neg c4] at H; have c4b0 : (a0_1.toList == a1_1.toList) = false := beq_eq_false_iff_ne.mpr c4; have c4b1 : (a0_1.toList != a1_1.toList) = true := bne_iff_ne.mpr c4; obtain rfl := Option.some.inj H; go_enter Try.func92, Try.ntmps92
  go_wp2_with (first | ((with_reducible refine gD 2 rfl ?_); refine bE 2 #[.int .i64 a0_0, .string a0_1] 68 ?_; intro gb144 hg w10 hbox hb; have BK144 := aM hbox; have GW144 := aM (zq316 : w.heap.size ≤ gb144); have GE144 := GW144; replace HB := sB zq3 hb; clear hb hbox hg) | ((with_reducible refine gD 3 rfl ?_); refine bE 3 #[.int .i64 a1_0, .string a1_1] 68 ?_; intro gb145 hg w11 hbox hb; have BK145 := aM hbox; have GW145 := aM (zq357 : w.heap.size ≤ gb145); have GE145 := GW145; replace HB := sB zq148 hb; have NB144_145 := aM (zq358 : gb144 ≠ gb145); have NB145_144 := aM (zq359 : gb145 ≠ gb144); replace BK144 := bG BK144 hb; clear hb hbox hg; have hnb12 := NB144_145.out; have hnc12 := NB145_144.out; obtain ⟨hcz13_0, hcz13_1, hfz13_0, hfz13_1⟩ := cells2_ (w := w11) BK144; obtain ⟨hcz14_0, hcz14_1, hfz14_0, hfz14_1⟩ := cells2_ (w := w11) BK145))
  go_ret; exact ⟨zq4, zq149⟩
 rw [if_neg c3] at H; have c3b0 : (a0_0 == a1_0) = false := beq_eq_false_iff_ne.mpr c3; have c3b1 : (a0_0 != a1_0) = true := bne_iff_ne.mpr c3; obtain rfl := Option.some.inj H; go_enter Try.func92, Try.ntmps92
 go_wp2_with (first | ((with_reducible refine gD 2 rfl ?_); refine bE 2 #[.int .i64 a0_0, .string a0_1] 68 ?_; intro gb144 hg w15 hbox hb; have BK144 := aM hbox; have GW144 := aM (zq316 : w.heap.size ≤ gb144); have GE144 := GW144; replace HB := sB zq3 hb; clear hb hbox hg) | ((with_reducible refine gD 3 rfl ?_); refine bE 3 #[.int .i64 a1_0, .string a1_1] 68 ?_; intro gb145 hg w16 hbox hb; have BK145 := aM hbox; have GW145 := aM (zq357 : w.heap.size ≤ gb145); have GE145 := GW145; replace HB := sB zq148 hb; have NB144_145 := aM (zq358 : gb144 ≠ gb145); have NB145_144 := aM (zq359 : gb145 ≠ gb144); replace BK144 := bG BK144 hb; clear hb hbox hg; have hnb17 := NB144_145.out; have hnc17 := NB145_144.out; obtain ⟨hcz18_0, hcz18_1, hfz18_0, hfz18_1⟩ := cells2_ (w := w16) BK144; obtain ⟨hcz19_0, hcz19_1, hfz19_0, hfz19_1⟩ := cells2_ (w := w16) BK145))
 go_ret; exact ⟨zq4, zq149⟩
end Go.Proofs.Ytacaeebjanglgaa.QFnExactKeep
