/- Written by wip/myprint.py of this repo (the kit's print, with additions of this session). -/
import Derived.Test.YtacaeebjanglgaaQFnExactKeepx2
set_option maxRecDepth 100000
namespace Go.Proofs.Ytacaeebjanglgaa.QFnExactKeep
open Go.RowKit Go.Proofs.YtacaeebjanglgaaW.PrintWords Go.Proofs.YtacaeebjanglgaaW.PrintLast Go.Proofs.YtacaeebjanglgaaW.PrintMore
attribute [local go_sem] max2_int min2_int max_two min_two max_three min_three max_four min_four
set_option linter.unusedVariables false
set_option linter.unusedSimpArgs false
def laws_eqUploadS.l0 : Nat → List (S68) → List (S68) → Int → Option (Bool)
 | 0, _, _, _ => none
 | k + 1, x0, x1, x5 => if x5 < (x0.length : Int) then (if 0 ≤ x5 then (if x5 < (x1.length : Int) then ((laws_eqUpload.f ((rd_T68 x0 x5).f0) ((rd_T68 x0 x5).f1) ((rd_T68 x1 x5).f0) ((rd_T68 x1 x5).f1)).bind fun t148 => (if t148 = true then (laws_eqUploadS.l0 k x0 x1 (wrap64 (x5 + 1))) else (some false))) else (none)) else (none)) else (some true)
def laws_eqUploadS.f (k : Nat) (l0 : List (S68)) (l1 : List (S68)) : Option (Bool) := if (l0.length : Int) = (l1.length : Int) then (laws_eqUploadS.l0 k l0 l1 0) else (some false)
theorem laws_eqUploadS.mono_l : ∀ k, (∀ y0 y1 y2, LeO (laws_eqUploadS.l0 k y0 y1 y2) (laws_eqUploadS.l0 (k + 1) y0 y1 y2))
 | 0 => fun _ _ _ r h => by simp [laws_eqUploadS.l0] at h
 | k + 1 => by
  have ih0 := laws_eqUploadS.mono_l k
  ·
   intro y0 y1 y2; unfold laws_eqUploadS.l0
   repeat' first
   | (with_reducible apply ih0)
   | (with_reducible exact LeO.refl _)
   | (with_reducible exact LeO.none _)
   | (with_reducible refine LeO.ite ?_ ?_)
   | (with_reducible refine LeO.bind ?_ (fun _ => ?_))
   | exact LeO.none _
   | refine LeO.ite ?_ ?_
   | refine LeO.bind ?_ (fun _ => ?_)
theorem laws_eqUploadS.mono : ∀ a0 a1 k, LeO (laws_eqUploadS.f k a0 a1) (laws_eqUploadS.f (k + 1) a0 a1) := by
 intro a0 a1 k; have ih0 := laws_eqUploadS.mono_l k; unfold laws_eqUploadS.f
 repeat' first
   | (with_reducible apply ih0)
   | (with_reducible exact LeO.refl _)
   | (with_reducible exact LeO.none _)
   | (with_reducible refine LeO.ite ?_ ?_)
   | (with_reducible refine LeO.bind ?_ (fun _ => ?_))
   | exact LeO.none _
   | refine LeO.ite ?_ ?_
   | refine LeO.bind ?_ (fun _ => ?_)
def laws_eqUploadS.T6 : Bool × List (List Nat × List Nat) := (true, [([], []), ([], []), ([0, 1], [0, 1]), ([2], [2]), ([], []), ([], []), ([4, 5], [4, 5]), ([6], [6]), ([3, 7], [3, 7]), ([8], [8])])
def laws_eqUploadS.B6 : List Nat := [0, 0, 3, 7, 0, 0, 48, 112, 255, 511]
theorem laws_eqUploadS.tab6 : rtab .any (opsOf Try.f57 6) = laws_eqUploadS.T6 := by kernel_rfl
theorem laws_eqUploadS.bits6 : waitsOk laws_eqUploadS.T6.2 laws_eqUploadS.B6 = true := by kernel_rfl
set_option maxHeartbeats 8000000 in
set_option maxRecDepth 100000 in
theorem laws_eqUploadS.calls (k : Nat) (A0 : Option Addr) (c0 : Nat) (l0 : List (S68)) (A1 : Option Addr) (c1 : Nat) (l1 : List (S68)) (r : Bool) (w : World) (hr0 : Kd.C k68 w A0 l0.length l0) (hc0 : l0.length ≤ c0) (hr1 : Kd.C k68 w A1 l1.length l1) (hc1 : l1.length ≤ c1) (h : laws_eqUploadS.f k l0 l1 = some r) :
  Calls Try.prog 57 #[.slice A0 l0.length c0, .slice A1 l1.length c1] w fun e w' => e = .returned (.bool r) ∧ Below w.heap.size w w' := by
 have hu68 := Try.underlying68; have HR0 := aM hr0; have HC0 := aM hc0; clear hr0 hc0; have HR1 := aM hr1; have HC1 := aM hc1; clear hr1 hc1; have HB := aM (Below.refl w.heap.size w); unfold laws_eqUploadS.f at h; have H := h; clear h; by_cases c3 : (l0.length : Int) = (l1.length : Int)
 ·
  rw [if_pos c3] at H; have c3b0 : ((l0.length : Int) == (l1.length : Int)) = true := beq_iff_eq.mpr c3; have c3b1 : ((l0.length : Int) != (l1.length : Int)) = false := bne_eq_false_iff_eq.mpr c3; have c3b2 : (l0.length == l1.length) = true := by first | simpa using c3 | (simp at c3 ⊢; omega)
  clear c3; have H' := aM H; clear H; go_enter Try.func57, Try.ntmps57; go_wp2
  go_loopg [5] k (fun kq v5 w' => ∃ (x5_1 : Int), v5 = .int .i64 x5_1 ∧ Aside0 (laws_eqUploadS.l0 kq l0 l1 x5_1 = some r) ∧ Aside0 (kq ≤ k) ∧ Aside0 (Below w.heap.size w w'))
  case atStart => exact ⟨(0), zq6, H', ⟨Nat.le_refl _⟩, ⟨zq3⟩⟩
  case round =>
   clear H'; (try clear c1); (try clear p2); (try clear c3); (try clear c3b0); (try clear c3b1); (try clear c3b2); obtain ⟨x5_1, rfl, HA, HK1, HB⟩ := hrel
   cases gk with
   | zero => exact absurd HA.out (by simp [laws_eqUploadS.l0])
   | succ k1 =>
    have H := HA.out; clear HA; simp only [laws_eqUploadS.l0] at H; by_cases c4 : x5_1 < (l0.length : Int)
    ·
     rw [if_pos c4] at H; have c4b0 := decide_eq_true c4; clear c4; by_cases c5 : 0 ≤ x5_1
     ·
      rw [if_pos c5] at H; have c5b0 := decide_eq_true c5; clear c5; by_cases c6 : x5_1 < (l1.length : Int)
      ·
       rw [if_pos c6] at H; have c6b0 := decide_eq_true c6; clear c6; replace H := Option.bind_eq_some_iff.mp H; obtain ⟨t148, A70, H⟩ := H; (try dsimp only at H); have A7 := aM A70; clear A70; by_cases c8 : t148 = true
       ·
        subst c8; rw [if_pos rfl] at H; have H' := aM H; clear H
        try go_wp2
        replace HB := aM (below_drew1 HB.out); have p146 : 0 ≤ (x5_1 : Int) := of_decide_eq_true zq7; have q146 : x5_1 < (l0.length : Int) := of_decide_eq_true zq7; obtain ⟨ad146, e146, hx146_0, hx146_1⟩ := at_T68 HR0.out x5_1 p146 q146; have hw146_1 := hx146_1; have hw146_0 := hx146_0; cases e146; replace hx146_0 := hxB HB hx146_0; replace hx146_1 := hxB HB hx146_1; replace p146 := eq_true p146; replace q146 := eq_true q146; have p147 : 0 ≤ (x5_1 : Int) := of_decide_eq_true zq7; have q147 : x5_1 < (l1.length : Int) := of_decide_eq_true zq7; obtain ⟨ad147, e147, hx147_0, hx147_1⟩ := at_T68 HR1.out x5_1 p147 q147; have hw147_1 := hx147_1; have hw147_0 := hx147_0; cases e147; replace hx147_0 := hxB HB hx147_0; replace hx147_1 := hxB HB hx147_1; replace p147 := eq_true p147; replace q147 := eq_true q147
        refine start_ (n := 10) (S := fun w' => w'.cell? (ad146.add ((x5_1).toNat * 2)) = some (.int .i64 ((rd_T68 l0 x5_1).f0)) ∧ w'.cell? ⟨(ad146.add ((x5_1).toNat * 2)).block, (ad146.add ((x5_1).toNat * 2)).off + 1, none⟩ = some (.string ((rd_T68 l0 x5_1).f1)) ∧ w'.cell? (ad147.add ((x5_1).toNat * 2)) = some (.int .i64 ((rd_T68 l1 x5_1).f0)) ∧ w'.cell? ⟨(ad147.add ((x5_1).toNat * 2)).block, (ad147.add ((x5_1).toNat * 2)).off + 1, none⟩ = some (.string ((rd_T68 l1 x5_1).f1))) (ds := []) (bA 10 0) (by kernel_rfl) rfl rfl ⟨(hxB HB hw146_0 : _), (hxB HB hw146_1 : _), (hxB HB hw147_0 : _), (hxB HB hw147_1 : _)⟩ (fun hHeld => ?_); refine with_tabW laws_eqUploadS.tab6 laws_eqUploadS.bits6 (fun HT_ HW_ => ?_)
        generalize wr.drew = w9 at HB hx146_0 hx146_1 hx147_0 hx147_1 hHeld ⊢; refine pV 0 17 10 1 ?_; refine pV 1 18 10 3 ?_; refine pV 2 19 10 7 ?_; refine pV 4 21 10 23 ?_; refine pV 5 22 10 55 ?_; refine pV 6 23 10 119 ?_; refine tV 3 20 10 127 rfl zq391 ?_; refine tV 7 24 10 255 rfl zq391 ?_; refine oE 8 25 10 511 rfl (fun K hK => ?_); refine goes_ Try.func92 (by kernel_rfl) rfl #[.agg #[.int .i64 ((rd_T68 l0 x5_1).f0), .string ((rd_T68 l0 x5_1).f1)], .agg #[.int .i64 ((rd_T68 l1 x5_1).f0), .string ((rd_T68 l1 x5_1).f1)]] (by rfl) rfl rfl zq8 ?_
        with_reducible refine (laws_eqUpload.calls ((rd_T68 l0 x5_1).f0) ((rd_T68 l0 x5_1).f1) ((rd_T68 l1 x5_1).f0) ((rd_T68 l1 x5_1).f1) true _ A7.out).mono ?_
        rintro e w10 ⟨rfl, hb⟩; refine ⟨_, rfl, ?_⟩; replace HB := sB zq3 hb; (try clear hb); (try clear hb2); (try clear hk); (try clear hi); refine hK.out _ _ ⟨(hxB HB hw146_0 : _), (hxB HB hw146_1 : _), (hxB HB hw147_0 : _), (hxB HB hw147_1 : _)⟩ (fun hHeld => ?_); clear hK K; refine norm_ (a' := ?_) ?_ ?_; rotate_left; exact zq407; refine pV 9 26 10 1023 ?_; refine dE ?_
        try go_wp2
        go_roundg k1
        case measure => have := HK1.out; omega
        case rel => exact ⟨(wrap64 (x5_1 + 1)), zq6, H', ⟨zq9⟩, ⟨zq3⟩⟩
       replace c8 := Bool.eq_false_iff.mpr c8; subst c8; rw [if_neg (show ¬ (false = true) by decide)] at H; obtain rfl := Option.some.inj H
       try go_wp2
       replace HB := aM (below_drew1 HB.out); have p146 : 0 ≤ (x5_1 : Int) := of_decide_eq_true zq7; have q146 : x5_1 < (l0.length : Int) := of_decide_eq_true zq7; obtain ⟨ad146, e146, hx146_0, hx146_1⟩ := at_T68 HR0.out x5_1 p146 q146; have hw146_1 := hx146_1; have hw146_0 := hx146_0; cases e146; replace hx146_0 := hxB HB hx146_0; replace hx146_1 := hxB HB hx146_1; replace p146 := eq_true p146; replace q146 := eq_true q146; have p147 : 0 ≤ (x5_1 : Int) := of_decide_eq_true zq7; have q147 : x5_1 < (l1.length : Int) := of_decide_eq_true zq7; obtain ⟨ad147, e147, hx147_0, hx147_1⟩ := at_T68 HR1.out x5_1 p147 q147; have hw147_1 := hx147_1; have hw147_0 := hx147_0; cases e147; replace hx147_0 := hxB HB hx147_0; replace hx147_1 := hxB HB hx147_1; replace p147 := eq_true p147; replace q147 := eq_true q147
       refine start_ (n := 10) (S := fun w' => w'.cell? (ad146.add ((x5_1).toNat * 2)) = some (.int .i64 ((rd_T68 l0 x5_1).f0)) ∧ w'.cell? ⟨(ad146.add ((x5_1).toNat * 2)).block, (ad146.add ((x5_1).toNat * 2)).off + 1, none⟩ = some (.string ((rd_T68 l0 x5_1).f1)) ∧ w'.cell? (ad147.add ((x5_1).toNat * 2)) = some (.int .i64 ((rd_T68 l1 x5_1).f0)) ∧ w'.cell? ⟨(ad147.add ((x5_1).toNat * 2)).block, (ad147.add ((x5_1).toNat * 2)).off + 1, none⟩ = some (.string ((rd_T68 l1 x5_1).f1))) (ds := []) (bA 10 0) (by kernel_rfl) rfl rfl ⟨(hxB HB hw146_0 : _), (hxB HB hw146_1 : _), (hxB HB hw147_0 : _), (hxB HB hw147_1 : _)⟩ (fun hHeld => ?_); refine with_tabW laws_eqUploadS.tab6 laws_eqUploadS.bits6 (fun HT_ HW_ => ?_)
       generalize wr.drew = w11 at HB hx146_0 hx146_1 hx147_0 hx147_1 hHeld ⊢; refine pV 0 17 10 1 ?_; refine pV 1 18 10 3 ?_; refine pV 2 19 10 7 ?_; refine pV 4 21 10 23 ?_; refine pV 5 22 10 55 ?_; refine pV 6 23 10 119 ?_; refine tV 3 20 10 127 rfl zq391 ?_; refine tV 7 24 10 255 rfl zq391 ?_; refine oE 8 25 10 511 rfl (fun K hK => ?_); refine goes_ Try.func92 (by kernel_rfl) rfl #[.agg #[.int .i64 ((rd_T68 l0 x5_1).f0), .string ((rd_T68 l0 x5_1).f1)], .agg #[.int .i64 ((rd_T68 l1 x5_1).f0), .string ((rd_T68 l1 x5_1).f1)]] (by rfl) rfl rfl zq8 ?_
       with_reducible refine (laws_eqUpload.calls ((rd_T68 l0 x5_1).f0) ((rd_T68 l0 x5_1).f1) ((rd_T68 l1 x5_1).f0) ((rd_T68 l1 x5_1).f1) false _ A7.out).mono ?_
       rintro e w12 ⟨rfl, hb⟩; refine ⟨_, rfl, ?_⟩; replace HB := sB zq3 hb; (try clear hb); (try clear hb2); (try clear hk); (try clear hi); refine hK.out _ _ ⟨(hxB HB hw146_0 : _), (hxB HB hw146_1 : _), (hxB HB hw147_0 : _), (hxB HB hw147_1 : _)⟩ (fun hHeld => ?_); clear hK K; refine norm_ (a' := ?_) ?_ ?_; rotate_left; exact zq407; refine pV 9 26 10 1023 ?_; refine dE ?_
       try go_wp2
       go_ret; exact ⟨zq4, zq3⟩
      exact zq396
     exact zq384
    rw [if_neg c4] at H; have c4b0 := decide_eq_false c4; clear c4; obtain rfl := Option.some.inj H; go_wp2; go_ret; exact ⟨zq4, zq3⟩
 rw [if_neg c3] at H; have c3b0 : ((l0.length : Int) == (l1.length : Int)) = false := beq_eq_false_iff_ne.mpr c3; have c3b1 : ((l0.length : Int) != (l1.length : Int)) = true := bne_iff_ne.mpr c3; have c3b2 : (l0.length == l1.length) = false := by first | simpa using c3 | (simp at c3 ⊢; omega)
 obtain rfl := Option.some.inj H; go_enter Try.func57, Try.ntmps57; go_wp2; go_ret; exact ⟨zq4, zq3⟩
def laws_eqStore.f (k : Nat) (a0_0 : Int) (l0_1 : List (S66)) (l0_2 : List (S68)) (a0_3 : Int) (a1_0 : Int) (l1_1 : List (S66)) (l1_2 : List (S68)) (a1_3 : Int) : Option (Bool) := if a0_0 = a1_0 then ((laws_eqBlobS.f k l0_1 l1_1).bind fun t151 => (if t151 = true then ((laws_eqUploadS.f k l0_2 l1_2).bind fun t152 => (if t152 = true then (if a0_3 = a1_3 then (some true) else (some false)) else (some false))) else (some false))) else (some false)
theorem laws_eqStore.mono : ∀ a0 a1 a2 a3 a4 a5 a6 a7 k, LeO (laws_eqStore.f k a0 a1 a2 a3 a4 a5 a6 a7) (laws_eqStore.f (k + 1) a0 a1 a2 a3 a4 a5 a6 a7) := by
 intro a0 a1 a2 a3 a4 a5 a6 a7 k; unfold laws_eqStore.f
 repeat' first
   | (with_reducible apply laws_eqBlobS.mono)
   | (with_reducible apply laws_eqUploadS.mono)
   | (with_reducible exact LeO.refl _)
   | (with_reducible exact LeO.none _)
   | (with_reducible refine LeO.ite ?_ ?_)
   | (with_reducible refine LeO.bind ?_ (fun _ => ?_))
   | exact LeO.none _
   | refine LeO.ite ?_ ?_
   | refine LeO.bind ?_ (fun _ => ?_)
set_option maxHeartbeats 8000000 in
set_option maxRecDepth 100000 in
theorem laws_eqStore.calls (k : Nat) (a0_0 : Int) (A0_1 : Option Addr) (c0_1 : Nat) (l0_1 : List (S66)) (A0_2 : Option Addr) (c0_2 : Nat) (l0_2 : List (S68)) (a0_3 : Int) (a1_0 : Int) (A1_1 : Option Addr) (c1_1 : Nat) (l1_1 : List (S66)) (A1_2 : Option Addr) (c1_2 : Nat) (l1_2 : List (S68)) (a1_3 : Int) (r : Bool) (w : World) (hr0_1 : Kd.C k66 w A0_1 l0_1.length l0_1) (hc0_1 : l0_1.length ≤ c0_1) (hr0_2 : Kd.C k68 w A0_2 l0_2.length l0_2) (hc0_2 : l0_2.length ≤ c0_2) (hr1_1 : Kd.C k66 w A1_1 l1_1.length l1_1) (hc1_1 : l1_1.length ≤ c1_1) (hr1_2 : Kd.C k68 w A1_2 l1_2.length l1_2) (hc1_2 : l1_2.length ≤ c1_2) (h : laws_eqStore.f k a0_0 l0_1 l0_2 a0_3 a1_0 l1_1 l1_2 a1_3 = some r) :
  Calls Try.prog 19 #[.agg #[.int .i64 a0_0, .slice A0_1 l0_1.length c0_1, .slice A0_2 l0_2.length c0_2, .int .i64 a0_3], .agg #[.int .i64 a1_0, .slice A1_1 l1_1.length c1_1, .slice A1_2 l1_2.length c1_2, .int .i64 a1_3]] w fun e w' => e = .returned (.bool r) ∧ Below w.heap.size w w' := by
 have hu31 := Try.underlying31; have HR0_1 := aM hr0_1; have HC0_1 := aM hc0_1; clear hr0_1 hc0_1; have HR0_2 := aM hr0_2; have HC0_2 := aM hc0_2; clear hr0_2 hc0_2; have HR1_1 := aM hr1_1; have HC1_1 := aM hc1_1; clear hr1_1 hc1_1; have HR1_2 := aM hr1_2; have HC1_2 := aM hc1_2; clear hr1_2 hc1_2; have HB := aM (Below.refl w.heap.size w); unfold laws_eqStore.f at h; have H := h; clear h; by_cases c3 : a0_0 = a1_0
 ·
  rw [if_pos c3] at H; have c3b0 : (a0_0 == a1_0) = true := beq_iff_eq.mpr c3; have c3b1 : (a0_0 != a1_0) = false := bne_eq_false_iff_eq.mpr c3; clear c3; replace H := Option.bind_eq_some_iff.mp H; obtain ⟨t151, A40, H⟩ := H; (try dsimp only at H); have A4 := aM A40; clear A40; by_cases c5 : t151 = true
  ·
   subst c5; rw [if_pos rfl] at H; replace H := Option.bind_eq_some_iff.mp H; obtain ⟨t152, A60, H⟩ := H; (try dsimp only at H); have A6 := aM A60; clear A60; by_cases c7 : t152 = true
   ·
    subst c7; rw [if_pos rfl] at H; by_cases c8 : a0_3 = a1_3
    ·
     rw [if_pos c8] at H; have c8b0 : (a0_3 == a1_3) = true := beq_iff_eq.mpr c8; have c8b1 : (a0_3 != a1_3) = false := bne_eq_false_iff_eq.mpr c8; clear c8; obtain rfl := Option.some.inj H; go_enter Try.func19, Try.ntmps19
     go_wp2_with (first | ((with_reducible refine gD 2 rfl ?_); refine bE 2 #[.int .i64 a0_0, .slice A0_1 l0_1.length c0_1, .slice A0_2 l0_2.length c0_2, .int .i64 a0_3] 31 ?_; intro gb149 hg w9 hbox hb; have BK149 := aM hbox; have GW149 := aM (zq316 : w.heap.size ≤ gb149); have GE149 := GW149; replace HB := sB zq3 hb; clear hb hbox hg) | ((with_reducible refine gD 3 rfl ?_); refine bE 3 #[.int .i64 a1_0, .slice A1_1 l1_1.length c1_1, .slice A1_2 l1_2.length c1_2, .int .i64 a1_3] 31 ?_; intro gb150 hg w10 hbox hb; have BK150 := aM hbox; have GW150 := aM (zq372 : w.heap.size ≤ gb150); have GE150 := GW150; replace HB := sB zq269 hb; have NB149_150 := aM (zq373 : gb149 ≠ gb150); have NB150_149 := aM (zq374 : gb150 ≠ gb149); replace BK149 := bG BK149 hb; clear hb hbox hg; have hnb11 := NB149_150.out; have hnc11 := NB150_149.out; obtain ⟨hcz12_0, hcz12_1, hcz12_2, hcz12_3, hfz12_0, hfz12_1, hfz12_2, hfz12_3⟩ := cells4_ (w := w10) BK149; obtain ⟨hcz13_0, hcz13_1, hcz13_2, hcz13_3, hfz13_0, hfz13_1, hfz13_2, hfz13_3⟩ := cells4_ (w := w10) BK150) | ((with_reducible refine gC 56 rfl ?_); refine gL 14 Try.func56 #[.slice A0_1 l0_1.length c0_1, .slice A1_1 l1_1.length c1_1] ?_; (with_reducible refine (laws_eqBlobS.calls k _ _ l0_1 _ _ l1_1 true _ ?_ ?_ ?_ ?_ A4.out).mono ?_); exact zq11; exact zq12; exact zq270; exact HC1_1.out; rintro e w14 ⟨rfl, hb⟩; refine ⟨_, rfl, ?_⟩; replace BK149 := bG BK149 hb; replace BK150 := bG BK150 hb; replace HB := sB zq272 hb; clear hb; obtain ⟨hcz15_0, hcz15_1, hcz15_2, hcz15_3, hfz15_0, hfz15_1, hfz15_2, hfz15_3⟩ := cells4_ (w := w14) BK149; obtain ⟨hcz16_0, hcz16_1, hcz16_2, hcz16_3, hfz16_0, hfz16_1, hfz16_2, hfz16_3⟩ := cells4_ (w := w14) BK150) | ((with_reducible refine gC 57 rfl ?_); refine gL 20 Try.func57 #[.slice A0_2 l0_2.length c0_2, .slice A1_2 l1_2.length c1_2] ?_; (with_reducible refine (laws_eqUploadS.calls k _ _ l0_2 _ _ l1_2 true _ ?_ ?_ ?_ ?_ A6.out).mono ?_); exact zq15; exact zq16; exact zq273; exact HC1_2.out; rintro e w17 ⟨rfl, hb⟩; refine ⟨_, rfl, ?_⟩; replace BK149 := bG BK149 hb; replace BK150 := bG BK150 hb; replace HB := sB zq272 hb; clear hb; obtain ⟨hcz18_0, hcz18_1, hcz18_2, hcz18_3, hfz18_0, hfz18_1, hfz18_2, hfz18_3⟩ := cells4_ (w := w17) BK149; obtain ⟨hcz19_0, hcz19_1, hcz19_2, hcz19_3, hfz19_0, hfz19_1, hfz19_2, hfz19_3⟩ := cells4_ (w := w17) BK150))
     go_ret; exact ⟨zq4, zq272⟩
    rw [if_neg c8] at H; have c8b0 : (a0_3 == a1_3) = false := beq_eq_false_iff_ne.mpr c8; have c8b1 : (a0_3 != a1_3) = true := bne_iff_ne.mpr c8; obtain rfl := Option.some.inj H; go_enter Try.func19, Try.ntmps19
    go_wp2_with (first | ((with_reducible refine gD 2 rfl ?_); refine bE 2 #[.int .i64 a0_0, .slice A0_1 l0_1.length c0_1, .slice A0_2 l0_2.length c0_2, .int .i64 a0_3] 31 ?_; intro gb149 hg w20 hbox hb; have BK149 := aM hbox; have GW149 := aM (zq316 : w.heap.size ≤ gb149); have GE149 := GW149; replace HB := sB zq3 hb; clear hb hbox hg) | ((with_reducible refine gD 3 rfl ?_); refine bE 3 #[.int .i64 a1_0, .slice A1_1 l1_1.length c1_1, .slice A1_2 l1_2.length c1_2, .int .i64 a1_3] 31 ?_; intro gb150 hg w21 hbox hb; have BK150 := aM hbox; have GW150 := aM (zq372 : w.heap.size ≤ gb150); have GE150 := GW150; replace HB := sB zq269 hb; have NB149_150 := aM (zq373 : gb149 ≠ gb150); have NB150_149 := aM (zq374 : gb150 ≠ gb149); replace BK149 := bG BK149 hb; clear hb hbox hg; have hnb22 := NB149_150.out; have hnc22 := NB150_149.out; obtain ⟨hcz23_0, hcz23_1, hcz23_2, hcz23_3, hfz23_0, hfz23_1, hfz23_2, hfz23_3⟩ := cells4_ (w := w21) BK149; obtain ⟨hcz24_0, hcz24_1, hcz24_2, hcz24_3, hfz24_0, hfz24_1, hfz24_2, hfz24_3⟩ := cells4_ (w := w21) BK150) | ((with_reducible refine gC 56 rfl ?_); refine gL 14 Try.func56 #[.slice A0_1 l0_1.length c0_1, .slice A1_1 l1_1.length c1_1] ?_; (with_reducible refine (laws_eqBlobS.calls k _ _ l0_1 _ _ l1_1 true _ ?_ ?_ ?_ ?_ A4.out).mono ?_); exact zq11; exact zq12; exact zq270; exact HC1_1.out; rintro e w25 ⟨rfl, hb⟩; refine ⟨_, rfl, ?_⟩; replace BK149 := bG BK149 hb; replace BK150 := bG BK150 hb; replace HB := sB zq272 hb; clear hb; obtain ⟨hcz26_0, hcz26_1, hcz26_2, hcz26_3, hfz26_0, hfz26_1, hfz26_2, hfz26_3⟩ := cells4_ (w := w25) BK149; obtain ⟨hcz27_0, hcz27_1, hcz27_2, hcz27_3, hfz27_0, hfz27_1, hfz27_2, hfz27_3⟩ := cells4_ (w := w25) BK150) | ((with_reducible refine gC 57 rfl ?_); refine gL 20 Try.func57 #[.slice A0_2 l0_2.length c0_2, .slice A1_2 l1_2.length c1_2] ?_; (with_reducible refine (laws_eqUploadS.calls k _ _ l0_2 _ _ l1_2 true _ ?_ ?_ ?_ ?_ A6.out).mono ?_); exact zq15; exact zq16; exact zq273; exact HC1_2.out; rintro e w28 ⟨rfl, hb⟩; refine ⟨_, rfl, ?_⟩; replace BK149 := bG BK149 hb; replace BK150 := bG BK150 hb; replace HB := sB zq272 hb; clear hb; obtain ⟨hcz29_0, hcz29_1, hcz29_2, hcz29_3, hfz29_0, hfz29_1, hfz29_2, hfz29_3⟩ := cells4_ (w := w28) BK149; obtain ⟨hcz30_0, hcz30_1, hcz30_2, hcz30_3, hfz30_0, hfz30_1, hfz30_2, hfz30_3⟩ := cells4_ (w := w28) BK150))
    go_ret; exact ⟨zq4, zq272⟩
   replace c7 := Bool.eq_false_iff.mpr c7; subst c7; rw [if_neg (show ¬ (false = true) by decide)] at H; obtain rfl := Option.some.inj H; go_enter Try.func19, Try.ntmps19
   go_wp2_with (first | ((with_reducible refine gD 2 rfl ?_); refine bE 2 #[.int .i64 a0_0, .slice A0_1 l0_1.length c0_1, .slice A0_2 l0_2.length c0_2, .int .i64 a0_3] 31 ?_; intro gb149 hg w31 hbox hb; have BK149 := aM hbox; have GW149 := aM (zq316 : w.heap.size ≤ gb149); have GE149 := GW149; replace HB := sB zq3 hb; clear hb hbox hg) | ((with_reducible refine gD 3 rfl ?_); refine bE 3 #[.int .i64 a1_0, .slice A1_1 l1_1.length c1_1, .slice A1_2 l1_2.length c1_2, .int .i64 a1_3] 31 ?_; intro gb150 hg w32 hbox hb; have BK150 := aM hbox; have GW150 := aM (zq372 : w.heap.size ≤ gb150); have GE150 := GW150; replace HB := sB zq269 hb; have NB149_150 := aM (zq373 : gb149 ≠ gb150); have NB150_149 := aM (zq374 : gb150 ≠ gb149); replace BK149 := bG BK149 hb; clear hb hbox hg; have hnb33 := NB149_150.out; have hnc33 := NB150_149.out; obtain ⟨hcz34_0, hcz34_1, hcz34_2, hcz34_3, hfz34_0, hfz34_1, hfz34_2, hfz34_3⟩ := cells4_ (w := w32) BK149; obtain ⟨hcz35_0, hcz35_1, hcz35_2, hcz35_3, hfz35_0, hfz35_1, hfz35_2, hfz35_3⟩ := cells4_ (w := w32) BK150) | ((with_reducible refine gC 56 rfl ?_); refine gL 14 Try.func56 #[.slice A0_1 l0_1.length c0_1, .slice A1_1 l1_1.length c1_1] ?_; (with_reducible refine (laws_eqBlobS.calls k _ _ l0_1 _ _ l1_1 true _ ?_ ?_ ?_ ?_ A4.out).mono ?_); exact zq11; exact zq12; exact zq270; exact HC1_1.out; rintro e w36 ⟨rfl, hb⟩; refine ⟨_, rfl, ?_⟩; replace BK149 := bG BK149 hb; replace BK150 := bG BK150 hb; replace HB := sB zq272 hb; clear hb; obtain ⟨hcz37_0, hcz37_1, hcz37_2, hcz37_3, hfz37_0, hfz37_1, hfz37_2, hfz37_3⟩ := cells4_ (w := w36) BK149; obtain ⟨hcz38_0, hcz38_1, hcz38_2, hcz38_3, hfz38_0, hfz38_1, hfz38_2, hfz38_3⟩ := cells4_ (w := w36) BK150) | ((with_reducible refine gC 57 rfl ?_); refine gL 20 Try.func57 #[.slice A0_2 l0_2.length c0_2, .slice A1_2 l1_2.length c1_2] ?_; (with_reducible refine (laws_eqUploadS.calls k _ _ l0_2 _ _ l1_2 false _ ?_ ?_ ?_ ?_ A6.out).mono ?_); exact zq15; exact zq16; exact zq273; exact HC1_2.out; rintro e w39 ⟨rfl, hb⟩; refine ⟨_, rfl, ?_⟩; replace BK149 := bG BK149 hb; replace BK150 := bG BK150 hb; replace HB := sB zq272 hb; clear hb))
   go_ret; exact ⟨zq4, zq272⟩
  replace c5 := Bool.eq_false_iff.mpr c5; subst c5; rw [if_neg (show ¬ (false = true) by decide)] at H; obtain rfl := Option.some.inj H; go_enter Try.func19, Try.ntmps19
  go_wp2_with (first | ((with_reducible refine gD 2 rfl ?_); refine bE 2 #[.int .i64 a0_0, .slice A0_1 l0_1.length c0_1, .slice A0_2 l0_2.length c0_2, .int .i64 a0_3] 31 ?_; intro gb149 hg w40 hbox hb; have BK149 := aM hbox; have GW149 := aM (zq316 : w.heap.size ≤ gb149); have GE149 := GW149; replace HB := sB zq3 hb; clear hb hbox hg) | ((with_reducible refine gD 3 rfl ?_); refine bE 3 #[.int .i64 a1_0, .slice A1_1 l1_1.length c1_1, .slice A1_2 l1_2.length c1_2, .int .i64 a1_3] 31 ?_; intro gb150 hg w41 hbox hb; have BK150 := aM hbox; have GW150 := aM (zq372 : w.heap.size ≤ gb150); have GE150 := GW150; replace HB := sB zq269 hb; have NB149_150 := aM (zq373 : gb149 ≠ gb150); have NB150_149 := aM (zq374 : gb150 ≠ gb149); replace BK149 := bG BK149 hb; clear hb hbox hg; have hnb42 := NB149_150.out; have hnc42 := NB150_149.out; obtain ⟨hcz43_0, hcz43_1, hcz43_2, hcz43_3, hfz43_0, hfz43_1, hfz43_2, hfz43_3⟩ := cells4_ (w := w41) BK149; obtain ⟨hcz44_0, hcz44_1, hcz44_2, hcz44_3, hfz44_0, hfz44_1, hfz44_2, hfz44_3⟩ := cells4_ (w := w41) BK150) | ((with_reducible refine gC 56 rfl ?_); refine gL 14 Try.func56 #[.slice A0_1 l0_1.length c0_1, .slice A1_1 l1_1.length c1_1] ?_; (with_reducible refine (laws_eqBlobS.calls k _ _ l0_1 _ _ l1_1 false _ ?_ ?_ ?_ ?_ A4.out).mono ?_); exact zq11; exact zq12; exact zq270; exact HC1_1.out; rintro e w45 ⟨rfl, hb⟩; refine ⟨_, rfl, ?_⟩; replace BK149 := bG BK149 hb; replace BK150 := bG BK150 hb; replace HB := sB zq272 hb; clear hb))
  go_ret; exact ⟨zq4, zq272⟩
 rw [if_neg c3] at H; have c3b0 : (a0_0 == a1_0) = false := beq_eq_false_iff_ne.mpr c3; have c3b1 : (a0_0 != a1_0) = true := bne_iff_ne.mpr c3; obtain rfl := Option.some.inj H; go_enter Try.func19, Try.ntmps19
 go_wp2_with (first | ((with_reducible refine gD 2 rfl ?_); refine bE 2 #[.int .i64 a0_0, .slice A0_1 l0_1.length c0_1, .slice A0_2 l0_2.length c0_2, .int .i64 a0_3] 31 ?_; intro gb149 hg w46 hbox hb; have BK149 := aM hbox; have GW149 := aM (zq316 : w.heap.size ≤ gb149); have GE149 := GW149; replace HB := sB zq3 hb; clear hb hbox hg) | ((with_reducible refine gD 3 rfl ?_); refine bE 3 #[.int .i64 a1_0, .slice A1_1 l1_1.length c1_1, .slice A1_2 l1_2.length c1_2, .int .i64 a1_3] 31 ?_; intro gb150 hg w47 hbox hb; have BK150 := aM hbox; have GW150 := aM (zq372 : w.heap.size ≤ gb150); have GE150 := GW150; replace HB := sB zq269 hb; have NB149_150 := aM (zq373 : gb149 ≠ gb150); have NB150_149 := aM (zq374 : gb150 ≠ gb149); replace BK149 := bG BK149 hb; clear hb hbox hg; have hnb48 := NB149_150.out; have hnc48 := NB150_149.out; obtain ⟨hcz49_0, hcz49_1, hcz49_2, hcz49_3, hfz49_0, hfz49_1, hfz49_2, hfz49_3⟩ := cells4_ (w := w47) BK149; obtain ⟨hcz50_0, hcz50_1, hcz50_2, hcz50_3, hfz50_0, hfz50_1, hfz50_2, hfz50_3⟩ := cells4_ (w := w47) BK150))
 go_ret; exact ⟨zq4, zq272⟩
def laws_markText.l0 : Nat → Int → ByteArray → Option (ByteArray)
 | 0, _, _ => none
 | k + 1, x0, x3 => if x0 > 0 then ((some (([(wrap64 (48 + (Int.tmod x0 10))) % 256] : List Int) : List Int)).bind fun y153 => (if (strOfNums y153).size + x3.size ≤ 9223372036854775807 then (laws_markText.l0 k (wrap64 (Int.tdiv x0 10)) ((strOfNums y153) ++ x3)) else (none))) else (if 1 + x3.size ≤ 9223372036854775807 then (some ((⟨#[109]⟩ : ByteArray) ++ x3)) else (none))
def laws_markText.f (k : Nat) (a0 : Int) : Option (ByteArray) := if a0 ≤ 0 then (some (⟨#[109, 48]⟩ : ByteArray)) else (laws_markText.l0 k a0 (⟨#[]⟩ : ByteArray))
theorem laws_markText.mono_l : ∀ k, (∀ y0 y1, LeO (laws_markText.l0 k y0 y1) (laws_markText.l0 (k + 1) y0 y1))
 | 0 => fun _ _ r h => by simp [laws_markText.l0] at h
 | k + 1 => by
  have ih0 := laws_markText.mono_l k
  ·
   intro y0 y1; unfold laws_markText.l0
   repeat' first
   | (with_reducible apply ih0)
   | (with_reducible exact LeO.refl _)
   | (with_reducible exact LeO.none _)
   | (with_reducible refine LeO.ite ?_ ?_)
   | (with_reducible refine LeO.bind ?_ (fun _ => ?_))
   | exact LeO.none _
   | refine LeO.ite ?_ ?_
   | refine LeO.bind ?_ (fun _ => ?_)
theorem laws_markText.mono : ∀ a0 k, LeO (laws_markText.f k a0) (laws_markText.f (k + 1) a0) := by
 intro a0 k; have ih0 := laws_markText.mono_l k; unfold laws_markText.f
 repeat' first
   | (with_reducible apply ih0)
   | (with_reducible exact LeO.refl _)
   | (with_reducible exact LeO.none _)
   | (with_reducible refine LeO.ite ?_ ?_)
   | (with_reducible refine LeO.bind ?_ (fun _ => ?_))
   | exact LeO.none _
   | refine LeO.ite ?_ ?_
   | refine LeO.bind ?_ (fun _ => ?_)
set_option maxHeartbeats 8000000 in
set_option maxRecDepth 100000 in
theorem laws_markText.calls (k : Nat) (a0 : Int) (r : ByteArray) (w : World) (h : laws_markText.f k a0 = some r) :
  Calls Try.prog 63 #[.int .i64 a0] w fun e w' => e = .returned (.string r) ∧ Below w.heap.size w w' := by
 have HB := aM (Below.refl w.heap.size w); unfold laws_markText.f at h; have H := h; clear h; by_cases c2 : a0 ≤ 0
 ·
  rw [if_pos c2] at H; have c2b0 := decide_eq_true c2; clear c2; obtain rfl := Option.some.inj H; go_enter Try.func63, Try.ntmps63; go_wp2; go_ret; exact ⟨zq4, zq3⟩
 rw [if_neg c2] at H; have c2b0 := decide_eq_false c2; clear c2; have H' := aM H; clear H; go_enter Try.func63, Try.ntmps63; go_wp2
 go_loopg [0, 3] k (fun kq v0 v3 w' => ∃ (x0_1 : Int) (x3_1 : ByteArray), v0 = .int .i64 x0_1 ∧ v3 = .string x3_1 ∧ Aside0 (laws_markText.l0 kq x0_1 x3_1 = some r) ∧ Aside0 (kq ≤ k) ∧ Aside0 (Below w.heap.size w w'))
 case atStart => exact ⟨(a0), ((⟨#[]⟩ : ByteArray)), zq6, zq6, H', ⟨Nat.le_refl _⟩, ⟨zq3⟩⟩
 case round =>
  clear H'; (try clear c2); (try clear c2b0); (try clear p2); obtain ⟨x0_1, x3_1, rfl, rfl, HA, HK1, HB⟩ := hrel
  cases gk with
  | zero => exact absurd HA.out (by simp [laws_markText.l0])
  | succ k1 =>
   have H := HA.out; clear HA; simp only [laws_markText.l0] at H; by_cases c3 : x0_1 > 0
   ·
    rw [if_pos c3] at H; have c3b0 : decide (0 < x0_1) = true := decide_eq_true c3; clear c3; obtain ⟨y153, hy153⟩ : ∃ y_ : List Int, y_ = (([(wrap64 (48 + (Int.tmod x0_1 10))) % 256] : List Int)) := ⟨_, rfl⟩; have hy_ := hy153; replace H : (if (strOfNums y153).size + x3_1.size ≤ 9223372036854775807 then (laws_markText.l0 k1 (wrap64 (Int.tdiv x0_1 10)) ((strOfNums y153) ++ x3_1)) else (none)) = some r := hyE; clear hy_; have Ny153 := aM hy153; clear hy153; by_cases c4 : (strOfNums y153).size + x3_1.size ≤ 9223372036854775807
    ·
     rw [if_pos c4] at H; have c4b0 := eq_true c4; have c4b1 := decide_eq_true c4
     try have c4b2 : (9223372036854775807 < (strOfNums y153).size + x3_1.size) = False := eq_false (Nat.not_lt.2 c4)
     have H' := aM H; clear H
     go_wp2_with (first | ((with_reducible refine gD 12 rfl ?_); refine Kd.R_lit (Kd.int .u8) _ 5 ?hg (N := 12) ?hd (xs := ([(wrap64 (48 + (Int.tmod x0_1 10))) % 256] : List Int)) (inner := [.int .u8 ((wrap64 (48 + (Int.tmod x0_1 10))) % 256)]) (ok := fun _ => True) (okp := fun _ => True) ?hr ?hp (fun _ hk => hk) trivial (Below.refl _ _) (Nat.le_refl _) (by simp) ?_; (case hd => rfl); (case hg => rfl); (case hr => exact zq2); (case hp => exact (Reps.one (show Kd.M (Kd.int .u8) _ _ _ ((wrap64 (48 + (Int.tmod x0_1 10))) % 256) [.int .u8 ((wrap64 (48 + (Int.tmod x0_1 10))) % 256)] from rfl) (Reps.none _ _))); intro v154 w5 ho6 hb hg_ hnew_; clear hg_ hnew_; (first | rw [← Ny153.out] at ho6 | (simp only [Int.reduceToNat] at ho6; rw [← Ny153.out] at ho6)); have HO155 := aM (Kd.R_lower ho6 (below_size zq3)); replace HB := sB zq3 hb; clear hb ho6; have hcv7 := own_string (P := Try.prog) Try.underlying56 Try.underlying5 Try.underlying9 (Kd.own_of_R HO155.out)))
     go_roundg k1
     case measure => have := HK1.out; omega
     case rel => exact ⟨(wrap64 (Int.tdiv x0_1 10)), ((strOfNums y153) ++ x3_1), zq6, zq6, H', ⟨zq9⟩, ⟨zq3⟩⟩
    exact zq398
   rw [if_neg c3] at H; have c3b0 : decide (0 < x0_1) = false := decide_eq_false c3; clear c3; by_cases c8 : 1 + x3_1.size ≤ 9223372036854775807
   ·
    rw [if_pos c8] at H; have c8b0 := eq_true c8; have c8b1 := decide_eq_true c8
    try have c8b2 : (9223372036854775807 < 1 + x3_1.size) = False := eq_false (Nat.not_lt.2 c8)
    obtain rfl := Option.some.inj H; go_wp2; go_ret; exact ⟨zq4, zq3⟩
   exact zq402
def laws_markBlobS.l0 : Nat → List (S66) → Int → Int → Option (Int × (List (S66)))
 | 0, _, _, _ => none
 | k + 1, x0, x1, x5 => if x5 < (x0.length : Int) then ((laws_markText.f k x1).bind fun t156 => (if 0 ≤ x5 then ((some (x0.set (x5 : Int).toNat (⟨t156, (rd_T66 x0 x5).f1⟩ : S66) : List (S66))).bind fun y157 => ((laws_markText.f k (wrap64 (x1 + 1))).bind fun t158 => (laws_markBlobS.l0 k (y157.set (x5 : Int).toNat (⟨(rd_T66 y157 x5).f0, t158⟩ : S66)) (wrap64 ((wrap64 (x1 + 1)) + 1)) (wrap64 (x5 + 1))))) else (none))) else (some (x1, x0))
def laws_markBlobS.f (k : Nat) (l0 : List (S66)) (a1 : Int) : Option (Int × (List (S66))) := laws_markBlobS.l0 k l0 a1 0
theorem laws_markBlobS.mono_l : ∀ k, (∀ y0 y1 y2, LeO (laws_markBlobS.l0 k y0 y1 y2) (laws_markBlobS.l0 (k + 1) y0 y1 y2))
 | 0 => fun _ _ _ r h => by simp [laws_markBlobS.l0] at h
 | k + 1 => by
  have ih0 := laws_markBlobS.mono_l k
  ·
   intro y0 y1 y2; unfold laws_markBlobS.l0
   repeat' first
   | (with_reducible apply ih0)
   | (with_reducible apply laws_markText.mono)
   | (with_reducible exact LeO.refl _)
   | (with_reducible exact LeO.none _)
   | (with_reducible refine LeO.ite ?_ ?_)
   | (with_reducible refine LeO.bind ?_ (fun _ => ?_))
   | exact LeO.none _
   | refine LeO.ite ?_ ?_
   | refine LeO.bind ?_ (fun _ => ?_)
theorem laws_markBlobS.mono : ∀ a0 a1 k, LeO (laws_markBlobS.f k a0 a1) (laws_markBlobS.f (k + 1) a0 a1) := by
 intro a0 a1 k; have ih0 := laws_markBlobS.mono_l k; unfold laws_markBlobS.f
 repeat' first
   | (with_reducible apply ih0)
   | (with_reducible apply laws_markText.mono)
   | (with_reducible exact LeO.refl _)
   | (with_reducible exact LeO.none _)
   | (with_reducible refine LeO.ite ?_ ?_)
   | (with_reducible refine LeO.bind ?_ (fun _ => ?_))
   | exact LeO.none _
   | refine LeO.ite ?_ ?_
   | refine LeO.bind ?_ (fun _ => ?_)
set_option maxHeartbeats 8000000 in
set_option maxRecDepth 100000 in
theorem laws_markBlobS.calls (k : Nat) (P0_ : Nat → Prop) (u9000_ : Value) (l0 : List (S66)) (a1 : Int) (r1 : Int) (r2 : List (S66)) (w0 w : World) (hB : Below w0.heap.size w0 w) (ho0 : Kd.R k66 66 w w0.heap.size P0_ u9000_ l0) (h : laws_markBlobS.f k l0 a1 = some (r1, r2)) :
  Calls Try.prog 61 #[u9000_, .int .i64 a1] w fun e w' => e = .returned (.int .i64 r1) ∧ Kd.R k66 66 w' w0.heap.size (fun k_ => (P0_ k_ ∨ w.heap.size ≤ k_)) u9000_ r2 ∧ Below w0.heap.size w0 w' ∧ Kept w w' (fun k_ => P0_ k_) := by
 have HO0 := aM (show Kd.R k66 66 w w0.heap.size (fun k_ => (P0_ k_ ∨ w.heap.size ≤ k_)) u9000_ l0 from Kd.R_mono ho0 (fun k_ hk => (.inl hk))); have HK := aM (Kept.refl w (fun k_ => P0_ k_)); have HW0 := aM hB.size; have HB := aM hB; clear hB; have H : (laws_markBlobS.l0 k l0 a1 0) = some (r1, r2) := h; clear h; have H' := aM H; clear H; go_enter Try.func61, Try.ntmps61; go_wp2
 go_loopg [1, 5] k (fun kq v1 v5 w' => ∃ (x0_1 : List (S66)) (x1_1 : Int) (x5_1 : Int), v1 = .int .i64 x1_1 ∧ v5 = .int .i64 x5_1 ∧ Aside0 (laws_markBlobS.l0 kq x0_1 x1_1 x5_1 = some (r1, r2)) ∧ Aside0 (kq ≤ k) ∧ Aside0 (Kd.R k66 66 w' w0.heap.size (fun k_ => (P0_ k_ ∨ w.heap.size ≤ k_)) u9000_ x0_1) ∧ Aside0 (Kept w w' (fun k_ => P0_ k_)) ∧ Aside0 (Below w0.heap.size w0 w'))
 case atStart => exact ⟨(l0), (a1), (0), zq6, zq6, H', ⟨Nat.le_refl _⟩, ⟨zq274⟩, ⟨zq91⟩, ⟨zq3⟩⟩
 case round =>
  clear H'; (try clear p2); obtain ⟨x0_1, x1_1, x5_1, rfl, rfl, HA, HK1, HO_0, HK, HB⟩ := hrel
  cases gk with
  | zero => exact absurd HA.out (by simp [laws_markBlobS.l0])
  | succ k1 =>
   have H := HA.out; clear HA; simp only [laws_markBlobS.l0] at H; by_cases c3 : x5_1 < (x0_1.length : Int)
   ·
    rw [if_pos c3] at H; have c3b0 := decide_eq_true c3; clear c3; replace H := Option.bind_eq_some_iff.mp H; obtain ⟨t156, A40, H⟩ := H; (try dsimp only at H); have A4 := aM A40; clear A40; by_cases c5 : 0 ≤ x5_1
    ·
     rw [if_pos c5] at H; have c5b0 := decide_eq_true c5; clear c5; obtain ⟨y157, hy157⟩ : ∃ y_ : List (S66), y_ = (x0_1.set (x5_1 : Int).toNat (⟨t156, (rd_T66 x0_1 x5_1).f1⟩ : S66)) := ⟨_, rfl⟩; have hy_ := hy157; replace H : ((laws_markText.f k1 (wrap64 (x1_1 + 1))).bind fun t158 => (laws_markBlobS.l0 k1 (y157.set (x5_1 : Int).toNat (⟨(rd_T66 y157 x5_1).f0, t158⟩ : S66)) (wrap64 ((wrap64 (x1_1 + 1)) + 1)) (wrap64 (x5_1 + 1)))) = some (r1, r2) := hyE; clear hy_; have Ny157 := aM hy157; clear hy157; replace H := Option.bind_eq_some_iff.mp H; obtain ⟨t158, A70, H⟩ := H; (try dsimp only at H); have A7 := aM A70; clear A70; obtain ⟨y159, hy159⟩ : ∃ y_ : List (S66), y_ = (y157.set (x5_1 : Int).toNat (⟨(rd_T66 y157 x5_1).f0, t158⟩ : S66)) := ⟨_, rfl⟩; have hy_ := hy159; replace H : (laws_markBlobS.l0 k1 y159 (wrap64 ((wrap64 (x1_1 + 1)) + 1)) (wrap64 (x5_1 + 1))) = some (r1, r2) := hyE; clear hy_; have Ny159 := aM hy159; clear hy159; have H' := aM H; clear H; obtain ⟨Ao9, co9, eo9⟩ := Kd.R_slice HO_0.out; subst eo9
     go_wp2_with (first | ((with_reducible refine gC 63 rfl ?_); refine gL 15 Try.func63 #[.int .i64 x1_1] ?_; (with_reducible refine (laws_markText.calls k1 x1_1 t156 _ A4.out).mono ?_); rintro e w10 ⟨rfl, hb⟩; refine ⟨_, rfl, ?_⟩; replace HO_0 := rG HO_0 hb; replace HK := aM (Kept.below (S := (fun k_ => P0_ k_)) zq91 hb); replace HB := sB zq3 hb; clear hb; have p6 : 0 ≤ (x5_1 : Int) := of_decide_eq_true zq7; have q6 : (x5_1 : Int) < ((x0_1.length : Int) : Int) := of_decide_eq_true zq7; obtain ⟨go6, co6, eo6, gb6, gl6, cl6, HG6⟩ := Kd.R_form HO_0.out (by omega); (first | cases eo6 | (injection eo6 with ea_ en_ ec_; (first | subst ea_ | (injection ea_ with ea_; subst ea_)); subst ec_; clear en_)); have GB6 := aM gb6; have GG6 := aM HG6; clear gb6 gl6 HG6; have HMgo6 := aM (show (P0_ go6 ∨ w.heap.size ≤ go6) from (HO_0.out.1 _ rfl)); obtain ⟨ce6, hcl6, hM6, hcc6, hfr6⟩ := Kd.R_elem HO_0.out z66 (x5_1 : Int) p6 q6; obtain rfl := k66_openM hM6; have hx6_0 : w10.cell? ⟨go6, (x5_1 : Int).toNat * 2, none⟩ = some (.string ((rd_T66 x0_1 x5_1).f0)) := hcc6 0 _ rfl; have hx6_1 : w10.cell? ⟨go6, (x5_1 : Int).toNat * 2 + 1, none⟩ = some (.string ((rd_T66 x0_1 x5_1).f1)) := hcc6 1 _ rfl; have hf6_0 : w10.frozen? ⟨go6, (x5_1 : Int).toNat * 2, none⟩ = false := (hfr6 0 (by decide)); have hf6_1 : w10.frozen? ⟨go6, (x5_1 : Int).toNat * 2 + 1, none⟩ = false := (hfr6 1 (by decide)); clear hcl6 hcc6 hfr6 hM6; replace p6 := eq_true p6; replace q6 := eq_true q6; have HX11 := aM (show Kd.R k66 66 w10 w0.heap.size (fun k_ => (P0_ k_ ∨ w.heap.size ≤ k_)) (.slice (some ⟨go6, 0, none⟩) x0_1.length co9) x0_1 from zq275); obtain ⟨ce11, hcl11, hM11, hcc11, hfr11⟩ := Kd.R_elem HX11.out z66 (x5_1 : Int) (of_decide_eq_true zq7) zq375; obtain rfl := k66_openM hM11; have HP11 := Kd.R_seg HX11.out (x5_1 : Int) (of_decide_eq_true zq7) zq375 (seg := [.string t156]) (j := 0) hcl11 hcc11 (show 1 ≤ 2 from by decide) (x' := (⟨t156, (rd_T66 x0_1 x5_1).f1⟩ : S66)) (k66_mkM _ _ _ (⟨t156, (rd_T66 x0_1 x5_1).f1⟩ : S66) ) (fun _ hk => hk); have hx11_0 := hcc11 0 _ rfl; (try simp only [show (k66).sz = 2 from rfl, Nat.mul_one, Nat.add_zero] at hx11_0); have hf11_0 := (hfr11 0 (by decide)); (try simp only [show (k66).sz = 2 from rfl, Nat.mul_one, Nat.add_zero] at hf11_0); clear hcl11 hcc11 hfr11 hM11) | ((with_reducible refine gate_store (t := 9) (p := 17) rfl ?_); refine store_event (t := 9) (p := 17) (v := ?vo_w12) (w1 := (w10.setCell ⟨go6, (x5_1 : Int).toNat * 2, none⟩ (.string t156))) ?hg ?ho ?hn ?hr ?_; (case ho => rfl); (case hg => rfl); (case hn => rfl); (case hr => exact zq2); intro w12 hw; have hg : w10.grownBy w12 (some go6) := (by rw [hw]; exact HP11.2); have hp_ : Kd.R k66 66 w12 w0.heap.size (fun k_ => (P0_ k_ ∨ w.heap.size ≤ k_)) (.slice (some ⟨go6, 0, none⟩) x0_1.length co9) y157 := (by rw [hw, Ny157.out]; exact HP11.1); clear HP11; replace HB := aM (by rw [hw]; exact below_set (HB.out) GB6.out : Below w0.heap.size w0 w12); replace HK := aM (Kept.of_grown (S := (fun k_ => P0_ k_)) hg zq91 (fun k_ e_ => (HO_0.out.1 k_ e_))); replace HO_0 := aM hp_; clear hg hw hp_) | ((with_reducible refine gC 63 rfl ?_); refine gL 23 Try.func63 #[.int .i64 (wrap64 (x1_1 + 1))] ?_; (with_reducible refine (laws_markText.calls k1 (wrap64 (x1_1 + 1)) t158 _ A7.out).mono ?_); rintro e w13 ⟨rfl, hb⟩; refine ⟨_, rfl, ?_⟩; replace HO_0 := rG HO_0 hb; replace HK := aM (Kept.below (S := (fun k_ => P0_ k_)) zq91 hb); replace HB := sB zq3 hb; clear hb; have p8 : 0 ≤ (x5_1 : Int) := of_decide_eq_true zq7; have q8 : (x5_1 : Int) < ((x0_1.length : Int) : Int) := of_decide_eq_true zq7; obtain ⟨ce8, hcl8, hM8, hcc8, hfr8⟩ := Kd.R_elem HO_0.out z66 (x5_1 : Int) p8 q8; obtain rfl := k66_openM hM8; have hx8_0 : w13.cell? ⟨go6, (x5_1 : Int).toNat * 2, none⟩ = some (.string ((rd_T66 y157 x5_1).f0)) := hcc8 0 _ rfl; have hx8_1 : w13.cell? ⟨go6, (x5_1 : Int).toNat * 2 + 1, none⟩ = some (.string ((rd_T66 y157 x5_1).f1)) := hcc8 1 _ rfl; have hf8_0 : w13.frozen? ⟨go6, (x5_1 : Int).toNat * 2, none⟩ = false := (hfr8 0 (by decide)); have hf8_1 : w13.frozen? ⟨go6, (x5_1 : Int).toNat * 2 + 1, none⟩ = false := (hfr8 1 (by decide)); clear hcl8 hcc8 hfr8 hM8; replace p8 := eq_true p8; replace q8 := eq_true q8; have HX14 := aM (show Kd.R k66 66 w13 w0.heap.size (fun k_ => (P0_ k_ ∨ w.heap.size ≤ k_)) (.slice (some ⟨go6, 0, none⟩) x0_1.length co9) y157 from zq275); obtain ⟨ce14, hcl14, hM14, hcc14, hfr14⟩ := Kd.R_elem HX14.out z66 (x5_1 : Int) (of_decide_eq_true zq7) zq375; obtain rfl := k66_openM hM14; have HP14 := Kd.R_seg HX14.out (x5_1 : Int) (of_decide_eq_true zq7) zq375 (seg := [.string t158]) (j := 1) hcl14 hcc14 (show 2 ≤ 2 from by decide) (x' := (⟨(rd_T66 y157 x5_1).f0, t158⟩ : S66)) (k66_mkM _ _ _ (⟨(rd_T66 y157 x5_1).f0, t158⟩ : S66) ) (fun _ hk => hk); have hx14_1 := hcc14 1 _ rfl; (try simp only [show (k66).sz = 2 from rfl, Nat.mul_one, Nat.add_zero] at hx14_1); have hf14_1 := (hfr14 1 (by decide)); (try simp only [show (k66).sz = 2 from rfl, Nat.mul_one, Nat.add_zero] at hf14_1); clear hcl14 hcc14 hfr14 hM14) | ((with_reducible refine gate_store (t := 9) (p := 25) rfl ?_); refine store_event (t := 9) (p := 25) (v := ?vo_w15) (w1 := (w13.setCell ⟨go6, (x5_1 : Int).toNat * 2 + 1, none⟩ (.string t158))) ?hg ?ho ?hn ?hr ?_; (case ho => rfl); (case hg => rfl); (case hn => rfl); (case hr => exact zq2); intro w15 hw; have hg : w13.grownBy w15 (some go6) := (by rw [hw]; exact HP14.2); have hp_ : Kd.R k66 66 w15 w0.heap.size (fun k_ => (P0_ k_ ∨ w.heap.size ≤ k_)) (.slice (some ⟨go6, 0, none⟩) x0_1.length co9) y159 := (by rw [hw, Ny159.out]; exact HP14.1); clear HP14; replace HB := aM (by rw [hw]; exact below_set (HB.out) GB6.out : Below w0.heap.size w0 w15); replace HK := aM (Kept.of_grown (S := (fun k_ => P0_ k_)) hg zq91 (fun k_ e_ => (HO_0.out.1 k_ e_))); replace HO_0 := aM hp_; clear hg hw hp_))
     go_roundg k1
     case measure => have := HK1.out; omega
     case rel => exact ⟨(y159), (wrap64 ((wrap64 (x1_1 + 1)) + 1)), (wrap64 (x5_1 + 1)), zq6, zq6, H', ⟨zq9⟩, ⟨zq275⟩, ⟨zq91⟩, ⟨zq3⟩⟩
    exact zq384
   rw [if_neg c3] at H; have c3b0 := decide_eq_false c3; clear c3; simp only [Option.some.injEq, Prod.mk.injEq] at H; obtain ⟨rfl, rfl⟩ := H; obtain ⟨Ao16, co16, eo16⟩ := Kd.R_slice HO_0.out; subst eo16; go_wp2; go_ret; exact ⟨zq4, zq275, zq3, zq91⟩
end Go.Proofs.Ytacaeebjanglgaa.QFnExactKeep
