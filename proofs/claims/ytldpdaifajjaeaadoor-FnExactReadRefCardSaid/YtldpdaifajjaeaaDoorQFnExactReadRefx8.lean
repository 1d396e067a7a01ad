/- Written by wip/myprint.py of this repo (the kit's print, with additions of this session). -/
import Derived.Test.YtldpdaifajjaeaaDoorQFnExactReadRefx0
import Derived.Test.YtldpdaifajjaeaaDoorQFnExactReadRefx4
import Derived.Test.YtldpdaifajjaeaaDoorQFnExactReadRefx5
import Derived.Test.YtldpdaifajjaeaaDoorQFnExactReadRefx6
import Derived.Test.YtldpdaifajjaeaaDoorQFnExactReadRefx7
set_option maxRecDepth 100000
namespace Go.Proofs.YtldpdaifajjaeaaDoor.QFnExactReadRef
open Go.RowKit Go.Proofs.YtldpdaifajjaeaaDoorW.PrintWords Go.Proofs.YtldpdaifajjaeaaDoorW.PrintLast Go.Proofs.YtldpdaifajjaeaaDoorW.PrintMore
attribute [local go_sem] max2_int min2_int max_two min_two max_three min_three max_four min_four   -- for this text's walks alone
set_option linter.unusedVariables false
set_option linter.unusedSimpArgs false

/-! ### impl_ReadRef: function 15 -/
mutual
def impl_ReadRef.j0 : Nat → ByteArray → Int → Option (ByteArray × ByteArray × ByteArray × Int)
 | 0, _, _ => none
 | k + 1, x0, x4 => if 0 ≤ x4 then (if x4 ≤ (x0.size : Int) then ((strings_Cut.f x0 (⟨#[64]⟩ : ByteArray)).bind fun bt154 => ((impl_isRepo.f k (x0.extract 0 (x4 : Int).toNat)).bind fun t157 => (if t157 = true then (if x4 < (x0.size : Int) then (impl_ReadRef.j1 k x4 bt154.1 bt154.2.1 bt154.2.2 ((bt x0 x4) == 58) (x0.extract 0 (x4 : Int).toNat) (⟨#[]⟩ : ByteArray) (⟨#[]⟩ : ByteArray)) else (impl_ReadRef.j1 k x4 bt154.1 bt154.2.1 bt154.2.2 false (x0.extract 0 (x4 : Int).toNat) (⟨#[]⟩ : ByteArray) (⟨#[]⟩ : ByteArray))) else (some ((⟨#[]⟩ : ByteArray), (⟨#[]⟩ : ByteArray), (⟨#[]⟩ : ByteArray), 1))))) else (none)) else (none)
def impl_ReadRef.j1 : Nat → Int → ByteArray → ByteArray → Bool → Bool → ByteArray → ByteArray → ByteArray → Option (ByteArray × ByteArray × ByteArray × Int)
 | 0, _, _, _, _, _, _, _, _ => none
 | k + 1, x4, x6, x7, x8, x39, x154000, x154001, x154002 => if x39 = true then (if 0 ≤ (wrap64 (x4 + 1)) then (if (wrap64 (x4 + 1)) ≤ (x6.size : Int) then ((impl_isTag.f k (x6.extract ((wrap64 (x4 + 1)) : Int).toNat x6.size)).bind fun t158 => (if t158 = true then (impl_ReadRef.j2 k x7 x8 x154000 (x6.extract ((wrap64 (x4 + 1)) : Int).toNat x6.size) x154002) else (some ((⟨#[]⟩ : ByteArray), (⟨#[]⟩ : ByteArray), (⟨#[]⟩ : ByteArray), 2)))) else (none)) else (none)) else (impl_ReadRef.j2 k x7 x8 x154000 x154001 x154002)
def impl_ReadRef.j2 : Nat → ByteArray → Bool → ByteArray → ByteArray → ByteArray → Option (ByteArray × ByteArray × ByteArray × Int)
 | 0, _, _, _, _, _ => none
 | k + 1, x7, x8, x154000, x154001, x154002 => if x8 = true then ((impl_isDigest.f x7).bind fun t159 => (if t159 = true then (some (x154000, x154001, x7, 0)) else (some ((⟨#[]⟩ : ByteArray), (⟨#[]⟩ : ByteArray), (⟨#[]⟩ : ByteArray), 3)))) else (some (x154000, x154001, x154002, 0))
end
def impl_ReadRef.f (k : Nat) (a0 : ByteArray) : Option (ByteArray × ByteArray × ByteArray × Int) := (strings_IndexAny.f a0 (⟨#[58, 64]⟩ : ByteArray)).bind fun t152 => (if t152 < 0 then (impl_ReadRef.j0 k a0 (a0.size : Int)) else (impl_ReadRef.j0 k a0 t152))
theorem impl_ReadRef.mono_l : ∀ k, (∀ y0 y1, LeO (impl_ReadRef.j0 k y0 y1) (impl_ReadRef.j0 (k + 1) y0 y1)) ∧ (∀ y0 y1 y2 y3 y4 y5 y6 y7, LeO (impl_ReadRef.j1 k y0 y1 y2 y3 y4 y5 y6 y7) (impl_ReadRef.j1 (k + 1) y0 y1 y2 y3 y4 y5 y6 y7)) ∧ (∀ y0 y1 y2 y3 y4, LeO (impl_ReadRef.j2 k y0 y1 y2 y3 y4) (impl_ReadRef.j2 (k + 1) y0 y1 y2 y3 y4))
 | 0 => ⟨fun _ _ r h => by simp [impl_ReadRef.j0] at h, fun _ _ _ _ _ _ _ _ r h => by simp [impl_ReadRef.j1] at h, fun _ _ _ _ _ r h => by simp [impl_ReadRef.j2] at h⟩
 | k + 1 => by
  obtain ⟨ih0, ih1, ih2⟩ := impl_ReadRef.mono_l k; refine ⟨?_, ?_, ?_⟩
  ·
   intro y0 y1; unfold impl_ReadRef.j0
   repeat' first
   | (with_reducible apply ih0)
   | (with_reducible apply ih1)
   | (with_reducible apply ih2)
   | (with_reducible apply impl_isRepo.mono)
   | (with_reducible apply impl_isTag.mono)
   | (with_reducible exact LeO.refl _)
   | (with_reducible exact LeO.none _)
   | (with_reducible refine LeO.ite ?_ ?_)
   | (with_reducible refine LeO.bind ?_ (fun _ => ?_))
   | exact LeO.none _
   | refine LeO.ite ?_ ?_
   | refine LeO.bind ?_ (fun _ => ?_)
  ·
   intro y0 y1 y2 y3 y4 y5 y6 y7; unfold impl_ReadRef.j1
   repeat' first
   | (with_reducible apply ih0)
   | (with_reducible apply ih1)
   | (with_reducible apply ih2)
   | (with_reducible apply impl_isRepo.mono)
   | (with_reducible apply impl_isTag.mono)
   | (with_reducible exact LeO.refl _)
   | (with_reducible exact LeO.none _)
   | (with_reducible refine LeO.ite ?_ ?_)
   | (with_reducible refine LeO.bind ?_ (fun _ => ?_))
   | exact LeO.none _
   | refine LeO.ite ?_ ?_
   | refine LeO.bind ?_ (fun _ => ?_)
  intro y0 y1 y2 y3 y4; unfold impl_ReadRef.j2
  repeat' first
  | (with_reducible apply ih0)
  | (with_reducible apply ih1)
  | (with_reducible apply ih2)
  | (with_reducible apply impl_isRepo.mono)
  | (with_reducible apply impl_isTag.mono)
  | (with_reducible exact LeO.refl _)
  | (with_reducible exact LeO.none _)
  | (with_reducible refine LeO.ite ?_ ?_)
  | (with_reducible refine LeO.bind ?_ (fun _ => ?_))
  | exact LeO.none _
  | refine LeO.ite ?_ ?_
  | refine LeO.bind ?_ (fun _ => ?_)
theorem impl_ReadRef.mono : ∀ a0 k, LeO (impl_ReadRef.f k a0) (impl_ReadRef.f (k + 1) a0) := by
 intro a0 k; obtain ⟨ih0, ih1, ih2⟩ := impl_ReadRef.mono_l k; unfold impl_ReadRef.f
 repeat' first
   | (with_reducible apply ih0)
   | (with_reducible apply ih1)
   | (with_reducible apply ih2)
   | (with_reducible apply impl_isRepo.mono)
   | (with_reducible apply impl_isTag.mono)
   | (with_reducible exact LeO.refl _)
   | (with_reducible exact LeO.none _)
   | (with_reducible refine LeO.ite ?_ ?_)
   | (with_reducible refine LeO.bind ?_ (fun _ => ?_))
   | exact LeO.none _
   | refine LeO.ite ?_ ?_
   | refine LeO.bind ?_ (fun _ => ?_)
set_option maxHeartbeats 8000000 in
set_option maxRecDepth 100000 in
theorem impl_ReadRef.calls (k : Nat) (a0 : ByteArray) (r1 : ByteArray) (r2 : ByteArray) (r3 : ByteArray) (r4 : Int) (w : World) (h : impl_ReadRef.f k a0 = some (r1, r2, r3, r4)) :
  Calls Tryd.prog 15 #[.string a0] w fun e w' => e = .returned (.tuple #[.agg #[.string r1, .string r2, .string r3], .int .i64 r4]) ∧ Below w.heap.size w w' := by
 have hu27 := Tryd.underlying27; have HB := aM (Below.refl w.heap.size w); unfold impl_ReadRef.f at h; have H := h; clear h; replace H := Option.bind_eq_some_iff.mp H; obtain ⟨t152, A20, H⟩ := H; (try dsimp only at H); have A2 := aM A20; clear A20; have HC3 := aM H; clear H; go_enter Tryd.func15, Tryd.ntmps15
 go_upto_if 12 with (first | ((with_reducible refine gD 2 rfl ?_); refine bE 2 #[.string (⟨#[]⟩ : ByteArray), .string (⟨#[]⟩ : ByteArray), .string (⟨#[]⟩ : ByteArray)] 27 ?_; intro gb151 hg w4 hbox hb; have BK151 := aM hbox; have GW151 := aM (zq47 : w.heap.size ≤ gb151); have GE151 := GW151; replace HB := sB zq2 hb; clear hb hbox hg) | ((with_reducible refine gC 35 rfl ?_); refine gL 10 Tryd.func35 #[.string a0, .string (⟨#[58, 64]⟩ : ByteArray)] ?_; (with_reducible refine (strings_IndexAny.calls a0 (⟨#[58, 64]⟩ : ByteArray) t152 _ A2.out).mono ?_); rintro e w5 ⟨rfl, hb⟩; refine ⟨_, rfl, ?_⟩; replace BK151 := bG BK151 hb; replace HB := sB zq27 hb; clear hb))
 (try simp only [Act.put, List.setIfInBounds_toArray, List.set_cons_zero, List.set_cons_succ])
 go_cut [4] (fun v4 wc => ∃ (kq : Nat) (x4_2 : Int), v4 = .int .i64 x4_2 ∧ Aside0 (impl_ReadRef.j0 kq a0 x4_2 = some (r1, r2, r3, r4)) ∧ Aside0 (kq ≤ k) ∧ Aside0 (wc.heap[gb151]? = some (.cells #[.string (⟨#[]⟩ : ByteArray), .string (⟨#[]⟩ : ByteArray), .string (⟨#[]⟩ : ByteArray)] 27 (0, 0))) ∧ Aside0 (Below w.heap.size w wc))
 case first =>
  have H := HC3.out; clear HC3; by_cases c6 : t152 < 0
  ·
   rw [if_pos c6] at H; have c6b0 := decide_eq_true c6; clear c6
   (first | rw [c6b0] | (simp only [i64_w, i32_w]; rw [c6b0]) | skip)
   have H' := aM H; clear H; go_wp2
   go_meet
   case rel => exact ⟨_, ((a0.size : Int)), zq3, H', ⟨zq10⟩, ⟨zq26⟩, ⟨zq27⟩⟩
  rw [if_neg c6] at H; have c6b0 := decide_eq_false c6; clear c6
  (first | rw [c6b0] | (simp only [i64_w, i32_w]; rw [c6b0]) | skip)
  have H' := aM H; clear H; go_wp2
  go_meet
  case rel => exact ⟨_, (t152), zq3, H', ⟨zq10⟩, ⟨zq26⟩, ⟨zq27⟩⟩
 case rest =>
  clear HC3; (try clear c1); (try clear p2); (try clear c3); (try clear c6); (try clear c6b0); obtain ⟨kq, x4_2, rfl, HA, HJ2, BK151, HB⟩ := hcut
  cases kq with
  | zero => exact absurd HA.out (by simp [impl_ReadRef.j0])
  | succ kj2 =>
   have H := HA.out; clear HA; simp only [impl_ReadRef.j0] at H; by_cases c7 : 0 ≤ x4_2
   ·
    rw [if_pos c7] at H; have c7b0 := eq_true c7; have c7b1 := decide_eq_true c7; clear c7; by_cases c8 : x4_2 ≤ (a0.size : Int)
    ·
     rw [if_pos c8] at H; have c8b0 := eq_true c8; have c8b1 := decide_eq_true c8; clear c8; replace H := Option.bind_eq_some_iff.mp H; obtain ⟨⟨t154, t155, t156⟩, A90, H⟩ := H; (try dsimp only at H); have A9 := aM A90; clear A90; replace H := Option.bind_eq_some_iff.mp H; obtain ⟨t157, A100, H⟩ := H; (try dsimp only at H); have A10 := aM A100; clear A100; by_cases c11 : t157 = true
     ·
      subst c11; rw [if_pos rfl] at H; have HC12 := aM H; clear H
      go_upto_region 8 with (first | ((with_reducible refine gD 5 rfl ?_); refine bE 5 #[.string (⟨#[]⟩ : ByteArray), .string (⟨#[]⟩ : ByteArray), .string (⟨#[]⟩ : ByteArray)] 27 ?_; intro gb153 hg w13 hbox hb; have BK153 := aM hbox; have GW153 := aM (zq56 : w.heap.size ≤ gb153); have GE153 := GW153; replace HB := sB zq27 hb; have NB151_153 := aM (zq57 : gb151 ≠ gb153); have NB153_151 := aM (zq58 : gb153 ≠ gb151); replace BK151 := bG BK151 hb; clear hb hbox hg; have hnb14 := NB153_151.out; have hnc14 := NB151_153.out; obtain ⟨hcz15_0, hcz15_1, hcz15_2, hfz15_0, hfz15_1, hfz15_2⟩ := cells3_ (w := w13) BK153) | ((with_reducible refine gC 36 rfl ?_); refine gL 21 Tryd.func36 #[.string a0, .string (⟨#[64]⟩ : ByteArray)] ?_; (with_reducible refine (strings_Cut.calls a0 (⟨#[64]⟩ : ByteArray) t154 t155 t156 _ A9.out).mono ?_); rintro e w' ⟨rfl, ⟨nd, rfl⟩⟩; refine ⟨_, rfl, ?_⟩) | ((with_reducible refine gC 28 rfl ?_); refine gL 27 Tryd.func28 #[.string (a0.extract 0 (x4_2 : Int).toNat)] ?_; (with_reducible refine (impl_isRepo.calls kj2 (a0.extract 0 (x4_2 : Int).toNat) true _ A10.out).mono ?_); rintro e w16 ⟨rfl, hb⟩; refine ⟨_, rfl, ?_⟩; replace BK151 := bF BK151 zq28 hb; replace BK153 := bB (g := gb153) (o := .cells #[.string (a0.extract 0 (x4_2 : Int).toNat), .string (⟨#[]⟩ : ByteArray), .string (⟨#[]⟩ : ByteArray)] 27 (0, 0)) zq29 hb; replace HB := sB zq30 hb; clear hb))
      (try simp only [Act.put, List.setIfInBounds_toArray, List.set_cons_zero, List.set_cons_succ])
      go_cut [39] (fun v39 wc => ∃ (kq : Nat) (x39_11 : Bool), v39 = .bool x39_11 ∧ Aside0 (impl_ReadRef.j1 kq x4_2 t154 t155 t156 x39_11 (a0.extract 0 (x4_2 : Int).toNat) (⟨#[]⟩ : ByteArray) (⟨#[]⟩ : ByteArray) = some (r1, r2, r3, r4)) ∧ Aside0 (kq ≤ kj2) ∧ Aside0 (wc.heap[gb151]? = some (.cells #[.string (⟨#[]⟩ : ByteArray), .string (⟨#[]⟩ : ByteArray), .string (⟨#[]⟩ : ByteArray)] 27 (0, 0))) ∧ Aside0 (wc.heap[gb153]? = some (.cells #[.string (a0.extract 0 (x4_2 : Int).toNat), .string (⟨#[]⟩ : ByteArray), .string (⟨#[]⟩ : ByteArray)] 27 (0, 0))) ∧ Aside0 (Below w.heap.size w wc))
      case first =>
       have H := HC12.out; clear HC12; by_cases c17 : x4_2 < (a0.size : Int)
       ·
        rw [if_pos c17] at H; have c17b0 := decide_eq_true c17; clear c17
        (first | rw [c17b0] | (simp only [i64_w, i32_w]; rw [c17b0]) | skip)
        have H' := aM H; clear H; have p18 : 0 ≤ (x4_2 : Int) := of_decide_eq_true zq4; have q18 : x4_2 < (a0.size : Int) := of_decide_eq_true zq4; have hx18 := bt_at a0 x4_2; replace p18 := eq_true p18; replace q18 := eq_true q18; go_wp2
        go_meet
        case rel => exact ⟨_, (((bt a0 x4_2) == 58)), zq3, H', ⟨by have := HJ2.out; first | omega | exact Nat.le_refl _⟩, ⟨zq26⟩, ⟨zq31⟩, ⟨zq30⟩⟩
       rw [if_neg c17] at H; have c17b0 := decide_eq_false c17; clear c17
       (first | rw [c17b0] | (simp only [i64_w, i32_w]; rw [c17b0]) | skip)
       have H' := aM H; clear H; go_wp2
       go_meet
       case rel => exact ⟨_, (false), zq3, H', ⟨by have := HJ2.out; first | omega | exact Nat.le_refl _⟩, ⟨zq26⟩, ⟨zq31⟩, ⟨zq30⟩⟩
      case rest =>
       clear HC12; (try clear c1); (try clear p1); (try clear q1); (try clear hx1); (try clear c2); (try clear p2); (try clear c3); (try clear c6); (try clear c6b0); (try clear c7); (try clear c7b0); (try clear c7b1); (try clear c8); (try clear c8b0); (try clear c8b1); (try clear c11); (try clear c14); (try clear c15); (try clear c17); (try clear c17b0); (try clear p18); (try clear q18); (try clear hx18); (try clear hcz15_0); (try clear hcz15_1); (try clear hcz15_2); (try clear hfz15_0); (try clear hfz15_1); (try clear hfz15_2); (try clear p18); (try clear p2); (try clear q18); obtain ⟨kq, x39_11, rfl, HA, HJ11, BK151, BK153, HB⟩ := hcut
       cases kq with
       | zero => exact absurd HA.out (by simp [impl_ReadRef.j1])
       | succ kj11 =>
        have H := HA.out; clear HA; simp only [impl_ReadRef.j1] at H; have HC19 := aM H; clear H
        go_upto_if 39 with (fail)
        go_cut [] (fun wc => ∃ (kq : Nat) (x152000_18 : ByteArray) (x152001_18 : ByteArray) (x152002_18 : ByteArray) (x154001_18 : ByteArray), Aside0 (impl_ReadRef.j2 kq t155 t156 (a0.extract 0 (x4_2 : Int).toNat) x154001_18 (⟨#[]⟩ : ByteArray) = some (r1, r2, r3, r4)) ∧ Aside0 (kq ≤ kj11) ∧ Aside0 (wc.heap[gb151]? = some (.cells #[.string x152000_18, .string x152001_18, .string x152002_18] 27 (0, 0))) ∧ Aside0 (wc.heap[gb153]? = some (.cells #[.string (a0.extract 0 (x4_2 : Int).toNat), .string x154001_18, .string (⟨#[]⟩ : ByteArray)] 27 (0, 0))) ∧ Aside0 (Below w.heap.size w wc))
        case first =>
         have H := HC19.out; clear HC19; by_cases c20 : x39_11 = true
         ·
          subst c20; rw [if_pos rfl] at H; obtain ⟨ji21, hji21⟩ : ∃ j_ : Int, (wrap64 (x4_2 + 1)) = j_ := ⟨_, rfl⟩; replace H : (if 0 ≤ (ji21) then (if (ji21) ≤ (t154.size : Int) then ((impl_isTag.f kj11 (t154.extract ((ji21) : Int).toNat t154.size)).bind fun t158 => (if t158 = true then (impl_ReadRef.j2 kj11 t155 t156 (a0.extract 0 (x4_2 : Int).toNat) (t154.extract ((ji21) : Int).toNat t154.size) (⟨#[]⟩ : ByteArray)) else (some ((⟨#[]⟩ : ByteArray), (⟨#[]⟩ : ByteArray), (⟨#[]⟩ : ByteArray), 2)))) else (none)) else (none)) = some (r1, r2, r3, r4) := by first | (rw [hji21] at H; exact H) | (simp only [hji21] at H ⊢; exact H)
          have hji21w : (IntKind.i64.wrap (x4_2 + 1)) = ji21 := (i64_w _).trans hji21; by_cases c22 : 0 ≤ (ji21)
          ·
           rw [if_pos c22] at H; have c22b0 := eq_true c22; have c22b1 := decide_eq_true c22; clear c22; by_cases c23 : (ji21) ≤ (t154.size : Int)
           ·
            rw [if_pos c23] at H; have c23b0 := eq_true c23; have c23b1 := decide_eq_true c23; clear c23; replace H := Option.bind_eq_some_iff.mp H; obtain ⟨t158, A240, H⟩ := H; (try dsimp only at H); have A24 := aM A240; clear A240; by_cases c25 : t158 = true
            ·
             subst c25; rw [if_pos rfl] at H; have H' := aM H; clear H; have hnb26 := NB153_151.out; have hnc26 := NB151_153.out; obtain ⟨hcz27_0, hcz27_1, hcz27_2, hfz27_0, hfz27_1, hfz27_2⟩ := cells3_ (w := wc) BK153
             go_wp2_with (first | ((with_reducible refine gC 30 rfl ?_); refine gL 47 Tryd.func30 #[.string (t154.extract ((ji21) : Int).toNat t154.size)] ?_; (with_reducible refine (impl_isTag.calls kj11 (t154.extract ((ji21) : Int).toNat t154.size) true _ A24.out).mono ?_); rintro e w' ⟨rfl, ⟨nd, rfl⟩⟩; refine ⟨_, rfl, ?_⟩))
             go_meet
             case rel => exact ⟨_, ((⟨#[]⟩ : ByteArray)), ((⟨#[]⟩ : ByteArray)), ((⟨#[]⟩ : ByteArray)), (t154.extract ((ji21) : Int).toNat t154.size), H', ⟨zq33⟩, ⟨zq34⟩, ⟨by refine dW ?_; refine blk_put (cs := #[.string (a0.extract 0 (x4_2 : Int).toNat), .string (⟨#[]⟩ : ByteArray), .string (⟨#[]⟩ : ByteArray)]) ?_ 1 _ rfl; refine dW ?_; exact BK153.out⟩, ⟨zq30⟩⟩
            replace c25 := Bool.eq_false_iff.mpr c25; subst c25; rw [if_neg (show ¬ (false = true) by decide)] at H; simp only [Option.some.injEq, Prod.mk.injEq] at H; obtain ⟨rfl, rfl, rfl, rfl⟩ := H; have hnb28 := NB153_151.out; have hnc28 := NB151_153.out; obtain ⟨hcz29_0, hcz29_1, hcz29_2, hfz29_0, hfz29_1, hfz29_2⟩ := cells3_ (w := wc) BK153
            go_wp2_with (first | ((with_reducible refine gC 30 rfl ?_); refine gL 47 Tryd.func30 #[.string (t154.extract ((ji21) : Int).toNat t154.size)] ?_; (with_reducible refine (impl_isTag.calls kj11 (t154.extract ((ji21) : Int).toNat t154.size) false _ A24.out).mono ?_); rintro e w' ⟨rfl, ⟨nd, rfl⟩⟩; refine ⟨_, rfl, ?_⟩; obtain ⟨hcz30_0, hcz30_1, hcz30_2, hfz30_0, hfz30_1, hfz30_2⟩ := cells3_ (w := wc) BK151))
            refine bodyPost_ret (results_ct rfl _ _ gb151 27 #[.string (⟨#[]⟩ : ByteArray), .string (⟨#[]⟩ : ByteArray), .string (⟨#[]⟩ : ByteArray)] (0, 0) _ rfl (by refine dW ?_; refine blk_put (cs := #[.string (⟨#[]⟩ : ByteArray), .string (⟨#[]⟩ : ByteArray), .string (⟨#[]⟩ : ByteArray)]) ?_ 2 _ rfl; refine dW ?_; refine blk_put (cs := #[.string (⟨#[]⟩ : ByteArray), .string (⟨#[]⟩ : ByteArray), .string (⟨#[]⟩ : ByteArray)]) ?_ 1 _ rfl; refine dW ?_; refine blk_put (cs := #[.string (⟨#[]⟩ : ByteArray), .string (⟨#[]⟩ : ByteArray), .string (⟨#[]⟩ : ByteArray)]) ?_ 0 _ rfl; refine dW ?_; refine blk_far ?_ NB151_153.out _; refine dW ?_; exact BK151.out) Tryd.underlying27 rfl (by kernel_rfl)) rfl ?_; exact ⟨by first | rfl | (simp [errW_none, errW_some] <;> rfl) | (simp only [← hji21]; first | rfl | (simp [errW_none, errW_some] <;> rfl)) | (simp [*, errW_none, errW_some] <;> rfl), zq30⟩
           rw [if_neg c23] at H; exact absurd H (by simp)
          rw [if_neg c22] at H; exact absurd H (by simp)
         replace c20 := Bool.eq_false_iff.mpr c20; subst c20; rw [if_neg (show ¬ (false = true) by decide)] at H; have H' := aM H; clear H; go_wp2
         go_meet
         case rel => exact ⟨_, ((⟨#[]⟩ : ByteArray)), ((⟨#[]⟩ : ByteArray)), ((⟨#[]⟩ : ByteArray)), ((⟨#[]⟩ : ByteArray)), H', ⟨zq33⟩, ⟨zq26⟩, ⟨zq31⟩, ⟨zq30⟩⟩
        case rest =>
         clear HC19; (try clear c1); (try clear p1); (try clear q1); (try clear hx1); (try clear c2); (try clear p2); (try clear c3); (try clear c6); (try clear c6b0); (try clear p6); (try clear c7); (try clear c7b0); (try clear c7b1); (try clear c8); (try clear c8b0); (try clear c8b1); (try clear c11); (try clear c14); (try clear c15); (try clear c17); (try clear c17b0); (try clear p18); (try clear q18); (try clear hx18); (try clear c20); (try clear c22); (try clear c22b0); (try clear c22b1); (try clear c23); (try clear c23b0); (try clear c23b1); (try clear c25); (try clear c26); (try clear c28); (try clear c30); (try clear hcz15_0); (try clear hcz15_1); (try clear hcz15_2); (try clear hcz27_0); (try clear hcz27_1); (try clear hcz27_2); (try clear hcz29_0); (try clear hcz29_1); (try clear hcz29_2); (try clear hcz30_0); (try clear hcz30_1); (try clear hcz30_2); (try clear hfz15_0); (try clear hfz15_1); (try clear hfz15_2); (try clear hfz27_0); (try clear hfz27_1); (try clear hfz27_2); (try clear hfz29_0); (try clear hfz29_1); (try clear hfz29_2); (try clear hfz30_0); (try clear hfz30_1); (try clear hfz30_2); (try clear p1); (try clear p18); (try clear p2); (try clear q1); (try clear q18); obtain ⟨kq, x152000_18, x152001_18, x152002_18, x154001_18, HA, HJ18, BK151, BK153, HB⟩ := hcut
         cases kq with
         | zero => exact absurd HA.out (by simp [impl_ReadRef.j2])
         | succ kj18 =>
          have H := HA.out; clear HA; simp only [impl_ReadRef.j2] at H; by_cases c31 : t156 = true
          ·
           subst c31; rw [if_pos rfl] at H; replace H := Option.bind_eq_some_iff.mp H; obtain ⟨t159, A320, H⟩ := H; (try dsimp only at H); have A32 := aM A320; clear A320; by_cases c33 : t159 = true
           ·
            subst c33; rw [if_pos rfl] at H; simp only [Option.some.injEq, Prod.mk.injEq] at H; obtain ⟨rfl, rfl, rfl, rfl⟩ := H; have hnb34 := NB153_151.out; have hnc34 := NB151_153.out; obtain ⟨hcz35_0, hcz35_1, hcz35_2, hfz35_0, hfz35_1, hfz35_2⟩ := cells3_ (w := wc) BK153
            go_wp2_with (first | ((with_reducible refine gC 31 rfl ?_); refine gL 54 Tryd.func31 #[.string t155] ?_; (with_reducible refine (impl_isDigest.calls t155 true _ A32.out).mono ?_); rintro e w36 ⟨rfl, hb⟩; refine ⟨_, rfl, ?_⟩; replace BK151 := bF BK151 zq34 hb; replace BK153 := bB (g := gb153) (o := .cells #[.string (a0.extract 0 (x4_2 : Int).toNat), .string x154001_18, .string t155] 27 (0, 0)) zq35 hb; replace HB := sB zq30 hb; clear hb; obtain ⟨hcz37_0, hcz37_1, hcz37_2, hfz37_0, hfz37_1, hfz37_2⟩ := cells3_ (w := w36) BK153; obtain ⟨hcz38_0, hcz38_1, hcz38_2, hfz38_0, hfz38_1, hfz38_2⟩ := cells3_ (w := w36) BK151))
            refine bodyPost_ret (results_ct rfl _ _ gb151 27 #[.string (a0.extract 0 (x4_2 : Int).toNat), .string x154001_18, .string t155] (0, 0) _ rfl zq36 Tryd.underlying27 rfl (by kernel_rfl)) rfl ?_; exact ⟨zq7, zq30⟩
           replace c33 := Bool.eq_false_iff.mpr c33; subst c33; rw [if_neg (show ¬ (false = true) by decide)] at H; simp only [Option.some.injEq, Prod.mk.injEq] at H; obtain ⟨rfl, rfl, rfl, rfl⟩ := H; have hnb39 := NB153_151.out; have hnc39 := NB151_153.out; obtain ⟨hcz40_0, hcz40_1, hcz40_2, hfz40_0, hfz40_1, hfz40_2⟩ := cells3_ (w := wc) BK153
           go_wp2_with (first | ((with_reducible refine gC 31 rfl ?_); refine gL 54 Tryd.func31 #[.string t155] ?_; (with_reducible refine (impl_isDigest.calls t155 false _ A32.out).mono ?_); rintro e w41 ⟨rfl, hb⟩; refine ⟨_, rfl, ?_⟩; replace BK151 := bF BK151 zq34 hb; replace BK153 := bB (g := gb153) (o := .cells #[.string (a0.extract 0 (x4_2 : Int).toNat), .string x154001_18, .string t155] 27 (0, 0)) zq35 hb; replace HB := sB zq30 hb; clear hb; obtain ⟨hcz42_0, hcz42_1, hcz42_2, hfz42_0, hfz42_1, hfz42_2⟩ := cells3_ (w := w41) BK151))
           refine bodyPost_ret (results_ct rfl _ _ gb151 27 #[.string (⟨#[]⟩ : ByteArray), .string (⟨#[]⟩ : ByteArray), .string (⟨#[]⟩ : ByteArray)] (0, 0) _ rfl (by refine dW ?_; refine blk_put (cs := #[.string (⟨#[]⟩ : ByteArray), .string (⟨#[]⟩ : ByteArray), .string x152002_18]) ?_ 2 _ rfl; refine dW ?_; refine blk_put (cs := #[.string (⟨#[]⟩ : ByteArray), .string x152001_18, .string x152002_18]) ?_ 1 _ rfl; refine dW ?_; refine blk_put (cs := #[.string x152000_18, .string x152001_18, .string x152002_18]) ?_ 0 _ rfl; refine dW ?_; exact BK151.out) Tryd.underlying27 rfl (by kernel_rfl)) rfl ?_; exact ⟨zq7, zq30⟩
          replace c31 := Bool.eq_false_iff.mpr c31; subst c31; rw [if_neg (show ¬ (false = true) by decide)] at H; simp only [Option.some.injEq, Prod.mk.injEq] at H; obtain ⟨rfl, rfl, rfl, rfl⟩ := H; have hnb43 := NB153_151.out; have hnc43 := NB151_153.out; obtain ⟨hcz44_0, hcz44_1, hcz44_2, hfz44_0, hfz44_1, hfz44_2⟩ := cells3_ (w := wc) BK153; obtain ⟨hcz45_0, hcz45_1, hcz45_2, hfz45_0, hfz45_1, hfz45_2⟩ := cells3_ (w := wc) BK151; go_wp2; refine bodyPost_ret (results_ct rfl _ _ gb151 27 #[.string (a0.extract 0 (x4_2 : Int).toNat), .string x154001_18, .string (⟨#[]⟩ : ByteArray)] (0, 0) _ rfl zq36 Tryd.underlying27 rfl (by kernel_rfl)) rfl ?_; exact ⟨zq7, zq30⟩
     replace c11 := Bool.eq_false_iff.mpr c11; subst c11; rw [if_neg (show ¬ (false = true) by decide)] at H; simp only [Option.some.injEq, Prod.mk.injEq] at H; obtain ⟨rfl, rfl, rfl, rfl⟩ := H
     go_wp2_with (first | ((with_reducible refine gD 5 rfl ?_); refine bE 5 #[.string (⟨#[]⟩ : ByteArray), .string (⟨#[]⟩ : ByteArray), .string (⟨#[]⟩ : ByteArray)] 27 ?_; intro gb153 hg w46 hbox hb; have BK153 := aM hbox; have GW153 := aM (zq56 : w.heap.size ≤ gb153); have GE153 := GW153; replace HB := sB zq27 hb; have NB151_153 := aM (zq57 : gb151 ≠ gb153); have NB153_151 := aM (zq58 : gb153 ≠ gb151); replace BK151 := bG BK151 hb; clear hb hbox hg; have hnb47 := NB153_151.out; have hnc47 := NB151_153.out; obtain ⟨hcz48_0, hcz48_1, hcz48_2, hfz48_0, hfz48_1, hfz48_2⟩ := cells3_ (w := w46) BK153) | ((with_reducible refine gC 36 rfl ?_); refine gL 21 Tryd.func36 #[.string a0, .string (⟨#[64]⟩ : ByteArray)] ?_; (with_reducible refine (strings_Cut.calls a0 (⟨#[64]⟩ : ByteArray) t154 t155 t156 _ A9.out).mono ?_); rintro e w' ⟨rfl, ⟨nd, rfl⟩⟩; refine ⟨_, rfl, ?_⟩) | ((with_reducible refine gC 28 rfl ?_); refine gL 27 Tryd.func28 #[.string (a0.extract 0 (x4_2 : Int).toNat)] ?_; (with_reducible refine (impl_isRepo.calls kj2 (a0.extract 0 (x4_2 : Int).toNat) false _ A10.out).mono ?_); rintro e w49 ⟨rfl, hb⟩; refine ⟨_, rfl, ?_⟩; replace BK151 := bF BK151 zq28 hb; replace BK153 := bB (g := gb153) (o := .cells #[.string (a0.extract 0 (x4_2 : Int).toNat), .string (⟨#[]⟩ : ByteArray), .string (⟨#[]⟩ : ByteArray)] 27 (0, 0)) zq29 hb; replace HB := sB zq30 hb; clear hb; obtain ⟨hcz50_0, hcz50_1, hcz50_2, hfz50_0, hfz50_1, hfz50_2⟩ := cells3_ (w := w49) BK151))
     refine bodyPost_ret (results_ct rfl _ _ gb151 27 #[.string (⟨#[]⟩ : ByteArray), .string (⟨#[]⟩ : ByteArray), .string (⟨#[]⟩ : ByteArray)] (0, 0) _ rfl (by refine dW ?_; refine blk_put (cs := #[.string (⟨#[]⟩ : ByteArray), .string (⟨#[]⟩ : ByteArray), .string (⟨#[]⟩ : ByteArray)]) ?_ 2 _ rfl; refine dW ?_; refine blk_put (cs := #[.string (⟨#[]⟩ : ByteArray), .string (⟨#[]⟩ : ByteArray), .string (⟨#[]⟩ : ByteArray)]) ?_ 1 _ rfl; refine dW ?_; refine blk_put (cs := #[.string (⟨#[]⟩ : ByteArray), .string (⟨#[]⟩ : ByteArray), .string (⟨#[]⟩ : ByteArray)]) ?_ 0 _ rfl; refine dW ?_; exact BK151.out) Tryd.underlying27 rfl (by kernel_rfl)) rfl ?_; exact ⟨zq7, zq30⟩
    exact zq65
   exact zq66

/-! ### laws_eqRef: function 16 -/
def laws_eqRef.f (a0_0 : ByteArray) (a0_1 : ByteArray) (a0_2 : ByteArray) (a1_0 : ByteArray) (a1_1 : ByteArray) (a1_2 : ByteArray) : Option (Bool) := if a0_0.toList = a1_0.toList then (if a0_1.toList = a1_1.toList then (if a0_2.toList = a1_2.toList then (some true) else (some false)) else (some false)) else (some false)
set_option maxHeartbeats 8000000 in
set_option maxRecDepth 100000 in
theorem laws_eqRef.calls (a0_0 : ByteArray) (a0_1 : ByteArray) (a0_2 : ByteArray) (a1_0 : ByteArray) (a1_1 : ByteArray) (a1_2 : ByteArray) (r : Bool) (w : World) (h : laws_eqRef.f a0_0 a0_1 a0_2 a1_0 a1_1 a1_2 = some r) :
  Calls Tryd.prog 16 #[.agg #[.string a0_0, .string a0_1, .string a0_2], .agg #[.string a1_0, .string a1_1, .string a1_2]] w fun e w' => e = .returned (.bool r) ∧ Below w.heap.size w w' := by
 have hu27 := Tryd.underlying27; have HB := aM (Below.refl w.heap.size w); unfold laws_eqRef.f at h; have H := h; clear h; by_cases c3 : a0_0.toList = a1_0.toList
 ·
  rw [if_pos c3] at H; have c3b0 : (a0_0.toList == a1_0.toList) = true := beq_iff_eq.mpr c3; have c3b1 : (a0_0.toList != a1_0.toList) = false := bne_eq_false_iff_eq.mpr c3; clear c3; by_cases c4 : a0_1.toList = a1_1.toList
  ·
   rw [if_pos c4] at H; have c4b0 : (a0_1.toList == a1_1.toList) = true := beq_iff_eq.mpr c4; have c4b1 : (a0_1.toList != a1_1.toList) = false := bne_eq_false_iff_eq.mpr c4; clear c4; by_cases c5 : a0_2.toList = a1_2.toList
   ·
    rw [if_pos c5] at H; have c5b0 : (a0_2.toList == a1_2.toList) = true := beq_iff_eq.mpr c5; have c5b1 : (a0_2.toList != a1_2.toList) = false := bne_eq_false_iff_eq.mpr c5; clear c5; obtain rfl := Option.some.inj H; go_enter Tryd.func16, Tryd.ntmps16
    go_wp2_with (first | ((with_reducible refine gD 2 rfl ?_); refine bE 2 #[.string a0_0, .string a0_1, .string a0_2] 27 ?_; intro gb160 hg w6 hbox hb; have BK160 := aM hbox; have GW160 := aM (zq47 : w.heap.size ≤ gb160); have GE160 := GW160; replace HB := sB zq2 hb; clear hb hbox hg) | ((with_reducible refine gD 3 rfl ?_); refine bE 3 #[.string a1_0, .string a1_1, .string a1_2] 27 ?_; intro gb161 hg w7 hbox hb; have BK161 := aM hbox; have GW161 := aM (zq59 : w.heap.size ≤ gb161); have GE161 := GW161; replace HB := sB zq38 hb; have NB160_161 := aM (zq60 : gb160 ≠ gb161); have NB161_160 := aM (zq61 : gb161 ≠ gb160); replace BK160 := bG BK160 hb; clear hb hbox hg; have hnb8 := NB160_161.out; have hnc8 := NB161_160.out; obtain ⟨hcz9_0, hcz9_1, hcz9_2, hfz9_0, hfz9_1, hfz9_2⟩ := cells3_ (w := w7) BK160; obtain ⟨hcz10_0, hcz10_1, hcz10_2, hfz10_0, hfz10_1, hfz10_2⟩ := cells3_ (w := w7) BK161))
    go_ret; exact ⟨zq7, zq39⟩
   rw [if_neg c5] at H; have c5b0 : (a0_2.toList == a1_2.toList) = false := beq_eq_false_iff_ne.mpr c5; have c5b1 : (a0_2.toList != a1_2.toList) = true := bne_iff_ne.mpr c5; obtain rfl := Option.some.inj H; go_enter Tryd.func16, Tryd.ntmps16
   go_wp2_with (first | ((with_reducible refine gD 2 rfl ?_); refine bE 2 #[.string a0_0, .string a0_1, .string a0_2] 27 ?_; intro gb160 hg w11 hbox hb; have BK160 := aM hbox; have GW160 := aM (zq47 : w.heap.size ≤ gb160); have GE160 := GW160; replace HB := sB zq2 hb; clear hb hbox hg) | ((with_reducible refine gD 3 rfl ?_); refine bE 3 #[.string a1_0, .string a1_1, .string a1_2] 27 ?_; intro gb161 hg w12 hbox hb; have BK161 := aM hbox; have GW161 := aM (zq59 : w.heap.size ≤ gb161); have GE161 := GW161; replace HB := sB zq38 hb; have NB160_161 := aM (zq60 : gb160 ≠ gb161); have NB161_160 := aM (zq61 : gb161 ≠ gb160); replace BK160 := bG BK160 hb; clear hb hbox hg; have hnb13 := NB160_161.out; have hnc13 := NB161_160.out; obtain ⟨hcz14_0, hcz14_1, hcz14_2, hfz14_0, hfz14_1, hfz14_2⟩ := cells3_ (w := w12) BK160; obtain ⟨hcz15_0, hcz15_1, hcz15_2, hfz15_0, hfz15_1, hfz15_2⟩ := cells3_ (w := w12) BK161))
   go_ret; exact ⟨zq7, zq39⟩
  rw [if_neg c4] at H; have c4b0 : (a0_1.toList == a1_1.toList) = false := beq_eq_false_iff_ne.mpr c4; have c4b1 : (a0_1.toList != a1_1.toList) = true := bne_iff_ne.mpr c4; obtain rfl := Option.some.inj H; go_enter Tryd.func16, Tryd.ntmps16
  go_wp2_with (first | ((with_reducible refine gD 2 rfl ?_); refine bE 2 #[.string a0_0, .string a0_1, .string a0_2] 27 ?_; intro gb160 hg w16 hbox hb; have BK160 := aM hbox; have GW160 := aM (zq47 : w.heap.size ≤ gb160); have GE160 := GW160; replace HB := sB zq2 hb; clear hb hbox hg) | ((with_reducible refine gD 3 rfl ?_); refine bE 3 #[.string a1_0, .string a1_1, .string a1_2] 27 ?_; intro gb161 hg w17 hbox hb; have BK161 := aM hbox; have GW161 := aM (zq59 : w.heap.size ≤ gb161); have GE161 := GW161; replace HB := sB zq38 hb; have NB160_161 := aM (zq60 : gb160 ≠ gb161); have NB161_160 := aM (zq61 : gb161 ≠ gb160); replace BK160 := bG BK160 hb; clear hb hbox hg; have hnb18 := NB160_161.out; have hnc18 := NB161_160.out; obtain ⟨hcz19_0, hcz19_1, hcz19_2, hfz19_0, hfz19_1, hfz19_2⟩ := cells3_ (w := w17) BK160; obtain ⟨hcz20_0, hcz20_1, hcz20_2, hfz20_0, hfz20_1, hfz20_2⟩ := cells3_ (w := w17) BK161))
  go_ret; exact ⟨zq7, zq39⟩
 rw [if_neg c3] at H; have c3b0 : (a0_0.toList == a1_0.toList) = false := beq_eq_false_iff_ne.mpr c3; have c3b1 : (a0_0.toList != a1_0.toList) = true := bne_iff_ne.mpr c3; obtain rfl := Option.some.inj H; go_enter Tryd.func16, Tryd.ntmps16
 go_wp2_with (first | ((with_reducible refine gD 2 rfl ?_); refine bE 2 #[.string a0_0, .string a0_1, .string a0_2] 27 ?_; intro gb160 hg w21 hbox hb; have BK160 := aM hbox; have GW160 := aM (zq47 : w.heap.size ≤ gb160); have GE160 := GW160; replace HB := sB zq2 hb; clear hb hbox hg) | ((with_reducible refine gD 3 rfl ?_); refine bE 3 #[.string a1_0, .string a1_1, .string a1_2] 27 ?_; intro gb161 hg w22 hbox hb; have BK161 := aM hbox; have GW161 := aM (zq59 : w.heap.size ≤ gb161); have GE161 := GW161; replace HB := sB zq38 hb; have NB160_161 := aM (zq60 : gb160 ≠ gb161); have NB161_160 := aM (zq61 : gb161 ≠ gb160); replace BK160 := bG BK160 hb; clear hb hbox hg; have hnb23 := NB160_161.out; have hnc23 := NB161_160.out; obtain ⟨hcz24_0, hcz24_1, hcz24_2, hfz24_0, hfz24_1, hfz24_2⟩ := cells3_ (w := w22) BK160; obtain ⟨hcz25_0, hcz25_1, hcz25_2, hfz25_0, hfz25_1, hfz25_2⟩ := cells3_ (w := w22) BK161))
 go_ret; exact ⟨zq7, zq39⟩

/-! ### laws_FnExactReadRef: function 5 -/
def laws_FnExactReadRef.f (k : Nat) (a0 : ByteArray) : Option (Bool) := if (a0.size : Int) > 1048576 then (some true) else ((spec_ReadRef.f k a0).bind fun bt162 => ((impl_ReadRef.f k a0).bind fun bt167 => ((laws_eqRef.f bt167.1 bt167.2.1 bt167.2.2.1 bt162.1 bt162.2.1 bt162.2.2.1).bind fun t172 => (if t172 = true then (if bt167.2.2.2 = bt162.2.2.2 then (some true) else (some false)) else (some false)))))
theorem laws_FnExactReadRef.mono : ∀ a0 k, LeO (laws_FnExactReadRef.f k a0) (laws_FnExactReadRef.f (k + 1) a0) := by
 intro a0 k; unfold laws_FnExactReadRef.f
 repeat' first
   | (with_reducible apply impl_ReadRef.mono)
   | (with_reducible apply spec_ReadRef.mono)
   | (with_reducible exact LeO.refl _)
   | (with_reducible exact LeO.none _)
   | (with_reducible refine LeO.ite ?_ ?_)
   | (with_reducible refine LeO.bind ?_ (fun _ => ?_))
   | exact LeO.none _
   | refine LeO.ite ?_ ?_
   | refine LeO.bind ?_ (fun _ => ?_)
set_option maxHeartbeats 8000000 in
set_option maxRecDepth 100000 in
theorem laws_FnExactReadRef.calls (k : Nat) (a0 : ByteArray) (r : Bool) (w : World) (h : laws_FnExactReadRef.f k a0 = some r) :
  Calls Tryd.prog 5 #[.string a0] w fun e w' => e = .returned (.bool r) ∧ Below w.heap.size w w' := by
 have hu27 := Tryd.underlying27; have HB := aM (Below.refl w.heap.size w); unfold laws_FnExactReadRef.f at h; have H := h; clear h; by_cases c2 : (a0.size : Int) > 1048576
 ·
  rw [if_pos c2] at H; have c2b0 : decide (1048576 < (a0.size : Int)) = true := decide_eq_true c2; have c2b1 : decide (1048576 < a0.size) = true := decide_eq_true (by omega); clear c2; obtain rfl := Option.some.inj H; go_enter Tryd.func5, Tryd.ntmps5; go_wp2; go_ret; exact ⟨zq7, zq2⟩
 rw [if_neg c2] at H; have c2b0 : decide (1048576 < (a0.size : Int)) = false := decide_eq_false c2; have c2b1 : decide (1048576 < a0.size) = false := decide_eq_false (by omega); clear c2; replace H := Option.bind_eq_some_iff.mp H; obtain ⟨⟨t162, t163, t164, t165⟩, A30, H⟩ := H; (try dsimp only at H); have A3 := aM A30; clear A30; replace H := Option.bind_eq_some_iff.mp H; obtain ⟨⟨t167, t168, t169, t170⟩, A40, H⟩ := H; (try dsimp only at H); have A4 := aM A40; clear A40; replace H := Option.bind_eq_some_iff.mp H; obtain ⟨t172, A50, H⟩ := H; (try dsimp only at H); have A5 := aM A50; clear A50; by_cases c6 : t172 = true
 ·
  subst c6; rw [if_pos rfl] at H; by_cases c7 : t170 = t165
  ·
   rw [if_pos c7] at H; have c7b0 : (t170 == t165) = true := beq_iff_eq.mpr c7; have c7b1 : (t170 != t165) = false := bne_eq_false_iff_eq.mpr c7; clear c7; obtain rfl := Option.some.inj H; go_enter Tryd.func5, Tryd.ntmps5
   go_wp2_with (first | ((with_reducible refine gC 14 rfl ?_); refine gL 12 Tryd.func14 #[.string a0] ?_; (with_reducible refine (spec_ReadRef.calls k a0 t162 t163 t164 t165 _ A3.out).mono ?_); rintro e w8 ⟨rfl, hb⟩; refine ⟨_, rfl, ?_⟩; replace HB := sB zq2 hb; clear hb) | ((with_reducible refine gD 3 rfl ?_); refine bE 3 #[.string (⟨#[]⟩ : ByteArray), .string (⟨#[]⟩ : ByteArray), .string (⟨#[]⟩ : ByteArray)] 27 ?_; intro gb166 hg w9 hbox hb; have BK166 := aM hbox; have GW166 := aM (zq47 : w.heap.size ≤ gb166); have GE166 := GW166; replace HB := sB zq2 hb; clear hb hbox hg; obtain ⟨hcz10_0, hcz10_1, hcz10_2, hfz10_0, hfz10_1, hfz10_2⟩ := cells3_ (w := w9) BK166) | ((with_reducible refine gC 15 rfl ?_); refine gL 17 Tryd.func15 #[.string a0] ?_; (with_reducible refine (impl_ReadRef.calls k a0 t167 t168 t169 t170 _ A4.out).mono ?_); rintro e w11 ⟨rfl, hb⟩; refine ⟨_, rfl, ?_⟩; replace BK166 := bB (g := gb166) (o := .cells #[.string t162, .string t163, .string t164] 27 (0, 0)) zq40 hb; replace HB := sB zq41 hb; clear hb) | ((with_reducible refine gD 5 rfl ?_); refine bE 5 #[.string (⟨#[]⟩ : ByteArray), .string (⟨#[]⟩ : ByteArray), .string (⟨#[]⟩ : ByteArray)] 27 ?_; intro gb171 hg w12 hbox hb; have BK171 := aM hbox; have GW171 := aM (zq62 : w.heap.size ≤ gb171); have GE171 := GW171; replace HB := sB zq41 hb; have NB166_171 := aM (zq63 : gb166 ≠ gb171); have NB171_166 := aM (zq64 : gb171 ≠ gb166); replace BK166 := bG BK166 hb; clear hb hbox hg; have hnb13 := NB171_166.out; have hnc13 := NB166_171.out; obtain ⟨hcz14_0, hcz14_1, hcz14_2, hfz14_0, hfz14_1, hfz14_2⟩ := cells3_ (w := w12) BK171; obtain ⟨hcz15_0, hcz15_1, hcz15_2, hfz15_0, hfz15_1, hfz15_2⟩ := cells3_ (w := w12) BK166) | ((with_reducible refine gC 16 rfl ?_); refine gL 22 Tryd.func16 #[.agg #[.string t167, .string t168, .string t169], .agg #[.string t162, .string t163, .string t164]] ?_; (with_reducible refine (laws_eqRef.calls t167 t168 t169 t162 t163 t164 true _ A5.out).mono ?_); rintro e w16 ⟨rfl, hb⟩; refine ⟨_, rfl, ?_⟩; replace BK166 := bF BK166 zq43 hb; replace BK171 := bB (g := gb171) (o := .cells #[.string t167, .string t168, .string t169] 27 (0, 0)) zq44 hb; replace HB := sB zq45 hb; clear hb))
   go_ret; exact ⟨zq7, zq45⟩
  rw [if_neg c7] at H; have c7b0 : (t170 == t165) = false := beq_eq_false_iff_ne.mpr c7; have c7b1 : (t170 != t165) = true := bne_iff_ne.mpr c7; obtain rfl := Option.some.inj H; go_enter Tryd.func5, Tryd.ntmps5
  go_wp2_with (first | ((with_reducible refine gC 14 rfl ?_); refine gL 12 Tryd.func14 #[.string a0] ?_; (with_reducible refine (spec_ReadRef.calls k a0 t162 t163 t164 t165 _ A3.out).mono ?_); rintro e w17 ⟨rfl, hb⟩; refine ⟨_, rfl, ?_⟩; replace HB := sB zq2 hb; clear hb) | ((with_reducible refine gD 3 rfl ?_); refine bE 3 #[.string (⟨#[]⟩ : ByteArray), .string (⟨#[]⟩ : ByteArray), .string (⟨#[]⟩ : ByteArray)] 27 ?_; intro gb166 hg w18 hbox hb; have BK166 := aM hbox; have GW166 := aM (zq47 : w.heap.size ≤ gb166); have GE166 := GW166; replace HB := sB zq2 hb; clear hb hbox hg; obtain ⟨hcz19_0, hcz19_1, hcz19_2, hfz19_0, hfz19_1, hfz19_2⟩ := cells3_ (w := w18) BK166) | ((with_reducible refine gC 15 rfl ?_); refine gL 17 Tryd.func15 #[.string a0] ?_; (with_reducible refine (impl_ReadRef.calls k a0 t167 t168 t169 t170 _ A4.out).mono ?_); rintro e w20 ⟨rfl, hb⟩; refine ⟨_, rfl, ?_⟩; replace BK166 := bB (g := gb166) (o := .cells #[.string t162, .string t163, .string t164] 27 (0, 0)) zq40 hb; replace HB := sB zq41 hb; clear hb) | ((with_reducible refine gD 5 rfl ?_); refine bE 5 #[.string (⟨#[]⟩ : ByteArray), .string (⟨#[]⟩ : ByteArray), .string (⟨#[]⟩ : ByteArray)] 27 ?_; intro gb171 hg w21 hbox hb; have BK171 := aM hbox; have GW171 := aM (zq62 : w.heap.size ≤ gb171); have GE171 := GW171; replace HB := sB zq41 hb; have NB166_171 := aM (zq63 : gb166 ≠ gb171); have NB171_166 := aM (zq64 : gb171 ≠ gb166); replace BK166 := bG BK166 hb; clear hb hbox hg; have hnb22 := NB171_166.out; have hnc22 := NB166_171.out; obtain ⟨hcz23_0, hcz23_1, hcz23_2, hfz23_0, hfz23_1, hfz23_2⟩ := cells3_ (w := w21) BK171; obtain ⟨hcz24_0, hcz24_1, hcz24_2, hfz24_0, hfz24_1, hfz24_2⟩ := cells3_ (w := w21) BK166) | ((with_reducible refine gC 16 rfl ?_); refine gL 22 Tryd.func16 #[.agg #[.string t167, .string t168, .string t169], .agg #[.string t162, .string t163, .string t164]] ?_; (with_reducible refine (laws_eqRef.calls t167 t168 t169 t162 t163 t164 true _ A5.out).mono ?_); rintro e w25 ⟨rfl, hb⟩; refine ⟨_, rfl, ?_⟩; replace BK166 := bF BK166 zq43 hb; replace BK171 := bB (g := gb171) (o := .cells #[.string t167, .string t168, .string t169] 27 (0, 0)) zq44 hb; replace HB := sB zq45 hb; clear hb))
  go_ret; exact ⟨zq7, zq45⟩
 replace c6 := Bool.eq_false_iff.mpr c6; subst c6; rw [if_neg (show ¬ (false = true) by decide)] at H; obtain rfl := Option.some.inj H; go_enter Tryd.func5, Tryd.ntmps5
 go_wp2_with (first | ((with_reducible refine gC 14 rfl ?_); refine gL 12 Tryd.func14 #[.string a0] ?_; (with_reducible refine (spec_ReadRef.calls k a0 t162 t163 t164 t165 _ A3.out).mono ?_); rintro e w26 ⟨rfl, hb⟩; refine ⟨_, rfl, ?_⟩; replace HB := sB zq2 hb; clear hb) | ((with_reducible refine gD 3 rfl ?_); refine bE 3 #[.string (⟨#[]⟩ : ByteArray), .string (⟨#[]⟩ : ByteArray), .string (⟨#[]⟩ : ByteArray)] 27 ?_; intro gb166 hg w27 hbox hb; have BK166 := aM hbox; have GW166 := aM (zq47 : w.heap.size ≤ gb166); have GE166 := GW166; replace HB := sB zq2 hb; clear hb hbox hg; obtain ⟨hcz28_0, hcz28_1, hcz28_2, hfz28_0, hfz28_1, hfz28_2⟩ := cells3_ (w := w27) BK166) | ((with_reducible refine gC 15 rfl ?_); refine gL 17 Tryd.func15 #[.string a0] ?_; (with_reducible refine (impl_ReadRef.calls k a0 t167 t168 t169 t170 _ A4.out).mono ?_); rintro e w29 ⟨rfl, hb⟩; refine ⟨_, rfl, ?_⟩; replace BK166 := bB (g := gb166) (o := .cells #[.string t162, .string t163, .string t164] 27 (0, 0)) zq40 hb; replace HB := sB zq41 hb; clear hb) | ((with_reducible refine gD 5 rfl ?_); refine bE 5 #[.string (⟨#[]⟩ : ByteArray), .string (⟨#[]⟩ : ByteArray), .string (⟨#[]⟩ : ByteArray)] 27 ?_; intro gb171 hg w30 hbox hb; have BK171 := aM hbox; have GW171 := aM (zq62 : w.heap.size ≤ gb171); have GE171 := GW171; replace HB := sB zq41 hb; have NB166_171 := aM (zq63 : gb166 ≠ gb171); have NB171_166 := aM (zq64 : gb171 ≠ gb166); replace BK166 := bG BK166 hb; clear hb hbox hg; have hnb31 := NB171_166.out; have hnc31 := NB166_171.out; obtain ⟨hcz32_0, hcz32_1, hcz32_2, hfz32_0, hfz32_1, hfz32_2⟩ := cells3_ (w := w30) BK171; obtain ⟨hcz33_0, hcz33_1, hcz33_2, hfz33_0, hfz33_1, hfz33_2⟩ := cells3_ (w := w30) BK166) | ((with_reducible refine gC 16 rfl ?_); refine gL 22 Tryd.func16 #[.agg #[.string t167, .string t168, .string t169], .agg #[.string t162, .string t163, .string t164]] ?_; (with_reducible refine (laws_eqRef.calls t167 t168 t169 t162 t163 t164 false _ A5.out).mono ?_); rintro e w34 ⟨rfl, hb⟩; refine ⟨_, rfl, ?_⟩; replace BK166 := bF BK166 zq43 hb; replace BK171 := bB (g := gb171) (o := .cells #[.string t167, .string t168, .string t169] 27 (0, 0)) zq44 hb; replace HB := sB zq45 hb; clear hb))
 go_ret; exact ⟨zq7, zq45⟩

/-- THE ONE PURE STATEMENT of laws_FnExactReadRef: yours. -/
def laws_FnExactReadRef.Pure : Prop := ∀ (a0 : ByteArray), a0.size ≤ 140737488351232 → ∃ k, laws_FnExactReadRef.f k a0 = some true
theorem laws_FnExactReadRef.walk (P : laws_FnExactReadRef.Pure) (a0 : ByteArray) (w : World) (w0 : a0.size ≤ 140737488351232) :
  Calls Tryd.prog 5 #[.string a0] w fun e w' => e = .returned (.bool true) ∧ Below w.heap.size w w' := by
 obtain ⟨k, h⟩ := P a0 w0; refine (laws_FnExactReadRef.calls k a0 true w h).mono ?_; rintro e w' ⟨rfl, hd⟩; exact ⟨rfl, hd⟩

end Go.Proofs.YtldpdaifajjaeaaDoor.QFnExactReadRef
