/- Written by wip/myprint.py of this repo (the kit's print, with additions of this session). -/
import Derived.Test.YtldpdaifajjaeaaDoorQFnRefsx0
import Derived.Test.YtldpdaifajjaeaaDoorQFnRefsx2
import Derived.Test.YtldpdaifajjaeaaDoorQFnRefsx6
import Derived.Test.YtldpdaifajjaeaaDoorQFnRefsx9
set_option maxRecDepth 100000
namespace Go.Proofs.YtldpdaifajjaeaaDoor.QFnRefs
open Go.RowKit Go.Proofs.YtldpdaifajjaeaaDoorW.PrintWords Go.Proofs.YtldpdaifajjaeaaDoorW.PrintLast Go.Proofs.YtldpdaifajjaeaaDoorW.PrintMore
attribute [local go_sem] max2_int min2_int max_two min_two max_three min_three max_four min_four   -- for this text's walks alone
set_option linter.unusedVariables false
set_option linter.unusedSimpArgs false

/-! ### impl_ReadRef: function 15 -/
mutual
def impl_ReadRef.j0 : Nat → ByteArray → Int → Option (ByteArray × ByteArray × ByteArray × Int)
 | 0, _, _ => none
 | k + 1, x0, x4 => if 0 ≤ x4 then (if x4 ≤ (x0.size : Int) then ((strings_Cut.f x0 (⟨#[64]⟩ : ByteArray)).bind fun bt167 => ((impl_isRepo.f k (x0.extract 0 (x4 : Int).toNat)).bind fun t170 => (if t170 = true then (if x4 < (x0.size : Int) then (impl_ReadRef.j1 k x4 bt167.1 bt167.2.1 bt167.2.2 ((bt x0 x4) == 58) (x0.extract 0 (x4 : Int).toNat) (⟨#[]⟩ : ByteArray) (⟨#[]⟩ : ByteArray)) else (impl_ReadRef.j1 k x4 bt167.1 bt167.2.1 bt167.2.2 false (x0.extract 0 (x4 : Int).toNat) (⟨#[]⟩ : ByteArray) (⟨#[]⟩ : ByteArray))) else (some ((⟨#[]⟩ : ByteArray), (⟨#[]⟩ : ByteArray), (⟨#[]⟩ : ByteArray), 1))))) else (none)) else (none)
def impl_ReadRef.j1 : Nat → Int → ByteArray → ByteArray → Bool → Bool → ByteArray → ByteArray → ByteArray → Option (ByteArray × ByteArray × ByteArray × Int)
 | 0, _, _, _, _, _, _, _, _ => none
 | k + 1, x4, x6, x7, x8, x39, x167000, x167001, x167002 => if x39 = true then (if 0 ≤ (wrap64 (x4 + 1)) then (if (wrap64 (x4 + 1)) ≤ (x6.size : Int) then ((impl_isTag.f k (x6.extract ((wrap64 (x4 + 1)) : Int).toNat x6.size)).bind fun t171 => (if t171 = true then (impl_ReadRef.j2 k x7 x8 x167000 (x6.extract ((wrap64 (x4 + 1)) : Int).toNat x6.size) x167002) else (some ((⟨#[]⟩ : ByteArray), (⟨#[]⟩ : ByteArray), (⟨#[]⟩ : ByteArray), 2)))) else (none)) else (none)) else (impl_ReadRef.j2 k x7 x8 x167000 x167001 x167002)
def impl_ReadRef.j2 : Nat → ByteArray → Bool → ByteArray → ByteArray → ByteArray → Option (ByteArray × ByteArray × ByteArray × Int)
 | 0, _, _, _, _, _ => none
 | k + 1, x7, x8, x167000, x167001, x167002 => if x8 = true then ((impl_isDigest.f x7).bind fun t172 => (if t172 = true then (some (x167000, x167001, x7, 0)) else (some ((⟨#[]⟩ : ByteArray), (⟨#[]⟩ : ByteArray), (⟨#[]⟩ : ByteArray), 3)))) else (some (x167000, x167001, x167002, 0))
end
def impl_ReadRef.f (k : Nat) (a0 : ByteArray) : Option (ByteArray × ByteArray × ByteArray × Int) := (strings_IndexAny.f a0 (⟨#[58, 64]⟩ : ByteArray)).bind fun t165 => (if t165 < 0 then (impl_ReadRef.j0 k a0 (a0.size : Int)) else (impl_ReadRef.j0 k a0 t165))
theorem impl_ReadRef.mono_l : ∀ k, (∀ y0 y1, LeO (impl_ReadRef.j0 k y0 y1) (impl_ReadRef.j0 (k + 1) y0 y1)) ∧ (∀ y0 y1 y2 y3 y4 y5 y6 y7, LeO (impl_ReadRef.j1 k y0 y1 y2 y3 y4 y5 y6 y7) (impl_ReadRef.j1 (k + 1) y0 y1 y2 y3 y4 y5 y6 y7)) ∧ (∀ y0 y1 y2 y3 y4, LeO (impl_ReadRef.j2 k y0 y1 y2 y3 y4) (impl_ReadRef.j2 (k + 1) y0 y1 y2 y3 y4))
 | 0 => ⟨fun _ _ r h => by simp [impl_ReadRef.j0] at h, fun _ _ _ _ _ _ _ _ r h => by simp [impl_ReadRef.j1] at h, fun _ _ _ _ _ r h => by simp [impl_ReadRef.j2] at h⟩
 | k + 1 => by
  obtain ⟨ih0, ih1, ih2⟩ := impl_ReadRef.mono_l k; refine ⟨?_, ?_, ?_⟩
  ·
   intro y0 y1; unfold impl_ReadRef.j0
   repeat' first
   | (with_reducible apply ih0)
   | (with_reducible apply ih1)
   | (with_reducible apply ih2)
   | (with_reducible apply impl_isRepo.mono)
   | (with_reducible apply impl_isTag.mono)
   | (with_reducible exact LeO.refl _)
   | (with_reducible exact LeO.none _)
   | (with_reducible refine LeO.ite ?_ ?_)
   | (with_reducible refine LeO.bind ?_ (fun _ => ?_))
   | exact LeO.none _
   | refine LeO.ite ?_ ?_
   | refine LeO.bind ?_ (fun _ => ?_)
  ·
   intro y0 y1 y2 y3 y4 y5 y6 y7; unfold impl_ReadRef.j1
   repeat' first
   | (with_reducible apply ih0)
   | (with_reducible apply ih1)
   | (with_reducible apply ih2)
   | (with_reducible apply impl_isRepo.mono)
   | (with_reducible apply impl_isTag.mono)
   | (with_reducible exact LeO.refl _)
   | (with_reducible exact LeO.none _)
   | (with_reducible refine LeO.ite ?_ ?_)
   | (with_reducible refine LeO.bind ?_ (fun _ => ?_))
   | exact LeO.none _
   | refine LeO.ite ?_ ?_
   | refine LeO.bind ?_ (fun _ => ?_)
  intro y0 y1 y2 y3 y4; unfold impl_ReadRef.j2
  repeat' first
  | (with_reducible apply ih0)
  | (with_reducible apply ih1)
  | (with_reducible apply ih2)
  | (with_reducible apply impl_isRepo.mono)
  | (with_reducible apply impl_isTag.mono)
  | (with_reducible exact LeO.refl _)
  | (with_reducible exact LeO.none _)
  | (with_reducible refine LeO.ite ?_ ?_)
  | (with_reducible refine LeO.bind ?_ (fun _ => ?_))
  | exact LeO.none _
  | refine LeO.ite ?_ ?_
  | refine LeO.bind ?_ (fun _ => ?_)
theorem impl_ReadRef.mono : ∀ a0 k, LeO (impl_ReadRef.f k a0) (impl_ReadRef.f (k + 1) a0) := by
 intro a0 k; obtain ⟨ih0, ih1, ih2⟩ := impl_ReadRef.mono_l k; unfold impl_ReadRef.f
 repeat' first
   | (with_reducible apply ih0)
   | (with_reducible apply ih1)
   | (with_reducible apply ih2)
   | (with_reducible apply impl_isRepo.mono)
   | (with_reducible apply impl_isTag.mono)
   | (with_reducible exact LeO.refl _)
   | (with_reducible exact LeO.none _)
   | (with_reducible refine LeO.ite ?_ ?_)
   | (with_reducible refine LeO.bind ?_ (fun _ => ?_))
   | exact LeO.none _
   | refine LeO.ite ?_ ?_
   | refine LeO.bind ?_ (fun _ => ?_)
set_option maxHeartbeats 8000000 in
set_option maxRecDepth 100000 in
theorem impl_ReadRef.calls (k : Nat) (a0 : ByteArray) (r1 : ByteArray) (r2 : ByteArray) (r3 : ByteArray) (r4 : Int) (w : World) (h : impl_ReadRef.f k a0 = some (r1, r2, r3, r4)) :
  Calls Tryd.prog 15 #[.string a0] w fun e w' => e = .returned (.tuple #[.agg #[.string r1, .string r2, .string r3], .int .i64 r4]) ∧ Below w.heap.size w w' := by
 have hu27 := Tryd.underlying27; have HB := aM (Below.refl w.heap.size w); unfold impl_ReadRef.f at h; have H := h; clear h; replace H := Option.bind_eq_some_iff.mp H; obtain ⟨t165, A20, H⟩ := H; (try dsimp only at H); have A2 := aM A20; clear A20; have HC3 := aM H; clear H; go_enter Tryd.func15, Tryd.ntmps15
 go_upto_if 12 with (first | ((with_reducible refine gD 2 rfl ?_); refine bE 2 #[.string (⟨#[]⟩ : ByteArray), .string (⟨#[]⟩ : ByteArray), .string (⟨#[]⟩ : ByteArray)] 27 ?_; intro gb164 hg w4 hbox hb; have BK164 := aM hbox; have GW164 := aM (zq97 : w.heap.size ≤ gb164); have GE164 := GW164; replace HB := sB zq2 hb; clear hb hbox hg) | ((with_reducible refine gC 35 rfl ?_); refine gL 10 Tryd.func35 #[.string a0, .string (⟨#[58, 64]⟩ : ByteArray)] ?_; (with_reducible refine (strings_IndexAny.calls a0 (⟨#[58, 64]⟩ : ByteArray) t165 _ A2.out).mono ?_); rintro e w5 ⟨rfl, hb⟩; refine ⟨_, rfl, ?_⟩; replace BK164 := bG BK164 hb; replace HB := sB zq5 hb; clear hb))
 (try simp only [Act.put, List.setIfInBounds_toArray, List.set_cons_zero, List.set_cons_succ])
 go_cut [4] (fun v4 wc => ∃ (kq : Nat) (x4_2 : Int), v4 = .int .i64 x4_2 ∧ Aside0 (impl_ReadRef.j0 kq a0 x4_2 = some (r1, r2, r3, r4)) ∧ Aside0 (kq ≤ k) ∧ Aside0 (wc.heap[gb164]? = some (.cells #[.string (⟨#[]⟩ : ByteArray), .string (⟨#[]⟩ : ByteArray), .string (⟨#[]⟩ : ByteArray)] 27 (0, 0))) ∧ Aside0 (Below w.heap.size w wc))
 case first =>
  have H := HC3.out; clear HC3; by_cases c6 : t165 < 0
  ·
   rw [if_pos c6] at H; have c6b0 := decide_eq_true c6; clear c6
   (first | rw [c6b0] | (simp only [i64_w, i32_w]; rw [c6b0]) | skip)
   have H' := aM H; clear H; go_wp2
   go_meet
   case rel => exact ⟨_, ((a0.size : Int)), zq6, H', ⟨zq7⟩, ⟨zq4⟩, ⟨zq5⟩⟩
  rw [if_neg c6] at H; have c6b0 := decide_eq_false c6; clear c6
  (first | rw [c6b0] | (simp only [i64_w, i32_w]; rw [c6b0]) | skip)
  have H' := aM H; clear H; go_wp2
  go_meet
  case rel => exact ⟨_, (t165), zq6, H', ⟨zq7⟩, ⟨zq4⟩, ⟨zq5⟩⟩
 case rest =>
  clear HC3; (try clear c1); (try clear p2); (try clear c3); (try clear c6); (try clear c6b0); obtain ⟨kq, x4_2, rfl, HA, HJ2, BK164, HB⟩ := hcut
  cases kq with
  | zero => exact absurd HA.out (by simp [impl_ReadRef.j0])
  | succ kj2 =>
   have H := HA.out; clear HA; simp only [impl_ReadRef.j0] at H; by_cases c7 : 0 ≤ x4_2
   ·
    rw [if_pos c7] at H; have c7b0 := eq_true c7; have c7b1 := decide_eq_true c7; clear c7; by_cases c8 : x4_2 ≤ (a0.size : Int)
    ·
     rw [if_pos c8] at H; have c8b0 := eq_true c8; have c8b1 := decide_eq_true c8; clear c8; replace H := Option.bind_eq_some_iff.mp H; obtain ⟨⟨t167, t168, t169⟩, A90, H⟩ := H; (try dsimp only at H); have A9 := aM A90; clear A90; replace H := Option.bind_eq_some_iff.mp H; obtain ⟨t170, A100, H⟩ := H; (try dsimp only at H); have A10 := aM A100; clear A100; by_cases c11 : t170 = true
     ·
      subst c11; rw [if_pos rfl] at H; have HC12 := aM H; clear H
      go_upto_region 8 with (first | ((with_reducible refine gD 5 rfl ?_); refine bE 5 #[.string (⟨#[]⟩ : ByteArray), .string (⟨#[]⟩ : ByteArray), .string (⟨#[]⟩ : ByteArray)] 27 ?_; intro gb166 hg w13 hbox hb; have BK166 := aM hbox; have GW166 := aM (zq98 : w.heap.size ≤ gb166); have GE166 := GW166; replace HB := sB zq5 hb; have NB164_166 := aM (zq99 : gb164 ≠ gb166); have NB166_164 := aM (zq100 : gb166 ≠ gb164); replace BK164 := bG BK164 hb; clear hb hbox hg; have hnb14 := NB166_164.out; have hnc14 := NB164_166.out; obtain ⟨hcz15_0, hcz15_1, hcz15_2, hfz15_0, hfz15_1, hfz15_2⟩ := cells3_ (w := w13) BK166) | ((with_reducible refine gC 36 rfl ?_); refine gL 21 Tryd.func36 #[.string a0, .string (⟨#[64]⟩ : ByteArray)] ?_; (with_reducible refine (strings_Cut.calls a0 (⟨#[64]⟩ : ByteArray) t167 t168 t169 _ A9.out).mono ?_); rintro e w' ⟨rfl, ⟨nd, rfl⟩⟩; refine ⟨_, rfl, ?_⟩) | ((with_reducible refine gC 28 rfl ?_); refine gL 27 Tryd.func28 #[.string (a0.extract 0 (x4_2 : Int).toNat)] ?_; (with_reducible refine (impl_isRepo.calls kj2 (a0.extract 0 (x4_2 : Int).toNat) true _ A10.out).mono ?_); rintro e w16 ⟨rfl, hb⟩; refine ⟨_, rfl, ?_⟩; replace BK164 := bF BK164 zq8 hb; replace BK166 := bB (g := gb166) (o := .cells #[.string (a0.extract 0 (x4_2 : Int).toNat), .string (⟨#[]⟩ : ByteArray), .string (⟨#[]⟩ : ByteArray)] 27 (0, 0)) zq9 hb; replace HB := sB zq10 hb; clear hb))
      (try simp only [Act.put, List.setIfInBounds_toArray, List.set_cons_zero, List.set_cons_succ])
      go_cut [39] (fun v39 wc => ∃ (kq : Nat) (x39_11 : Bool), v39 = .bool x39_11 ∧ Aside0 (impl_ReadRef.j1 kq x4_2 t167 t168 t169 x39_11 (a0.extract 0 (x4_2 : Int).toNat) (⟨#[]⟩ : ByteArray) (⟨#[]⟩ : ByteArray) = some (r1, r2, r3, r4)) ∧ Aside0 (kq ≤ kj2) ∧ Aside0 (wc.heap[gb164]? = some (.cells #[.string (⟨#[]⟩ : ByteArray), .string (⟨#[]⟩ : ByteArray), .string (⟨#[]⟩ : ByteArray)] 27 (0, 0))) ∧ Aside0 (wc.heap[gb166]? = some (.cells #[.string (a0.extract 0 (x4_2 : Int).toNat), .string (⟨#[]⟩ : ByteArray), .string (⟨#[]⟩ : ByteArray)] 27 (0, 0))) ∧ Aside0 (Below w.heap.size w wc))
      case first =>
       have H := HC12.out; clear HC12; by_cases c17 : x4_2 < (a0.size : Int)
       ·
        rw [if_pos c17] at H; have c17b0 := decide_eq_true c17; clear c17
        (first | rw [c17b0] | (simp only [i64_w, i32_w]; rw [c17b0]) | skip)
        have H' := aM H; clear H; have p18 : 0 ≤ (x4_2 : Int) := of_decide_eq_true zq11; have q18 : x4_2 < (a0.size : Int) := of_decide_eq_true zq11; have hx18 := bt_at a0 x4_2; replace p18 := eq_true p18; replace q18 := eq_true q18; go_wp2
        go_meet
        case rel => exact ⟨_, (((bt a0 x4_2) == 58)), zq6, H', ⟨zq12⟩, ⟨zq4⟩, ⟨zq13⟩, ⟨zq10⟩⟩
       rw [if_neg c17] at H; have c17b0 := decide_eq_false c17; clear c17
       (first | rw [c17b0] | (simp only [i64_w, i32_w]; rw [c17b0]) | skip)
       have H' := aM H; clear H; go_wp2
       go_meet
       case rel => exact ⟨_, (false), zq6, H', ⟨zq12⟩, ⟨zq4⟩, ⟨zq13⟩, ⟨zq10⟩⟩
      case rest =>
       clear HC12; (try clear c1); (try clear p1); (try clear q1); (try clear hx1); (try clear c2); (try clear p2); (try clear c3); (try clear c6); (try clear c6b0); (try clear c7); (try clear c7b0); (try clear c7b1); (try clear c8); (try clear c8b0); (try clear c8b1); (try clear c11); (try clear c14); (try clear c15); (try clear c17); (try clear c17b0); (try clear p18); (try clear q18); (try clear hx18); (try clear hcz15_0); (try clear hcz15_1); (try clear hcz15_2); (try clear hfz15_0); (try clear hfz15_1); (try clear hfz15_2); (try clear p18); (try clear p2); (try clear q18); obtain ⟨kq, x39_11, rfl, HA, HJ11, BK164, BK166, HB⟩ := hcut
       cases kq with
       | zero => exact absurd HA.out (by simp [impl_ReadRef.j1])
       | succ kj11 =>
        have H := HA.out; clear HA; simp only [impl_ReadRef.j1] at H; have HC19 := aM H; clear H
        go_upto_if 39 with (fail)
        go_cut [] (fun wc => ∃ (kq : Nat) (x165000_18 : ByteArray) (x165001_18 : ByteArray) (x165002_18 : ByteArray) (x167001_18 : ByteArray), Aside0 (impl_ReadRef.j2 kq t168 t169 (a0.extract 0 (x4_2 : Int).toNat) x167001_18 (⟨#[]⟩ : ByteArray) = some (r1, r2, r3, r4)) ∧ Aside0 (kq ≤ kj11) ∧ Aside0 (wc.heap[gb164]? = some (.cells #[.string x165000_18, .string x165001_18, .string x165002_18] 27 (0, 0))) ∧ Aside0 (wc.heap[gb166]? = some (.cells #[.string (a0.extract 0 (x4_2 : Int).toNat), .string x167001_18, .string (⟨#[]⟩ : ByteArray)] 27 (0, 0))) ∧ Aside0 (Below w.heap.size w wc))
        case first =>
         have H := HC19.out; clear HC19; by_cases c20 : x39_11 = true
         ·
          subst c20; rw [if_pos rfl] at H; obtain ⟨ji21, hji21⟩ : ∃ j_ : Int, (wrap64 (x4_2 + 1)) = j_ := ⟨_, rfl⟩; replace H : (if 0 ≤ (ji21) then (if (ji21) ≤ (t167.size : Int) then ((impl_isTag.f kj11 (t167.extract ((ji21) : Int).toNat t167.size)).bind fun t171 => (if t171 = true then (impl_ReadRef.j2 kj11 t168 t169 (a0.extract 0 (x4_2 : Int).toNat) (t167.extract ((ji21) : Int).toNat t167.size) (⟨#[]⟩ : ByteArray)) else (some ((⟨#[]⟩ : ByteArray), (⟨#[]⟩ : ByteArray), (⟨#[]⟩ : ByteArray), 2)))) else (none)) else (none)) = some (r1, r2, r3, r4) := by first | (rw [hji21] at H; exact H) | (simp only [hji21] at H ⊢; exact H)
          have hji21w : (IntKind.i64.wrap (x4_2 + 1)) = ji21 := (i64_w _).trans hji21; by_cases c22 : 0 ≤ (ji21)
          ·
           rw [if_pos c22] at H; have c22b0 := eq_true c22; have c22b1 := decide_eq_true c22; clear c22; by_cases c23 : (ji21) ≤ (t167.size : Int)
           ·
            rw [if_pos c23] at H; have c23b0 := eq_true c23; have c23b1 := decide_eq_true c23; clear c23; replace H := Option.bind_eq_some_iff.mp H; obtain ⟨t171, A240, H⟩ := H; (try dsimp only at H); have A24 := aM A240; clear A240; by_cases c25 : t171 = true
            ·
             subst c25; rw [if_pos rfl] at H; have H' := aM H; clear H; have hnb26 := NB166_164.out; have hnc26 := NB164_166.out; obtain ⟨hcz27_0, hcz27_1, hcz27_2, hfz27_0, hfz27_1, hfz27_2⟩ := cells3_ (w := wc) BK166
             go_wp2_with (first | ((with_reducible refine gC 30 rfl ?_); refine gL 47 Tryd.func30 #[.string (t167.extract ((ji21) : Int).toNat t167.size)] ?_; (with_reducible refine (impl_isTag.calls kj11 (t167.extract ((ji21) : Int).toNat t167.size) true _ A24.out).mono ?_); rintro e w' ⟨rfl, ⟨nd, rfl⟩⟩; refine ⟨_, rfl, ?_⟩))
             go_meet
             case rel => exact ⟨_, ((⟨#[]⟩ : ByteArray)), ((⟨#[]⟩ : ByteArray)), ((⟨#[]⟩ : ByteArray)), (t167.extract ((ji21) : Int).toNat t167.size), H', ⟨zq15⟩, ⟨zq16⟩, ⟨by refine dW ?_; refine blk_put (cs := #[.string (a0.extract 0 (x4_2 : Int).toNat), .string (⟨#[]⟩ : ByteArray), .string (⟨#[]⟩ : ByteArray)]) ?_ 1 _ rfl; refine dW ?_; exact BK166.out⟩, ⟨zq10⟩⟩
            replace c25 := Bool.eq_false_iff.mpr c25; subst c25; rw [if_neg (show ¬ (false = true) by decide)] at H; simp only [Option.some.injEq, Prod.mk.injEq] at H; obtain ⟨rfl, rfl, rfl, rfl⟩ := H; have hnb28 := NB166_164.out; have hnc28 := NB164_166.out; obtain ⟨hcz29_0, hcz29_1, hcz29_2, hfz29_0, hfz29_1, hfz29_2⟩ := cells3_ (w := wc) BK166
            go_wp2_with (first | ((with_reducible refine gC 30 rfl ?_); refine gL 47 Tryd.func30 #[.string (t167.extract ((ji21) : Int).toNat t167.size)] ?_; (with_reducible refine (impl_isTag.calls kj11 (t167.extract ((ji21) : Int).toNat t167.size) false _ A24.out).mono ?_); rintro e w' ⟨rfl, ⟨nd, rfl⟩⟩; refine ⟨_, rfl, ?_⟩; obtain ⟨hcz30_0, hcz30_1, hcz30_2, hfz30_0, hfz30_1, hfz30_2⟩ := cells3_ (w := wc) BK164))
            refine bodyPost_ret (results_ct rfl _ _ gb164 27 #[.string (⟨#[]⟩ : ByteArray), .string (⟨#[]⟩ : ByteArray), .string (⟨#[]⟩ : ByteArray)] (0, 0) _ rfl (by refine dW ?_; refine blk_put (cs := #[.string (⟨#[]⟩ : ByteArray), .string (⟨#[]⟩ : ByteArray), .string (⟨#[]⟩ : ByteArray)]) ?_ 2 _ rfl; refine dW ?_; refine blk_put (cs := #[.string (⟨#[]⟩ : ByteArray), .string (⟨#[]⟩ : ByteArray), .string (⟨#[]⟩ : ByteArray)]) ?_ 1 _ rfl; refine dW ?_; refine blk_put (cs := #[.string (⟨#[]⟩ : ByteArray), .string (⟨#[]⟩ : ByteArray), .string (⟨#[]⟩ : ByteArray)]) ?_ 0 _ rfl; refine dW ?_; refine blk_far ?_ NB164_166.out _; refine dW ?_; exact BK164.out) Tryd.underlying27 rfl (by kernel_rfl)) rfl ?_; exact ⟨by first | rfl | (simp [errW_none, errW_some] <;> rfl) | (simp only [← hji21]; first | rfl | (simp [errW_none, errW_some] <;> rfl)) | (simp [*, errW_none, errW_some] <;> rfl), zq10⟩
           rw [if_neg c23] at H; exact absurd H (by simp)
          exact zq124
         replace c20 := Bool.eq_false_iff.mpr c20; subst c20; rw [if_neg (show ¬ (false = true) by decide)] at H; have H' := aM H; clear H; go_wp2
         go_meet
         case rel => exact ⟨_, ((⟨#[]⟩ : ByteArray)), ((⟨#[]⟩ : ByteArray)), ((⟨#[]⟩ : ByteArray)), ((⟨#[]⟩ : ByteArray)), H', ⟨zq15⟩, ⟨zq4⟩, ⟨zq13⟩, ⟨zq10⟩⟩
        case rest =>
         clear HC19; (try clear c1); (try clear p1); (try clear q1); (try clear hx1); (try clear c2); (try clear p2); (try clear c3); (try clear c6); (try clear c6b0); (try clear p6); (try clear c7); (try clear c7b0); (try clear c7b1); (try clear c8); (try clear c8b0); (try clear c8b1); (try clear c11); (try clear c14); (try clear c15); (try clear c17); (try clear c17b0); (try clear p18); (try clear q18); (try clear hx18); (try clear c20); (try clear c22); (try clear c22b0); (try clear c22b1); (try clear c23); (try clear c23b0); (try clear c23b1); (try clear c25); (try clear c26); (try clear c28); (try clear c30); (try clear hcz15_0); (try clear hcz15_1); (try clear hcz15_2); (try clear hcz27_0); (try clear hcz27_1); (try clear hcz27_2); (try clear hcz29_0); (try clear hcz29_1); (try clear hcz29_2); (try clear hcz30_0); (try clear hcz30_1); (try clear hcz30_2); (try clear hfz15_0); (try clear hfz15_1); (try clear hfz15_2); (try clear hfz27_0); (try clear hfz27_1); (try clear hfz27_2); (try clear hfz29_0); (try clear hfz29_1); (try clear hfz29_2); (try clear hfz30_0); (try clear hfz30_1); (try clear hfz30_2); (try clear p1); (try clear p18); (try clear p2); (try clear q1); (try clear q18); obtain ⟨kq, x165000_18, x165001_18, x165002_18, x167001_18, HA, HJ18, BK164, BK166, HB⟩ := hcut
         cases kq with
         | zero => exact absurd HA.out (by simp [impl_ReadRef.j2])
         | succ kj18 =>
          have H := HA.out; clear HA; simp only [impl_ReadRef.j2] at H; by_cases c31 : t169 = true
          ·
           subst c31; rw [if_pos rfl] at H; replace H := Option.bind_eq_some_iff.mp H; obtain ⟨t172, A320, H⟩ := H; (try dsimp only at H); have A32 := aM A320; clear A320; by_cases c33 : t172 = true
           ·
            subst c33; rw [if_pos rfl] at H; simp only [Option.some.injEq, Prod.mk.injEq] at H; obtain ⟨rfl, rfl, rfl, rfl⟩ := H; have hnb34 := NB166_164.out; have hnc34 := NB164_166.out; obtain ⟨hcz35_0, hcz35_1, hcz35_2, hfz35_0, hfz35_1, hfz35_2⟩ := cells3_ (w := wc) BK166
            go_wp2_with (first | ((with_reducible refine gC 31 rfl ?_); refine gL 54 Tryd.func31 #[.string t168] ?_; (with_reducible refine (impl_isDigest.calls t168 true _ A32.out).mono ?_); rintro e w36 ⟨rfl, hb⟩; refine ⟨_, rfl, ?_⟩; replace BK164 := bF BK164 zq16 hb; replace BK166 := bB (g := gb166) (o := .cells #[.string (a0.extract 0 (x4_2 : Int).toNat), .string x167001_18, .string t168] 27 (0, 0)) zq17 hb; replace HB := sB zq10 hb; clear hb; obtain ⟨hcz37_0, hcz37_1, hcz37_2, hfz37_0, hfz37_1, hfz37_2⟩ := cells3_ (w := w36) BK166; obtain ⟨hcz38_0, hcz38_1, hcz38_2, hfz38_0, hfz38_1, hfz38_2⟩ := cells3_ (w := w36) BK164))
            refine bodyPost_ret (results_ct rfl _ _ gb164 27 #[.string (a0.extract 0 (x4_2 : Int).toNat), .string x167001_18, .string t168] (0, 0) _ rfl zq18 Tryd.underlying27 rfl (by kernel_rfl)) rfl ?_; exact ⟨zq19, zq10⟩
           replace c33 := Bool.eq_false_iff.mpr c33; subst c33; rw [if_neg (show ¬ (false = true) by decide)] at H; simp only [Option.some.injEq, Prod.mk.injEq] at H; obtain ⟨rfl, rfl, rfl, rfl⟩ := H; have hnb39 := NB166_164.out; have hnc39 := NB164_166.out; obtain ⟨hcz40_0, hcz40_1, hcz40_2, hfz40_0, hfz40_1, hfz40_2⟩ := cells3_ (w := wc) BK166
           go_wp2_with (first | ((with_reducible refine gC 31 rfl ?_); refine gL 54 Tryd.func31 #[.string t168] ?_; (with_reducible refine (impl_isDigest.calls t168 false _ A32.out).mono ?_); rintro e w41 ⟨rfl, hb⟩; refine ⟨_, rfl, ?_⟩; replace BK164 := bF BK164 zq16 hb; replace BK166 := bB (g := gb166) (o := .cells #[.string (a0.extract 0 (x4_2 : Int).toNat), .string x167001_18, .string t168] 27 (0, 0)) zq17 hb; replace HB := sB zq10 hb; clear hb; obtain ⟨hcz42_0, hcz42_1, hcz42_2, hfz42_0, hfz42_1, hfz42_2⟩ := cells3_ (w := w41) BK164))
           refine bodyPost_ret (results_ct rfl _ _ gb164 27 #[.string (⟨#[]⟩ : ByteArray), .string (⟨#[]⟩ : ByteArray), .string (⟨#[]⟩ : ByteArray)] (0, 0) _ rfl (by refine dW ?_; refine blk_put (cs := #[.string (⟨#[]⟩ : ByteArray), .string (⟨#[]⟩ : ByteArray), .string x165002_18]) ?_ 2 _ rfl; refine dW ?_; refine blk_put (cs := #[.string (⟨#[]⟩ : ByteArray), .string x165001_18, .string x165002_18]) ?_ 1 _ rfl; refine dW ?_; refine blk_put (cs := #[.string x165000_18, .string x165001_18, .string x165002_18]) ?_ 0 _ rfl; refine dW ?_; exact BK164.out) Tryd.underlying27 rfl (by kernel_rfl)) rfl ?_; exact ⟨zq19, zq10⟩
          replace c31 := Bool.eq_false_iff.mpr c31; subst c31; rw [if_neg (show ¬ (false = true) by decide)] at H; simp only [Option.some.injEq, Prod.mk.injEq] at H; obtain ⟨rfl, rfl, rfl, rfl⟩ := H; have hnb43 := NB166_164.out; have hnc43 := NB164_166.out; obtain ⟨hcz44_0, hcz44_1, hcz44_2, hfz44_0, hfz44_1, hfz44_2⟩ := cells3_ (w := wc) BK166; obtain ⟨hcz45_0, hcz45_1, hcz45_2, hfz45_0, hfz45_1, hfz45_2⟩ := cells3_ (w := wc) BK164; go_wp2; refine bodyPost_ret (results_ct rfl _ _ gb164 27 #[.string (a0.extract 0 (x4_2 : Int).toNat), .string x167001_18, .string (⟨#[]⟩ : ByteArray)] (0, 0) _ rfl zq18 Tryd.underlying27 rfl (by kernel_rfl)) rfl ?_; exact ⟨zq19, zq10⟩
     replace c11 := Bool.eq_false_iff.mpr c11; subst c11; rw [if_neg (show ¬ (false = true) by decide)] at H; simp only [Option.some.injEq, Prod.mk.injEq] at H; obtain ⟨rfl, rfl, rfl, rfl⟩ := H
     go_wp2_with (first | ((with_reducible refine gD 5 rfl ?_); refine bE 5 #[.string (⟨#[]⟩ : ByteArray), .string (⟨#[]⟩ : ByteArray), .string (⟨#[]⟩ : ByteArray)] 27 ?_; intro gb166 hg w46 hbox hb; have BK166 := aM hbox; have GW166 := aM (zq98 : w.heap.size ≤ gb166); have GE166 := GW166; replace HB := sB zq5 hb; have NB164_166 := aM (zq99 : gb164 ≠ gb166); have NB166_164 := aM (zq100 : gb166 ≠ gb164); replace BK164 := bG BK164 hb; clear hb hbox hg; have hnb47 := NB166_164.out; have hnc47 := NB164_166.out; obtain ⟨hcz48_0, hcz48_1, hcz48_2, hfz48_0, hfz48_1, hfz48_2⟩ := cells3_ (w := w46) BK166) | ((with_reducible refine gC 36 rfl ?_); refine gL 21 Tryd.func36 #[.string a0, .string (⟨#[64]⟩ : ByteArray)] ?_; (with_reducible refine (strings_Cut.calls a0 (⟨#[64]⟩ : ByteArray) t167 t168 t169 _ A9.out).mono ?_); rintro e w' ⟨rfl, ⟨nd, rfl⟩⟩; refine ⟨_, rfl, ?_⟩) | ((with_reducible refine gC 28 rfl ?_); refine gL 27 Tryd.func28 #[.string (a0.extract 0 (x4_2 : Int).toNat)] ?_; (with_reducible refine (impl_isRepo.calls kj2 (a0.extract 0 (x4_2 : Int).toNat) false _ A10.out).mono ?_); rintro e w49 ⟨rfl, hb⟩; refine ⟨_, rfl, ?_⟩; replace BK164 := bF BK164 zq8 hb; replace BK166 := bB (g := gb166) (o := .cells #[.string (a0.extract 0 (x4_2 : Int).toNat), .string (⟨#[]⟩ : ByteArray), .string (⟨#[]⟩ : ByteArray)] 27 (0, 0)) zq9 hb; replace HB := sB zq10 hb; clear hb; obtain ⟨hcz50_0, hcz50_1, hcz50_2, hfz50_0, hfz50_1, hfz50_2⟩ := cells3_ (w := w49) BK164))
     refine bodyPost_ret (results_ct rfl _ _ gb164 27 #[.string (⟨#[]⟩ : ByteArray), .string (⟨#[]⟩ : ByteArray), .string (⟨#[]⟩ : ByteArray)] (0, 0) _ rfl (by refine dW ?_; refine blk_put (cs := #[.string (⟨#[]⟩ : ByteArray), .string (⟨#[]⟩ : ByteArray), .string (⟨#[]⟩ : ByteArray)]) ?_ 2 _ rfl; refine dW ?_; refine blk_put (cs := #[.string (⟨#[]⟩ : ByteArray), .string (⟨#[]⟩ : ByteArray), .string (⟨#[]⟩ : ByteArray)]) ?_ 1 _ rfl; refine dW ?_; refine blk_put (cs := #[.string (⟨#[]⟩ : ByteArray), .string (⟨#[]⟩ : ByteArray), .string (⟨#[]⟩ : ByteArray)]) ?_ 0 _ rfl; refine dW ?_; exact BK164.out) Tryd.underlying27 rfl (by kernel_rfl)) rfl ?_; exact ⟨zq19, zq10⟩
    exact zq125
   exact zq126

/-! ### laws_big: function 22 -/
def laws_big.f (l0 : List Int) : Option (Bool) := some (decide ((l0.length : Int) > 1048576))
set_option maxHeartbeats 8000000 in
set_option maxRecDepth 100000 in
theorem laws_big.calls (A0 : Option Addr) (c0 : Nat) (l0 : List Int) (r : Bool) (w : World) (hr0 : Kd.C (Kd.int .u8) w A0 l0.length l0) (hc0 : l0.length ≤ c0) (h : laws_big.f l0 = some r) :
  Calls Tryd.prog 22 #[.slice A0 l0.length c0] w fun e w' => e = .returned (.bool r) ∧ Drawn0 w w' := by
 have HR0 := aM hr0; have HC0 := aM hc0; clear hr0 hc0; unfold laws_big.f at h; have H := h; clear h; obtain rfl := Option.some.inj H; go_enter Tryd.func22, Tryd.ntmps22; go_wp2; go_ret; exact ⟨zq6, zq20⟩

/-- A state of type 73 at block g of W; what its slices lead to came in by w0. -/
def IsS73 (w0 W : World) (g : Nat) (f0 : List Int) (f1 : Int) : Prop := ∃ A0 c0, W.heap[g]? = some (.cells #[.slice A0 f0.length c0, .int .i64 f1] 73 (0, 0)) ∧ w0.heap.size ≤ g ∧ Kd.C (Kd.int .u8) w0 A0 f0.length f0
theorem IsS73.grown {w0 W : World} {g : Nat} {f0 : List Int} {f1 : Int} {W1 : World} {row : Option Nat} (h : IsS73 w0 W g f0 f1) (hw : W.grownBy W1 row) (hne : some g ≠ row) : IsS73 w0 W1 g f0 f1 := by
 obtain ⟨A0, c0, hb, hg, hr0⟩ := h; exact ⟨A0, c0, blk_grown hb hw hne, hg, hr0⟩
theorem IsS73.own_neN {w0 W : World} {g : Nat} {f0 : List Int} {f1 : Int} {α : Type} {d : Kd α} {e : Nat} {base : Nat} {ok : Nat → Prop} {v : Value} {xs : List α} (h : IsS73 w0 W g f0 f1) (ho : Kd.N d e W base ok v xs) (ht : e ≠ 73) : some g ≠ v.ownBlock := by
 obtain ⟨A0, c0, hb, hg, hr0⟩ := h; exact Kd.N_ne ho hb ht
theorem IsS73.fresh {w0 W : World} {g : Nat} {f0 : List Int} {f1 : Int} (h : IsS73 w0 W g f0 f1) : ∀ k, W.heap.size ≤ k → k ≠ g := by
 obtain ⟨A0, c0, hb, hg, hr0⟩ := h; exact Kd.freshB hb
theorem IsS73.kept {w0 W : World} {g : Nat} {f0 : List Int} {f1 : Int} {W1 : World} {S : Nat → Prop} (h : IsS73 w0 W g f0 f1) (hk : Kept W W1 S) (hne : ¬ S g) : IsS73 w0 W1 g f0 f1 := by
 obtain ⟨A0, c0, hb, hg, hr0⟩ := h; exact ⟨A0, c0, blk_kept hb hk hne, hg, hr0⟩
theorem IsS73.below {w0 W : World} {g : Nat} {f0 : List Int} {f1 : Int} {W1 : World} (h : IsS73 w0 W g f0 f1) (hw : Below W.heap.size W W1) : IsS73 w0 W1 g f0 f1 := h.grown (grown_of_below hw none) (by simp)
theorem IsS73.alloc {w0 W : World} {g : Nat} {f0 : List Int} {f1 : Int} (h : IsS73 w0 W g f0 f1) (o : Obj) : IsS73 w0 (W.alloc o) g f0 f1 := h.below (below_alloc (Below.refl _ _) o)
theorem IsS73.drewN {w0 W : World} {g : Nat} {f0 : List Int} {f1 : Int} (h : IsS73 w0 W g f0 f1) (m : Nat) : IsS73 w0 (W.drewN m) g f0 f1 := h
theorem IsS73.drew {w0 W : World} {g : Nat} {f0 : List Int} {f1 : Int} (h : IsS73 w0 W g f0 f1) : IsS73 w0 W.drew g f0 f1 := h
theorem IsS73.at_ {w0 W : World} {g : Nat} {f0 : List Int} {f1 : Int} {w' : World} {m : Nat} (hq : W.drewN m = w') (h : IsS73 w0 W g f0 f1) : IsS73 w0 w' g f0 f1 := by subst hq; exact IsS73.drewN h m
theorem IsS73.apart {w0 W : World} {g : Nat} {f0 : List Int} {f1 : Int} {α : Type} {d : Kd α} {e : Nat} {base : Nat} {ok : Nat → Prop} {v : Value} {xs : List α} (h : IsS73 w0 W g f0 f1) (ho : d.R e W base ok v xs) (ht : ∀ q, q ∈ e :: d.E → q ≠ 73) : d.R e W base (fun k => ok k ∧ k ≠ g) v xs := by
 obtain ⟨A0, c0, hb, hg, hr0⟩ := h; exact Kd.R_types ho hb ht
theorem IsS73.own_ne {w0 W : World} {g : Nat} {f0 : List Int} {f1 : Int} {α : Type} {d : Kd α} {e : Nat} {base : Nat} {ok : Nat → Prop} {v : Value} {xs : List α} (h : IsS73 w0 W g f0 f1) (ho : d.R e W base ok v xs) (ht : e ≠ 73) : some g ≠ v.ownBlock := by
 obtain ⟨A0, c0, hb, hg, hr0⟩ := h; exact Kd.R_ne ho hb ht
theorem IsS73.apartQ {w0 W : World} {g : Nat} {f0 : List Int} {f1 : Int} {α : Type} {d : Kd α} {e : Nat} {base : Nat} {ok : Nat → Prop} {v : Value} {xs : List α} (h : IsS73 w0 W g f0 f1) (ho : d.Q e W base ok v xs) (ht : ∀ q, q ∈ e :: d.E → q ≠ 73) : d.Q e W base (fun k => ok k ∧ k ≠ g) v xs := by
 obtain ⟨A0, c0, hb, hg, hr0⟩ := h; exact Kd.Q_types ho hb ht
theorem IsS73.own_neQ {w0 W : World} {g : Nat} {f0 : List Int} {f1 : Int} {α : Type} {d : Kd α} {e : Nat} {base : Nat} {ok : Nat → Prop} {v : Value} {xs : List α} (h : IsS73 w0 W g f0 f1) (ho : d.Q e W base ok v xs) (ht : e ≠ 73) : some g ≠ v.ownBlock := by
 obtain ⟨A0, c0, hb, hg, hr0⟩ := h; exact Kd.Q_ne ho hb ht
theorem IsS73.apartS {w0 W : World} {g : Nat} {f0 : List Int} {f1 : Int} {α : Type} {d : Kd α} {e : Nat} {base : Nat} {ok : Nat → Prop} {v : Value} {xs : List α} (h : IsS73 w0 W g f0 f1) (ho : d.S e W base ok v xs) (ht : ∀ q, q ∈ e :: d.E → q ≠ 73) : d.S e W base (fun k => ok k ∧ k ≠ g) v xs := by
 obtain ⟨A0, c0, hb, hg, hr0⟩ := h; exact Kd.S_types ho hb ht
theorem IsS73.own_neS {w0 W : World} {g : Nat} {f0 : List Int} {f1 : Int} {α : Type} {d : Kd α} {e : Nat} {base : Nat} {ok : Nat → Prop} {v : Value} {xs : List α} (h : IsS73 w0 W g f0 f1) (ho : d.S e W base ok v xs) (ht : e ≠ 73) : some g ≠ v.ownBlock := by
 obtain ⟨A0, c0, hb, hg, hr0⟩ := h; exact Kd.S_ne ho hb ht
theorem IsS73.lt {w0 W : World} {g : Nat} {f0 : List Int} {f1 : Int} (h : IsS73 w0 W g f0 f1) : g < W.heap.size := by
 obtain ⟨A0, c0, hb, hg, hr0⟩ := h; exact blk_lt hb
theorem IsS73.ge {w0 W : World} {g : Nat} {f0 : List Int} {f1 : Int} (h : IsS73 w0 W g f0 f1) : w0.heap.size ≤ g := by
 obtain ⟨A0, c0, hb, hg, hr0⟩ := h; exact hg
theorem IsS73.ne_blk {w0 W : World} {g : Nat} {f0 : List Int} {f1 : Int} {a : Nat} {cs : Array Value} {t : TypeId} {fr : Nat × Nat} (h : IsS73 w0 W g f0 f1) (hb2 : W.heap[a]? = some (.cells cs t fr)) (ht : t ≠ 73) : g ≠ a := by
 obtain ⟨A0, c0, hb, hg, hr0⟩ := h; rintro rfl; rw [hb] at hb2
 injection hb2 with hb2
 injection hb2 with _ ht2
 exact ht ht2.symm
theorem IsS73.far {w0 W : World} {g : Nat} {f0 : List Int} {f1 : Int} {p : Addr} (h : IsS73 w0 W g f0 f1) (hne : g ≠ p.block) (u : Value) : IsS73 w0 (W.setCell p u) g f0 f1 := by
 obtain ⟨A0, c0, hb, hg, hr0⟩ := h; exact ⟨A0, c0, blk_far hb hne u, hg, hr0⟩
theorem cellS73_0 {W : World} {g : Nat} {A0 : Option Addr} {c0 : Nat} {f0 : List Int} {f1 : Int} (h : W.heap[g]? = some (.cells #[.slice A0 f0.length c0, .int .i64 f1] 73 (0, 0))) : W.cell? ⟨g, 0, none⟩ = some (.slice A0 f0.length c0) := (blk_cell h 0).trans rfl
theorem cellS73_1 {W : World} {g : Nat} {A0 : Option Addr} {c0 : Nat} {f0 : List Int} {f1 : Int} (h : W.heap[g]? = some (.cells #[.slice A0 f0.length c0, .int .i64 f1] 73 (0, 0))) : W.cell? ⟨g, 1, none⟩ = some (.int .i64 f1) := (blk_cell h 1).trans rfl
theorem IsS73.set_1 {w0 W : World} {g : Nat} {f0 : List Int} {f1 : Int} (h : IsS73 w0 W g f0 f1) (x : Int) : IsS73 w0 (W.setCell ⟨g, 1, none⟩ (.int .i64 x)) g f0 x := by
 obtain ⟨A0, c0, hb, hg, hr0⟩ := h; exact ⟨A0, c0, by simpa using blk_set hb 1 (.int .i64 x), hg, hr0⟩
theorem IsS73.new (w0 W : World) (A0 : Option Addr) (c0 : Nat) (f0 : List Int) (f1 : Int) (hB : Below w0.heap.size w0 W) (hr0 : Kd.C (Kd.int .u8) w0 A0 f0.length f0) : IsS73 w0 (W.alloc (.cells #[.slice A0 f0.length c0, .int .i64 f1] 73)) W.heap.size f0 f1 := ⟨A0, c0, by simpa using heap_alloc_new W _, hB.size, hr0⟩

/-! ### spec_l1Open: function 42 -/
def spec_l1Open.f (l0 : List Int) : Option (List Int × Int) := some (l0, 0)
set_option maxHeartbeats 8000000 in
set_option maxRecDepth 100000 in
theorem spec_l1Open.calls (A0 : Option Addr) (c0 : Nat) (l0 : List Int) (r1 : List Int) (r2 : Int) (w0 w : World) (hB : Below w0.heap.size w0 w) (hr0 : Kd.C (Kd.int .u8) w0 A0 l0.length l0) (hc0 : l0.length ≤ c0) (h : spec_l1Open.f l0 = some (r1, r2)) :
  Calls Tryd.prog 42 #[.slice A0 l0.length c0] w fun e w' => ∃ g_ : Nat, e = .returned (.pointer (some ⟨g_, 0, none⟩)) ∧ IsS73 w0 w' g_ r1 r2 ∧ Below w0.heap.size w0 w' ∧ Below w.heap.size w w' := by
 have hu73 := Tryd.underlying73; have HR0 := aM hr0; have HC0 := aM hc0; clear hr0 hc0; have HBW := aM (Below.refl w.heap.size w); have HW0 := aM hB.size; have HB := aM hB; clear hB; have H : (some (l0, 0)) = some (r1, r2) := h; clear h; simp only [Option.some.injEq, Prod.mk.injEq] at H; obtain ⟨rfl, rfl⟩ := H; go_enter Tryd.func42, Tryd.ntmps42
 go_wp2_with (first | ((with_reducible refine gD 5 rfl ?_); refine bE 5 #[.slice A0 l0.length c0, .int .i64 0] 73 ?_; intro gb173 hg w2 hbox hb; replace HB := sB zq2 hb; have BK173 := aM hbox; have GW173 := aM (by rw [hg]; exact (below_size zq21) : w.heap.size ≤ gb173); have GE173 := aM (Nat.le_trans HW0.out (by rw [hg]; exact (below_size zq21) : w.heap.size ≤ gb173) : w0.heap.size ≤ gb173); replace HBW := aM (below_step HBW.out hb); clear hb hbox hg))
 go_ret; exact ⟨_, rfl, (show IsS73 w0 _ gb173 l0 0 from ⟨_, _, by refine dW ?_; exact BK173.out, GE173.out, HR0.out⟩), by repeat (first | (with_reducible first | exact HB.out | apply below_alloc | apply pw_below_drewN | apply below_drew1 | refine below_set ?_ GE173.out) | exact HB.out), by repeat (first | (with_reducible first | exact HBW.out | apply below_alloc | apply pw_below_drewN | apply below_drew1 | refine below_set ?_ GW173.out) | exact HBW.out)⟩

/-! ### spec_l1Rd_next: function 66 -/
def spec_l1Rd_next.f (s0_0 : List Int) (s0_1 : Int) : Option (Int × Int) := if s0_1 ≥ (s0_0.length : Int) then (some (0, s0_1)) else (if 0 ≤ (wrap64 ((wrap64 (s0_1 + 1)) - 1)) then (if (wrap64 ((wrap64 (s0_1 + 1)) - 1)) < (s0_0.length : Int) then (some (wrap64 (rd s0_0 (wrap64 ((wrap64 (s0_1 + 1)) - 1))), wrap64 (s0_1 + 1))) else (none)) else (none))
set_option maxHeartbeats 8000000 in
set_option maxRecDepth 100000 in
theorem spec_l1Rd_next.calls (g : Nat) (s0_0 : List Int) (s0_1 : Int) (r1 : Int) (r2 : Int) (w0 w : World) (hI : IsS73 w0 w g s0_0 s0_1) (hB : Below w0.heap.size w0 w) (h : spec_l1Rd_next.f s0_0 s0_1 = some (r1, r2)) :
  Calls Tryd.prog 66 #[.pointer (some ⟨g, 0, none⟩)] w fun e w' => e = .returned (.int .i64 r1) ∧ IsS73 w0 w' g s0_0 r2 ∧ Below w0.heap.size w0 w' ∧ KeepBut w w' g none := by
 have HI0 := aM hI; have HK := aM (KeepBut.refl w g none); have HL := aM hB.size; clear hI; have HW0 := aM hB.size; have HB := aM hB; clear hB; unfold spec_l1Rd_next.f at h; have H := h; clear h; by_cases c2 : s0_1 ≥ (s0_0.length : Int)
 ·
  rw [if_pos c2] at H; have c2b0 : decide ((s0_0.length : Int) ≤ s0_1) = true := decide_eq_true c2; clear c2; simp only [Option.some.injEq, Prod.mk.injEq] at H; obtain ⟨rfl, rfl⟩ := H; obtain ⟨ASz3_0, cSz3_0, HGz3, hgz3, HSz3_0⟩ := HI0.out; have hcz3_0 := cellS73_0 HGz3; have hcz3_1 := cellS73_1 HGz3; have hfz3_1 := blk_frozen HGz3 1; clear HGz3 hgz3; go_enter Tryd.func66, Tryd.ntmps66; go_wp2
  repeat (go_quiet (fail); try go_wp2)
  go_ret; exact ⟨zq19, zq22, zq23, zq24⟩
 rw [if_neg c2] at H; have c2b0 : decide ((s0_0.length : Int) ≤ s0_1) = false := decide_eq_false c2; clear c2; obtain ⟨ji4, hji4⟩ : ∃ j_ : Int, (wrap64 ((wrap64 (s0_1 + 1)) - 1)) = j_ := ⟨_, rfl⟩; replace H : (if 0 ≤ (ji4) then (if (ji4) < (s0_0.length : Int) then (some (wrap64 (rd s0_0 (ji4)), wrap64 (s0_1 + 1))) else (none)) else (none)) = some (r1, r2) := by first | (rw [hji4] at H; exact H) | (simp only [hji4] at H ⊢; exact H)
 have hji4w : (IntKind.i64.wrap ((wrap64 (s0_1 + 1)) - 1)) = ji4 := (i64_w _).trans hji4; by_cases c5 : 0 ≤ (ji4)
 ·
  rw [if_pos c5] at H; have c5b0 := decide_eq_true c5; clear c5; by_cases c6 : (ji4) < (s0_0.length : Int)
  ·
   rw [if_pos c6] at H; have c6b0 := decide_eq_true c6; clear c6; simp only [Option.some.injEq, Prod.mk.injEq] at H; obtain ⟨rfl, rfl⟩ := H; obtain ⟨ASz7_0, cSz7_0, HGz7, hgz7, HSz7_0⟩ := HI0.out; have hcz7_0 := cellS73_0 HGz7; have hcz7_1 := cellS73_1 HGz7; have hfz7_1 := blk_frozen HGz7 1; clear HGz7 hgz7; have p174 : 0 ≤ ((ji4) : Int) := of_decide_eq_true zq11; have q174 : (ji4) < (s0_0.length : Int) := of_decide_eq_true zq11; obtain ⟨ad174, e174, hx174_0⟩ := Kd.at_int HSz7_0 (ji4) p174 q174; cases e174; have hn174_0 : ad174.block ≠ g := Nat.ne_of_lt (Nat.lt_of_lt_of_le (by have := World.block_lt_of_cell? _ _ hx174_0; first | rwa [add_block] at this | exact this) (IsS73.ge HI0.out)); replace hx174_0 := pw_cell_below HB.out hx174_0; replace hx174_0 := (cell_far (p := ⟨g, 1, none⟩) (by first | (rw [add_block]; exact hn174_0) | (show (Addr.add _ _).block ≠ _; rw [add_block]; exact hn174_0) | exact hn174_0) (.int .i64 (wrap64 (s0_1 + 1)))).trans hx174_0
   (try have hy174_0 := fun (n_ : Nat) => (show (((w.drewN n_).setCell ⟨g, 1, none⟩ (.int .i64 (wrap64 (s0_1 + 1))))).cell? _ = some _ from hx174_0))
   clear hn174_0; replace p174 := eq_true p174; replace q174 := eq_true q174; go_enter Tryd.func66, Tryd.ntmps66; go_wp2
   repeat (go_quiet (fail); try go_wp2)
   go_ret; exact ⟨by first | rfl | (simp [errW_none, errW_some] <;> rfl) | (simp only [← hji4]; first | rfl | (simp [errW_none, errW_some] <;> rfl)) | (simp [*, errW_none, errW_some] <;> rfl), zq22, zq23, zq24⟩
  exact zq127
 exact zq128

/-! ### spec_l1Rd_below: function 44 -/
def spec_l1Rd_below.f (s0_0 : List Int) (s0_1 : Int) (a1 : Int) : Option (Int × Int) := if a1 ≤ 1 then (some (0, s0_1)) else (if a1 ≤ 256 then ((spec_l1Rd_next.f s0_0 s0_1).bind fun bt175 => (if a1 = 0 then (none) else (some (Int.tmod bt175.1 a1, bt175.2)))) else ((spec_l1Rd_next.f s0_0 s0_1).bind fun bt177 => ((spec_l1Rd_next.f s0_0 bt177.2).bind fun bt179 => (if a1 = 0 then (none) else (some (Int.tmod (wrap64 ((wrap64 (bt177.1 * 256)) + bt179.1)) a1, bt179.2))))))
set_option maxHeartbeats 8000000 in
set_option maxRecDepth 100000 in
theorem spec_l1Rd_below.calls (g : Nat) (s0_0 : List Int) (s0_1 : Int) (a1 : Int) (r1 : Int) (r2 : Int) (w0 w : World) (hI : IsS73 w0 w g s0_0 s0_1) (hB : Below w0.heap.size w0 w) (h : spec_l1Rd_below.f s0_0 s0_1 a1 = some (r1, r2)) :
  Calls Tryd.prog 44 #[.pointer (some ⟨g, 0, none⟩), .int .i64 a1] w fun e w' => e = .returned (.int .i64 r1) ∧ IsS73 w0 w' g s0_0 r2 ∧ Below w0.heap.size w0 w' ∧ KeepBut w w' g none := by
 have HI0 := aM hI; have HK := aM (KeepBut.refl w g none); have HL := aM hB.size; clear hI; have HW0 := aM hB.size; have HB := aM hB; clear hB; unfold spec_l1Rd_below.f at h; have H := h; clear h; by_cases c3 : a1 ≤ 1
 ·
  rw [if_pos c3] at H; have c3b0 := decide_eq_true c3; clear c3; simp only [Option.some.injEq, Prod.mk.injEq] at H; obtain ⟨rfl, rfl⟩ := H; go_enter Tryd.func44, Tryd.ntmps44; go_wp2; go_ret; exact ⟨zq19, zq22, zq23, zq24⟩
 rw [if_neg c3] at H; have c3b0 := decide_eq_false c3; clear c3; by_cases c4 : a1 ≤ 256
 ·
  rw [if_pos c4] at H; have c4b0 := decide_eq_true c4; clear c4; replace H := Option.bind_eq_some_iff.mp H; obtain ⟨⟨t175, t176⟩, A50, H⟩ := H; (try dsimp only at H); have A5 := aM A50; clear A50; by_cases c6 : a1 = 0
  ·
   rw [if_pos c6] at H; exact absurd H (by simp)
  rw [if_neg c6] at H; have c6b0 : (a1 == 0) = false := beq_eq_false_iff_ne.mpr c6; have c6b1 : (a1 != 0) = true := bne_iff_ne.mpr c6; simp only [Option.some.injEq, Prod.mk.injEq] at H; obtain ⟨rfl, rfl⟩ := H; go_enter Tryd.func44, Tryd.ntmps44
  go_wp2_with (first | ((with_reducible refine gC 66 rfl ?_); refine gL 11 Tryd.func66 #[.pointer (some ⟨g, 0, none⟩)] ?_; (with_reducible refine (spec_l1Rd_next.calls g s0_0 s0_1 t175 t176 w0 _ ?_ ?_ A5.out).mono ?_); exact zq22; exact zq23; rintro e w7 ⟨rfl, hi, hb, hk⟩; refine ⟨_, rfl, ?_⟩; replace HK := aM (KeepBut.trans zq24 hk (.inl rfl)); replace HB := aM hb; replace HI0 := aM hi; clear hb; (try clear hk); (try clear hi)))
  go_ret; exact ⟨zq19, zq22, zq23, zq24⟩
 rw [if_neg c4] at H; have c4b0 := decide_eq_false c4; clear c4; replace H := Option.bind_eq_some_iff.mp H; obtain ⟨⟨t177, t178⟩, A80, H⟩ := H; (try dsimp only at H); have A8 := aM A80; clear A80; replace H := Option.bind_eq_some_iff.mp H; obtain ⟨⟨t179, t180⟩, A90, H⟩ := H; (try dsimp only at H); have A9 := aM A90; clear A90; by_cases c10 : a1 = 0
 ·
  rw [if_pos c10] at H; exact absurd H (by simp)
 rw [if_neg c10] at H; have c10b0 : (a1 == 0) = false := beq_eq_false_iff_ne.mpr c10; have c10b1 : (a1 != 0) = true := bne_iff_ne.mpr c10; simp only [Option.some.injEq, Prod.mk.injEq] at H; obtain ⟨rfl, rfl⟩ := H; go_enter Tryd.func44, Tryd.ntmps44
 go_wp2_with (first | ((with_reducible refine gC 66 rfl ?_); refine gL 15 Tryd.func66 #[.pointer (some ⟨g, 0, none⟩)] ?_; (with_reducible refine (spec_l1Rd_next.calls g s0_0 s0_1 t177 t178 w0 _ ?_ ?_ A8.out).mono ?_); exact zq22; exact zq23; rintro e w11 ⟨rfl, hi, hb, hk⟩; refine ⟨_, rfl, ?_⟩; replace HK := aM (KeepBut.trans zq24 hk (.inl rfl)); replace HB := aM hb; replace HI0 := aM hi; clear hb; (try clear hk); (try clear hi)) | ((with_reducible refine gC 66 rfl ?_); refine gL 19 Tryd.func66 #[.pointer (some ⟨g, 0, none⟩)] ?_; (with_reducible refine (spec_l1Rd_next.calls g s0_0 t178 t179 t180 w0 _ ?_ ?_ A9.out).mono ?_); exact zq22; exact zq23; rintro e w12 ⟨rfl, hi, hb, hk⟩; refine ⟨_, rfl, ?_⟩; replace HK := aM (KeepBut.trans zq24 hk (.inl rfl)); replace HB := aM hb; replace HI0 := aM hi; clear hb; (try clear hk); (try clear hi)))
 go_ret; exact ⟨zq19, zq22, zq23, zq24⟩

/-! ### spec_l1Rd_once: function 46 -/
def spec_l1Rd_once.f (s0_0 : List Int) (s0_1 : Int) (a1 : Int) : Option (Bool × Int) := (spec_l1Rd_below.f s0_0 s0_1 a1).bind fun bt181 => (some ((bt181.1 == (wrap64 (a1 - 1))), bt181.2))
set_option maxHeartbeats 8000000 in
set_option maxRecDepth 100000 in
theorem spec_l1Rd_once.calls (g : Nat) (s0_0 : List Int) (s0_1 : Int) (a1 : Int) (r1 : Bool) (r2 : Int) (w0 w : World) (hI : IsS73 w0 w g s0_0 s0_1) (hB : Below w0.heap.size w0 w) (h : spec_l1Rd_once.f s0_0 s0_1 a1 = some (r1, r2)) :
  Calls Tryd.prog 46 #[.pointer (some ⟨g, 0, none⟩), .int .i64 a1] w fun e w' => e = .returned (.bool r1) ∧ IsS73 w0 w' g s0_0 r2 ∧ Below w0.heap.size w0 w' ∧ KeepBut w w' g none := by
 have HI0 := aM hI; have HK := aM (KeepBut.refl w g none); have HL := aM hB.size; clear hI; have HW0 := aM hB.size; have HB := aM hB; clear hB; unfold spec_l1Rd_once.f at h; have H := h; clear h; replace H := Option.bind_eq_some_iff.mp H; obtain ⟨⟨t181, t182⟩, A30, H⟩ := H; (try dsimp only at H); have A3 := aM A30; clear A30; simp only [Option.some.injEq, Prod.mk.injEq] at H; obtain ⟨rfl, rfl⟩ := H; go_enter Tryd.func46, Tryd.ntmps46
 go_wp2_with (first | ((with_reducible refine gC 44 rfl ?_); refine gL 7 Tryd.func44 #[.pointer (some ⟨g, 0, none⟩), .int .i64 a1] ?_; (with_reducible refine (spec_l1Rd_below.calls g s0_0 s0_1 a1 t181 t182 w0 _ ?_ ?_ A3.out).mono ?_); exact zq22; exact zq23; rintro e w4 ⟨rfl, hi, hb, hk⟩; refine ⟨_, rfl, ?_⟩; replace HK := aM (KeepBut.trans zq24 hk (.inl rfl)); replace HB := aM hb; replace HI0 := aM hi; clear hb; (try clear hk); (try clear hi)))
 go_ret; exact ⟨zq19, zq22, zq23, zq24⟩

/-! ### spec_l1Rd_repo: function 63 -/
def spec_l1Rd_repo.f (s0_0 : List Int) (s0_1 : Int) : Option (ByteArray × Int) := (some (([(⟨#[97, 112, 112]⟩ : ByteArray), (⟨#[97, 47, 98]⟩ : ByteArray), (⟨#[108, 105, 98, 47, 119, 101, 98, 45, 49]⟩ : ByteArray), (⟨#[120, 46, 121, 47, 122, 95, 95, 113]⟩ : ByteArray), (⟨#[109, 45, 45, 110]⟩ : ByteArray), (⟨#[97, 112, 112]⟩ : ByteArray)] : List ByteArray) : List ByteArray)).bind fun y183 => ((spec_l1Rd_below.f s0_0 s0_1 6).bind fun bt186 => (if 0 ≤ bt186.1 then (if bt186.1 < (y183.length : Int) then (some (rdOf ByteArray.empty y183 bt186.1, bt186.2)) else (none)) else (none)))
set_option maxHeartbeats 8000000 in
set_option maxRecDepth 100000 in
theorem spec_l1Rd_repo.calls (g : Nat) (s0_0 : List Int) (s0_1 : Int) (r1 : ByteArray) (r2 : Int) (w0 w : World) (hI : IsS73 w0 w g s0_0 s0_1) (hB : Below w0.heap.size w0 w) (h : spec_l1Rd_repo.f s0_0 s0_1 = some (r1, r2)) :
  Calls Tryd.prog 63 #[.pointer (some ⟨g, 0, none⟩)] w fun e w' => e = .returned (.string r1) ∧ IsS73 w0 w' g s0_0 r2 ∧ Below w0.heap.size w0 w' ∧ KeepBut w w' g none := by
 have HI0 := aM hI; have HK := aM (KeepBut.refl w g none); have HL := aM hB.size; clear hI; have HW0 := aM hB.size; have HB := aM hB; clear hB; unfold spec_l1Rd_repo.f at h; have H := h; clear h; obtain ⟨y183, hy183⟩ : ∃ y_ : List ByteArray, y_ = (([(⟨#[97, 112, 112]⟩ : ByteArray), (⟨#[97, 47, 98]⟩ : ByteArray), (⟨#[108, 105, 98, 47, 119, 101, 98, 45, 49]⟩ : ByteArray), (⟨#[120, 46, 121, 47, 122, 95, 95, 113]⟩ : ByteArray), (⟨#[109, 45, 45, 110]⟩ : ByteArray), (⟨#[97, 112, 112]⟩ : ByteArray)] : List ByteArray)) := ⟨_, rfl⟩; have hy_ := hy183; replace H : ((spec_l1Rd_below.f s0_0 s0_1 6).bind fun bt186 => (if 0 ≤ bt186.1 then (if bt186.1 < (y183.length : Int) then (some (rdOf ByteArray.empty y183 bt186.1, bt186.2)) else (none)) else (none))) = some (r1, r2) := hyE; clear hy_; have Ny183 := aM hy183; clear hy183; replace H := Option.bind_eq_some_iff.mp H; obtain ⟨⟨t186, t187⟩, A20, H⟩ := H; (try dsimp only at H); have A2 := aM A20; clear A20; by_cases c3 : 0 ≤ t186
 ·
  rw [if_pos c3] at H; have c3b0 := decide_eq_true c3; clear c3; by_cases c4 : t186 < (y183.length : Int)
  ·
   rw [if_pos c4] at H; have c4b0 := decide_eq_true c4; clear c4; simp only [Option.some.injEq, Prod.mk.injEq] at H; obtain ⟨rfl, rfl⟩ := H; go_enter Tryd.func63, Tryd.ntmps63
   go_wp2_with (first | ((with_reducible refine gD 3 rfl ?_); refine Kd.R_lit Kd.string _ 9 ?hg (N := 3) ?hd (xs := ([(⟨#[97, 112, 112]⟩ : ByteArray), (⟨#[97, 47, 98]⟩ : ByteArray), (⟨#[108, 105, 98, 47, 119, 101, 98, 45, 49]⟩ : ByteArray), (⟨#[120, 46, 121, 47, 122, 95, 95, 113]⟩ : ByteArray), (⟨#[109, 45, 45, 110]⟩ : ByteArray), (⟨#[97, 112, 112]⟩ : ByteArray)] : List ByteArray)) (inner := [.string (⟨#[97, 112, 112]⟩ : ByteArray), .string (⟨#[97, 47, 98]⟩ : ByteArray), .string (⟨#[108, 105, 98, 47, 119, 101, 98, 45, 49]⟩ : ByteArray), .string (⟨#[120, 46, 121, 47, 122, 95, 95, 113]⟩ : ByteArray), .string (⟨#[109, 45, 45, 110]⟩ : ByteArray), .string (⟨#[97, 112, 112]⟩ : ByteArray)]) (ok := fun _ => True) (okp := fun _ => True) ?hr ?hp (fun _ hk => hk) trivial (Below.refl _ _) (Nat.le_refl _) (by simp) ?_; (case hd => rfl); (case hg => rfl); (case hr => exact zq1); (case hp => exact (Reps.one (show Kd.M Kd.string _ _ _ (⟨#[97, 112, 112]⟩ : ByteArray) [.string (⟨#[97, 112, 112]⟩ : ByteArray)] from rfl) (Reps.one (show Kd.M Kd.string _ _ _ (⟨#[97, 47, 98]⟩ : ByteArray) [.string (⟨#[97, 47, 98]⟩ : ByteArray)] from rfl) (Reps.one (show Kd.M Kd.string _ _ _ (⟨#[108, 105, 98, 47, 119, 101, 98, 45, 49]⟩ : ByteArray) [.string (⟨#[108, 105, 98, 47, 119, 101, 98, 45, 49]⟩ : ByteArray)] from rfl) (Reps.one (show Kd.M Kd.string _ _ _ (⟨#[120, 46, 121, 47, 122, 95, 95, 113]⟩ : ByteArray) [.string (⟨#[120, 46, 121, 47, 122, 95, 95, 113]⟩ : ByteArray)] from rfl) (Reps.one (show Kd.M Kd.string _ _ _ (⟨#[109, 45, 45, 110]⟩ : ByteArray) [.string (⟨#[109, 45, 45, 110]⟩ : ByteArray)] from rfl) (Reps.one (show Kd.M Kd.string _ _ _ (⟨#[97, 112, 112]⟩ : ByteArray) [.string (⟨#[97, 112, 112]⟩ : ByteArray)] from rfl) (Reps.none _ _)))))))); intro v184 w5 ho6 hb hg_ hnew_; clear hg_ hnew_; (first | rw [← Ny183.out] at ho6 | (simp only [Int.reduceToNat] at ho6; rw [← Ny183.out] at ho6)); have HO185 := aM (Kd.R_lower ho6 (keep_size (w := w) (g := g) (row := none) zq24)); replace HK := aM (KeepBut.trans zq24 (KeepBut.of_below hb g none) (.inl rfl)); replace HB := sB zq23 hb; replace HI0 := aM (IsS73.below zq22 hb); clear hb ho6) | ((with_reducible refine gC 44 rfl ?_); refine gL 5 Tryd.func44 #[.pointer (some ⟨g, 0, none⟩), .int .i64 6] ?_; (with_reducible refine (spec_l1Rd_below.calls g s0_0 s0_1 6 t186 t187 w0 _ ?_ ?_ A2.out).mono ?_); exact zq22; exact zq23; rintro e w7 ⟨rfl, hi, hb, hk⟩; refine ⟨_, rfl, ?_⟩; replace HO185 := aM (Kd.R_mono (Kd.R_keep (IsS73.apart (show IsS73 w0 _ g s0_0 s0_1 from by repeat (first | (with_reducible first | exact HI0.out | apply IsS73.alloc | apply IsS73.drewN | apply IsS73.drew | apply IsS73.set_1) | exact HI0.out)) (by refine dR ?_; exact HO185.out) (by decide)) hk (fun _ h => h.2)) (fun _ h => h.1)); replace HK := aM (KeepBut.trans zq24 hk (.inl rfl)); replace HB := aM hb; replace HI0 := aM hi; clear hb; (try clear hk); (try clear hi); obtain ⟨Ao8, co8, eo8⟩ := Kd.R_slice HO185.out; subst eo8; have p188 : 0 ≤ (t186 : Int) := of_decide_eq_true zq11; have q188 : t186 < (y183.length : Int) := of_decide_eq_true zq11; obtain ⟨ad188, e188, hx188_0⟩ := Kd.at_string (Kd.R_reads' HO185.out).2.2 t186 p188 q188; cases e188; replace p188 := eq_true p188; replace q188 := eq_true q188))
   go_ret; exact ⟨zq19, zq22, zq23, zq24⟩
  exact zq129
 exact zq130

end Go.Proofs.YtldpdaifajjaeaaDoor.QFnRefs
