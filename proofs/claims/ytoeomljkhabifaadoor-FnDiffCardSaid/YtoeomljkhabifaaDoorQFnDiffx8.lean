/- Written by wip/myprint.py of this repo (the kit's print, with additions of this session). -/
import Derived.Test.YtoeomljkhabifaaDoorQFnDiffx0
import Derived.Test.YtoeomljkhabifaaDoorQFnDiffx1
import Derived.Test.YtoeomljkhabifaaDoorQFnDiffx3
import Derived.Test.YtoeomljkhabifaaDoorQFnDiffx4
import Derived.Test.YtoeomljkhabifaaDoorQFnDiffx7
set_option maxRecDepth 100000
namespace Go.Proofs.YtoeomljkhabifaaDoor.QFnDiff
open Go.RowKit Go.Proofs.YtoeomljkhabifaaDoorW.PrintWords Go.Proofs.YtoeomljkhabifaaDoorW.PrintLast Go.Proofs.YtoeomljkhabifaaDoorW.PrintMore
attribute [local go_sem] max2_int min2_int max_two min_two max_three min_three max_four min_four   -- for this text's walks alone
set_option linter.unusedVariables false
set_option linter.unusedSimpArgs false

/-! ### spec_Steps: function 11 -/
mutual
def spec_Steps.j0 : Nat → List ByteArray → List ByteArray → List ByteArray → List ByteArray → List ByteArray → Bool → Option (List ByteArray × List ByteArray × List ByteArray × Bool)
 | 0, _, _, _, _, _, _ => none
 | k + 1, x0, x1, x8, x9, x10, x25 => if x25 = true then (some (x8, x9, x10, false)) else (if x8.length < 8796093022208 then (spec_Steps.l0 k x0 x1 (x8 ++ [(⟨#[]⟩ : ByteArray)]) x9 x10 0) else (none))
def spec_Steps.l0 : Nat → List ByteArray → List ByteArray → List ByteArray → List ByteArray → List ByteArray → Int → Option (List ByteArray × List ByteArray × List ByteArray × Bool)
 | 0, _, _, _, _, _, _ => none
 | k + 1, x0, x1, x8, x9, x10, x11 => if x11 < (x8.length : Int) then (if 0 ≤ x11 then ((spec_l7Under.f k x0 (rdOf ByteArray.empty x8 x11)).bind fun t303 => ((spec_l7Under.f k x1 (rdOf ByteArray.empty x8 x11)).bind fun t306 => ((spec_l7Node.f k t303 (rdOf ByteArray.empty x8 x11)).bind fun t309 => ((spec_l7Node.f k t306 (rdOf ByteArray.empty x8 x11)).bind fun t310 => (if t309.toList = t310.toList then (spec_Steps.l0 k x0 x1 x8 x9 x10 (wrap64 (x11 + 1))) else (if ((rdOf ByteArray.empty x8 x11).size : Int) < 2 then ((spec_l7Below.f k (rdOf ByteArray.empty x8 x11)).bind fun t311 => (if x8.length + t311.length < 8796093022208 then (spec_Steps.l0 k x0 x1 (x8 ++ t311) x9 x10 (wrap64 (x11 + 1))) else (none))) else ((spec_l7Less.f k t303 t306).bind fun t317 => (if x9.length + t317.length < 8796093022208 then ((spec_l7Less.f k t306 t303).bind fun t323 => (if x10.length + t323.length < 8796093022208 then (spec_Steps.l0 k x0 x1 x8 (x9 ++ t317) (x10 ++ t323) (wrap64 (x11 + 1))) else (none))) else (none))))))))) else (none)) else (some (x8, x9, x10, true))
end
def spec_Steps.f (k : Nat) (l0 : List ByteArray) (l1 : List ByteArray) : Option (List ByteArray × List ByteArray × List ByteArray × Bool) := (some (([] : List ByteArray) : List ByteArray)).bind fun y288 => ((some (([] : List ByteArray) : List ByteArray)).bind fun y291 => ((some (([] : List ByteArray) : List ByteArray)).bind fun y294 => ((spec_l7Set.f k l0).bind fun t297 => (if t297 = true then ((spec_l7Set.f k l1).bind fun t298 => (spec_Steps.j0 k l0 l1 y288 y291 y294 (!t298))) else (spec_Steps.j0 k l0 l1 y288 y291 y294 true)))))
theorem spec_Steps.mono_l : ∀ k, (∀ y0 y1 y2 y3 y4 y5, LeO (spec_Steps.j0 k y0 y1 y2 y3 y4 y5) (spec_Steps.j0 (k + 1) y0 y1 y2 y3 y4 y5)) ∧ (∀ y0 y1 y2 y3 y4 y5, LeO (spec_Steps.l0 k y0 y1 y2 y3 y4 y5) (spec_Steps.l0 (k + 1) y0 y1 y2 y3 y4 y5))
 | 0 => ⟨fun _ _ _ _ _ _ r h => by simp [spec_Steps.j0] at h, fun _ _ _ _ _ _ r h => by simp [spec_Steps.l0] at h⟩
 | k + 1 => by
  obtain ⟨ih0, ih1⟩ := spec_Steps.mono_l k; refine ⟨?_, ?_⟩
  ·
   intro y0 y1 y2 y3 y4 y5; unfold spec_Steps.j0
   repeat' first
   | (with_reducible apply ih0)
   | (with_reducible apply ih1)
   | (with_reducible apply spec_l7Below.mono)
   | (with_reducible apply spec_l7Less.mono)
   | (with_reducible apply spec_l7Node.mono)
   | (with_reducible apply spec_l7Set.mono)
   | (with_reducible apply spec_l7Under.mono)
   | (with_reducible exact LeO.refl _)
   | (with_reducible exact LeO.none _)
   | (with_reducible refine LeO.ite ?_ ?_)
   | (with_reducible refine LeO.bind ?_ (fun _ => ?_))
   | exact LeO.none _
   | refine LeO.ite ?_ ?_
   | refine LeO.bind ?_ (fun _ => ?_)
  intro y0 y1 y2 y3 y4 y5; unfold spec_Steps.l0
  repeat' first
  | (with_reducible apply ih0)
  | (with_reducible apply ih1)
  | (with_reducible apply spec_l7Below.mono)
  | (with_reducible apply spec_l7Less.mono)
  | (with_reducible apply spec_l7Node.mono)
  | (with_reducible apply spec_l7Set.mono)
  | (with_reducible apply spec_l7Under.mono)
  | (with_reducible exact LeO.refl _)
  | (with_reducible exact LeO.none _)
  | (with_reducible refine LeO.ite ?_ ?_)
  | (with_reducible refine LeO.bind ?_ (fun _ => ?_))
  | exact LeO.none _
  | refine LeO.ite ?_ ?_
  | refine LeO.bind ?_ (fun _ => ?_)
theorem spec_Steps.mono : ∀ a0 a1 k, LeO (spec_Steps.f k a0 a1) (spec_Steps.f (k + 1) a0 a1) := by
 intro a0 a1 k; obtain ⟨ih0, ih1⟩ := spec_Steps.mono_l k; unfold spec_Steps.f
 repeat' first
   | (with_reducible apply ih0)
   | (with_reducible apply ih1)
   | (with_reducible apply spec_l7Below.mono)
   | (with_reducible apply spec_l7Less.mono)
   | (with_reducible apply spec_l7Node.mono)
   | (with_reducible apply spec_l7Set.mono)
   | (with_reducible apply spec_l7Under.mono)
   | (with_reducible exact LeO.refl _)
   | (with_reducible exact LeO.none _)
   | (with_reducible refine LeO.ite ?_ ?_)
   | (with_reducible refine LeO.bind ?_ (fun _ => ?_))
   | exact LeO.none _
   | refine LeO.ite ?_ ?_
   | refine LeO.bind ?_ (fun _ => ?_)
set_option maxHeartbeats 8000000 in
set_option maxRecDepth 100000 in
theorem spec_Steps.calls (k : Nat) (A0 : Option Addr) (c0 : Nat) (l0 : List ByteArray) (A1 : Option Addr) (c1 : Nat) (l1 : List ByteArray) (r1 : List ByteArray) (r2 : List ByteArray) (r3 : List ByteArray) (r4 : Bool) (w : World) (hr0 : Kd.C Kd.string w A0 l0.length l0) (hc0 : l0.length ≤ c0) (hr1 : Kd.C Kd.string w A1 l1.length l1) (hc1 : l1.length ≤ c1) (h : spec_Steps.f k l0 l1 = some (r1, r2, r3, r4)) :
  Calls Tryd.prog 11 #[.slice A0 l0.length c0, .slice A1 l1.length c1] w fun e w' => ∃ v0_ v1_ v2_ : Value, e = .returned (.tuple #[v0_, v1_, v2_, .bool r4]) ∧ Kd.R Kd.string 9 w' w.heap.size (fun k_ => some k_ ≠ (v1_ : Value).ownBlock ∧ some k_ ≠ (v2_ : Value).ownBlock) v0_ r1 ∧ Kd.R Kd.string 9 w' w.heap.size (fun k_ => some k_ ≠ (v0_ : Value).ownBlock ∧ some k_ ≠ (v2_ : Value).ownBlock) v1_ r2 ∧ Kd.R Kd.string 9 w' w.heap.size (fun k_ => some k_ ≠ (v0_ : Value).ownBlock ∧ some k_ ≠ (v1_ : Value).ownBlock) v2_ r3 ∧ Below w.heap.size w w' := by
 have HR0 := aM hr0; have HC0 := aM hc0; clear hr0 hc0; have HR1 := aM hr1; have HC1 := aM hc1; clear hr1 hc1; have HB := aM (Below.refl w.heap.size w); unfold spec_Steps.f at h; have H := h; clear h; obtain ⟨y288, hy288⟩ : ∃ y_ : List ByteArray, y_ = (([] : List ByteArray)) := ⟨_, rfl⟩; have hy_ := hy288; replace H : ((some (([] : List ByteArray) : List ByteArray)).bind fun y291 => ((some (([] : List ByteArray) : List ByteArray)).bind fun y294 => ((spec_l7Set.f k l0).bind fun t297 => (if t297 = true then ((spec_l7Set.f k l1).bind fun t298 => (spec_Steps.j0 k l0 l1 y288 y291 y294 (!t298))) else (spec_Steps.j0 k l0 l1 y288 y291 y294 true))))) = some (r1, r2, r3, r4) := hyE; clear hy_; have Ny288 := aM hy288; clear hy288; obtain ⟨y291, hy291⟩ : ∃ y_ : List ByteArray, y_ = (([] : List ByteArray)) := ⟨_, rfl⟩; have hy_ := hy291; replace H : ((some (([] : List ByteArray) : List ByteArray)).bind fun y294 => ((spec_l7Set.f k l0).bind fun t297 => (if t297 = true then ((spec_l7Set.f k l1).bind fun t298 => (spec_Steps.j0 k l0 l1 y288 y291 y294 (!t298))) else (spec_Steps.j0 k l0 l1 y288 y291 y294 true)))) = some (r1, r2, r3, r4) := hyE; clear hy_; have Ny291 := aM hy291; clear hy291; obtain ⟨y294, hy294⟩ : ∃ y_ : List ByteArray, y_ = (([] : List ByteArray)) := ⟨_, rfl⟩; have hy_ := hy294
 replace H : ((spec_l7Set.f k l0).bind fun t297 => (if t297 = true then ((spec_l7Set.f k l1).bind fun t298 => (spec_Steps.j0 k l0 l1 y288 y291 y294 (!t298))) else (spec_Steps.j0 k l0 l1 y288 y291 y294 true))) = some (r1, r2, r3, r4) := hyE; clear hy_; have Ny294 := aM hy294; clear hy294; have HC3 := aM H; clear H; go_enter Tryd.func11, Tryd.ntmps11
 go_upto_region 4 with (first | ((with_reducible refine gD 15 rfl ?_); refine Kd.R_lit Kd.string _ 9 ?hg (N := 15) ?hd (xs := ([] : List ByteArray)) (inner := []) (ok := fun _ => True) (okp := fun _ => True) ?hr ?hp (fun _ hk => hk) trivial (Below.refl _ _) (Nat.le_refl _) (by simp) ?_; (case hd => rfl); (case hg => rfl); (case hr => exact zq8); (case hp => exact zq9); intro v289 w4 ho5 hb hg_ hnew_; clear hg_ hnew_; (first | rw [← Ny288.out] at ho5 | (simp only [Int.reduceToNat] at ho5; rw [← Ny288.out] at ho5)); have HO290 := aM (Kd.R_lower ho5 (below_size zq4)); replace HB := sB zq4 hb; clear hb ho5) | ((with_reducible refine gD 16 rfl ?_); refine Kd.R_lit Kd.string _ 9 ?hg (N := 16) ?hd (xs := ([] : List ByteArray)) (inner := []) (ok := fun _ => True) (okp := fun _ => True) ?hr ?hp (fun _ hk => hk) trivial (Below.refl _ _) (Nat.le_refl _) (by simp) ?_; (case hd => rfl); (case hg => rfl); (case hr => exact zq8); (case hp => exact zq9); intro v292 w6 ho7 hb hg_ hnew_; clear hg_ hnew_; (first | rw [← Ny291.out] at ho7 | (simp only [Int.reduceToNat] at ho7; rw [← Ny291.out] at ho7)); have HO293 := aM (Kd.R_lower (Kd.R_new' ho7 (Kd.R_lt zq100)) (below_size zq4)); replace HO290 := aM (Kd.R_elder' zq100 (Kd.R_base ho7) hb); replace HB := sB zq4 hb; clear hb ho7) | ((with_reducible refine gD 17 rfl ?_); refine Kd.R_lit Kd.string _ 9 ?hg (N := 17) ?hd (xs := ([] : List ByteArray)) (inner := []) (ok := fun _ => True) (okp := fun _ => True) ?hr ?hp (fun _ hk => hk) trivial (Below.refl _ _) (Nat.le_refl _) (by simp) ?_; (case hd => rfl); (case hg => rfl); (case hr => exact zq8); (case hp => exact zq9); intro v295 w8 ho9 hb hg_ hnew_; clear hg_ hnew_; (first | rw [← Ny294.out] at ho9 | (simp only [Int.reduceToNat] at ho9; rw [← Ny294.out] at ho9)); have HO296 := aM (Kd.R_lower (Kd.R_new' (Kd.R_new' ho9 (Kd.R_lt zq100)) (Kd.R_lt zq101)) (below_size zq4)); replace HO290 := aM (Kd.R_elder' zq100 (Kd.R_base ho9) hb); replace HO293 := aM (Kd.R_elder' zq101 (Kd.R_base ho9) hb); replace HB := sB zq4 hb; clear hb ho9))
 (try simp only [Act.put, List.setIfInBounds_toArray, List.set_cons_zero, List.set_cons_succ])
 go_cut [25] (fun v25 wc => ∃ (kq : Nat) (x25_2 : Bool), v25 = .bool x25_2 ∧ Aside0 (spec_Steps.j0 kq l0 l1 y288 y291 y294 x25_2 = some (r1, r2, r3, r4)) ∧ Aside0 (kq ≤ k) ∧ Aside0 (Kd.R Kd.string 9 wc w.heap.size (fun k_ => some k_ ≠ (v292 : Value).ownBlock ∧ some k_ ≠ (v295 : Value).ownBlock) v289 y288) ∧ Aside0 (Kd.R Kd.string 9 wc w.heap.size (fun k_ => some k_ ≠ (v289 : Value).ownBlock ∧ some k_ ≠ (v295 : Value).ownBlock) v292 y291) ∧ Aside0 (Kd.R Kd.string 9 wc w.heap.size (fun k_ => some k_ ≠ (v289 : Value).ownBlock ∧ some k_ ≠ (v292 : Value).ownBlock) v295 y294) ∧ Aside0 (Below w.heap.size w wc))
 case first =>
  have H := HC3.out; clear HC3; replace H := Option.bind_eq_some_iff.mp H; obtain ⟨t297, A100, H⟩ := H; (try dsimp only at H); have A10 := aM A100; clear A100; by_cases c11 : t297 = true
  ·
   subst c11; rw [if_pos rfl] at H; replace H := Option.bind_eq_some_iff.mp H; obtain ⟨t298, A120, H⟩ := H; (try dsimp only at H); have A12 := aM A120; clear A120; have H' := aM H; clear H
   go_wp2_with (first | ((with_reducible refine gC 20 rfl ?_); refine gL 19 Tryd.func20 #[.slice A0 l0.length c0] ?_; (with_reducible refine (spec_l7Set.calls k _ _ l0 true _ ?_ ?_ A10.out).mono ?_); exact zq40; exact zq30; rintro e w' ⟨rfl, ⟨nd, rfl⟩⟩; refine ⟨_, rfl, ?_⟩) | (go_at_call 20; (with_reducible refine (spec_l7Set.calls k _ _ l1 t298 _ ?side1 ?_ A12.out).mono ?_); (case side1 => repeat (first | exact (Kd.C_below HR1.out zq4) | (with_reducible refine Kd.C_alloc ?_ _) | (with_reducible refine Kd.C_drewN ?_ _) | (with_reducible refine Kd.C_drew ?_))); exact zq42; rintro e w' ⟨rfl, ⟨nd, rfl⟩⟩))
   go_meet
   case rel => exact ⟨_, (!t298), zq1, H', ⟨zq85⟩, ⟨zq102⟩, ⟨zq103⟩, ⟨zq104⟩, ⟨zq4⟩⟩
  replace c11 := Bool.eq_false_iff.mpr c11; subst c11; rw [if_neg (show ¬ (false = true) by decide)] at H; have H' := aM H; clear H
  go_wp2_with (first | ((with_reducible refine gC 20 rfl ?_); refine gL 19 Tryd.func20 #[.slice A0 l0.length c0] ?_; (with_reducible refine (spec_l7Set.calls k _ _ l0 false _ ?_ ?_ A10.out).mono ?_); exact zq40; exact zq30; rintro e w' ⟨rfl, ⟨nd, rfl⟩⟩; refine ⟨_, rfl, ?_⟩))
  go_meet
  case rel => exact ⟨_, (true), zq1, H', ⟨zq85⟩, ⟨zq102⟩, ⟨zq103⟩, ⟨zq104⟩, ⟨zq4⟩⟩
 case rest =>
  clear HC3; (try clear c1); (try clear c2); (try clear p2); (try clear c11); obtain ⟨kq, x25_2, rfl, HA, HJ2, HO_8, HO_9, HO_10, HB⟩ := hcut
  cases kq with
  | zero => exact absurd HA.out (by simp [spec_Steps.j0])
  | succ kj2 =>
   have H := HA.out; clear HA; simp only [spec_Steps.j0] at H; by_cases c13 : x25_2 = true
   ·
    subst c13; rw [if_pos rfl] at H; simp only [Option.some.injEq, Prod.mk.injEq] at H; obtain ⟨rfl, rfl, rfl, rfl⟩ := H; go_wp2; refine bodyPost_ret (results_list (rs := [.tmp 4, .tmp 5, .tmp 6, .tmp 7]) rfl (by simp) (.tmp (.tmp (.tmp (.tmp .nil))))) rfl ?_; exact ⟨_, _, _, zq5, zq99, zq69, zq70, zq4⟩
   replace c13 := Bool.eq_false_iff.mpr c13; subst c13; rw [if_neg (show ¬ (false = true) by decide)] at H; by_cases c14 : y288.length < 8796093022208
   ·
    rw [if_pos c14] at H; have LMc14 := aM c14; clear c14; obtain ⟨y299, hy299⟩ : ∃ y_ : List ByteArray, y_ = (y288 ++ [(⟨#[]⟩ : ByteArray)]) := ⟨_, rfl⟩; have hy_ := hy299; replace H : (spec_Steps.l0 kj2 l0 l1 y299 y291 y294 0) = some (r1, r2, r3, r4) := hyE; clear hy_; have Ny299 := aM hy299; clear hy299; have H' := aM H; clear H
    go_wp2_with (first | ((with_reducible refine gate_builtin (b := .append) (xs := #[.tmp 29, .tmp 30]) rfl ?_); at_builtin; refine Kd.R_append Kd.string (w0 := w) w.heap.size rfl (.tmp 29) (.tmp 30) 22 9 (.string ⟨#[]⟩) 16 rfl Tryd.underlying22 info9 rfl (by decide) (by omega) v289 y288 (⟨#[]⟩ : ByteArray) [.string (⟨#[]⟩ : ByteArray)] (fun k_ => some k_ ≠ (v292 : Value).ownBlock ∧ some k_ ≠ (v295 : Value).ownBlock) (fun _ => False) rfl rfl ?aP (fun _ hk => hk.elim) ?aF ?aO ?aB ?aS ?aL ?_; (case aP => exact rfl); (case aB => exact zq4); (case aF => exact (fun k_ hk => ⟨Kd.fresh' (Kd.R_lt zq69) k_ hk, Kd.fresh' (Kd.R_lt zq70) k_ hk⟩)); (case aO => exact zq99); (case aS => exact zq123); (case aL => have := LMc14.out; omega); intro v300 w15 ho hb hg hat; rw [← Ny299.out] at ho; have n0_ := aM (Kd.R_after (ok := (fun k_ => some k_ ≠ (v295 : Value).ownBlock)) zq105 hg hat); have n1_ := aM (Kd.R_after (ok := (fun k_ => some k_ ≠ (v292 : Value).ownBlock)) zq106 hg hat); have n2_ := aM (hb); have n3_ := aM (ho); clear HO_9; clear HO_10; clear HB; clear HO_8; have HO_9 := n0_; have HO_10 := n1_; have HB := n2_; have HO301 := n3_; clear n0_ n1_ n2_ n3_; clear ho hb hg hat))
    go_loopg [8, 9, 10, 11] kj2 (fun kq v8 v9 v10 v11 w' => ∃ (x8_2 : List ByteArray) (x9_2 : List ByteArray) (x10_2 : List ByteArray) (x11_2 : Int), v11 = .int .i64 x11_2 ∧ Aside0 (spec_Steps.l0 kq l0 l1 x8_2 x9_2 x10_2 x11_2 = some (r1, r2, r3, r4)) ∧ Aside0 (kq ≤ kj2) ∧ Aside0 (Kd.R Kd.string 9 w' w.heap.size (fun k_ => some k_ ≠ (v9 : Value).ownBlock ∧ some k_ ≠ (v10 : Value).ownBlock) v8 x8_2) ∧ Aside0 (Kd.R Kd.string 9 w' w.heap.size (fun k_ => some k_ ≠ (v8 : Value).ownBlock ∧ some k_ ≠ (v10 : Value).ownBlock) v9 x9_2) ∧ Aside0 (Kd.R Kd.string 9 w' w.heap.size (fun k_ => some k_ ≠ (v8 : Value).ownBlock ∧ some k_ ≠ (v9 : Value).ownBlock) v10 x10_2) ∧ Aside0 (Below w.heap.size w w'))
    case atStart => exact ⟨(y299), (y291), (y294), (0), zq1, H', ⟨Nat.le_refl _⟩, ⟨by refine dR ?_; exact HO301.out⟩, ⟨zq105⟩, ⟨zq106⟩, ⟨zq4⟩⟩
    case round =>
     clear H'; (try clear c1); (try clear c2); (try clear p2); (try clear c11); (try clear c13); (try clear c14); (try clear p2); obtain ⟨x8_2, x9_2, x10_2, x11_2, rfl, HA, HK2, HO_8, HO_9, HO_10, HB⟩ := hrel
     cases gk with
     | zero => exact absurd HA.out (by simp [spec_Steps.l0])
     | succ k2 =>
      have H := HA.out; clear HA; simp only [spec_Steps.l0] at H; by_cases c16 : x11_2 < (x8_2.length : Int)
      ·
       rw [if_pos c16] at H; have c16b0 := decide_eq_true c16; clear c16; by_cases c17 : 0 ≤ x11_2
       ·
        rw [if_pos c17] at H; have c17b0 := decide_eq_true c17; clear c17; replace H := Option.bind_eq_some_iff.mp H; obtain ⟨t303, A180, H⟩ := H; (try dsimp only at H); have A18 := aM A180; clear A180; replace H := Option.bind_eq_some_iff.mp H; obtain ⟨t306, A190, H⟩ := H; (try dsimp only at H); have A19 := aM A190; clear A190; replace H := Option.bind_eq_some_iff.mp H; obtain ⟨t309, A200, H⟩ := H; (try dsimp only at H); have A20 := aM A200; clear A200; replace H := Option.bind_eq_some_iff.mp H; obtain ⟨t310, A210, H⟩ := H; (try dsimp only at H); have A21 := aM A210; clear A210; by_cases c22 : t309.toList = t310.toList
        ·
         rw [if_pos c22] at H; have c22b0 : (t309.toList == t310.toList) = true := beq_iff_eq.mpr c22; have c22b1 : (t309.toList != t310.toList) = false := bne_eq_false_iff_eq.mpr c22; clear c22; have H' := aM H; clear H; obtain ⟨Ao23, co23, eo23⟩ := Kd.R_slice HO_8.out; subst eo23; have p302 : 0 ≤ (x11_2 : Int) := of_decide_eq_true zq6; have q302 : x11_2 < (x8_2.length : Int) := of_decide_eq_true zq6; obtain ⟨ad302, e302, hx302_0⟩ := Kd.at_string (Kd.R_reads' HO_8.out).2.2 x11_2 p302 q302; cases e302; replace p302 := eq_true p302; replace q302 := eq_true q302
         go_wp2_with (first | ((with_reducible refine gC 26 rfl ?_); refine gL 44 Tryd.func26 #[.slice A0 l0.length c0, .string (rdOf ByteArray.empty x8_2 x11_2)] ?_; (with_reducible refine (spec_l7Under.calls k2 _ _ l0 (rdOf ByteArray.empty x8_2 x11_2) t303 _ ?_ ?_ A18.out).mono ?_); exact zq40; exact zq30; rintro e w24 ⟨v304, rfl, ho0, hb⟩; refine ⟨_, rfl, ?_⟩; have HO305 := aM (Kd.R_lower (Kd.R_new' (Kd.R_new' (Kd.R_new' ho0 (Kd.R_lt zq99)) (Kd.R_lt zq69)) (Kd.R_lt zq70)) (below_size zq4)); replace HO_8 := aM (Kd.R_elder' zq99 (Kd.R_base ho0) hb); replace HO_9 := aM (Kd.R_elder' zq69 (Kd.R_base ho0) hb); replace HO_10 := aM (Kd.R_elder' zq70 (Kd.R_base ho0) hb); replace HB := sB zq4 hb; clear hb; (try clear ho0)) | ((with_reducible refine gC 26 rfl ?_); refine gL 47 Tryd.func26 #[.slice A1 l1.length c1, .string (rdOf ByteArray.empty x8_2 x11_2)] ?_; (with_reducible refine (spec_l7Under.calls k2 _ _ l1 (rdOf ByteArray.empty x8_2 x11_2) t306 _ ?_ ?_ A19.out).mono ?_); exact zq41; exact zq42; rintro e w25 ⟨v307, rfl, ho0, hb⟩; refine ⟨_, rfl, ?_⟩; have HO308 := aM (Kd.R_lower (Kd.R_new' (Kd.R_new' (Kd.R_new' (Kd.R_new' ho0 (Kd.R_lt zq99)) (Kd.R_lt zq69)) (Kd.R_lt zq70)) (Kd.R_lt zq107)) (below_size zq4)); replace HO_8 := aM (Kd.R_elder' zq99 (Kd.R_base ho0) hb); replace HO_9 := aM (Kd.R_elder' zq69 (Kd.R_base ho0) hb); replace HO_10 := aM (Kd.R_elder' zq70 (Kd.R_base ho0) hb); replace HO305 := aM (Kd.R_elder' zq107 (Kd.R_base ho0) hb); replace HB := sB zq4 hb; clear hb; (try clear ho0); obtain ⟨Ao26, co26, eo26⟩ := Kd.R_slice HO305.out; subst eo26) | ((with_reducible refine gC 22 rfl ?_); refine gL 50 Tryd.func22 #[.slice Ao26 t303.length co26, .string (rdOf ByteArray.empty x8_2 x11_2)] ?_; (with_reducible refine (spec_l7Node.calls k2 _ _ t303 (rdOf ByteArray.empty x8_2 x11_2) t309 _ ?_ ?_ A20.out).mono ?_); exact zq108; exact zq109; rintro e w27 ⟨rfl, hb⟩; refine ⟨_, rfl, ?_⟩; replace HO_8 := rG HO_8 hb; replace HO_9 := rG HO_9 hb; replace HO_10 := rG HO_10 hb; replace HO305 := rG HO305 hb; replace HO308 := rG HO308 hb; replace HB := sB zq4 hb; clear hb; obtain ⟨Ao28, co28, eo28⟩ := Kd.R_slice HO308.out; subst eo28) | ((with_reducible refine gC 22 rfl ?_); refine gL 53 Tryd.func22 #[.slice Ao28 t306.length co28, .string (rdOf ByteArray.empty x8_2 x11_2)] ?_; (with_reducible refine (spec_l7Node.calls k2 _ _ t306 (rdOf ByteArray.empty x8_2 x11_2) t310 _ ?_ ?_ A21.out).mono ?_); exact zq111; exact zq112; rintro e w29 ⟨rfl, hb⟩; refine ⟨_, rfl, ?_⟩; replace HO_8 := rG HO_8 hb; replace HO_9 := rG HO_9 hb; replace HO_10 := rG HO_10 hb; replace HO305 := rG HO305 hb; replace HO308 := rG HO308 hb; replace HB := sB zq4 hb; clear hb))
         go_roundg k2
         case measure => have := HJ2.out; have := HK2.out; omega
         case rel => exact ⟨(x8_2), (x9_2), (x10_2), (wrap64 (x11_2 + 1)), zq1, H', ⟨zq113⟩, ⟨by refine dR ?_; exact Kd.R_mono HO_8.out (fun _ hk => ⟨hk.1.1.1, hk.1.1.2⟩)⟩, ⟨by refine dR ?_; exact Kd.R_mono HO_9.out (fun _ hk => ⟨hk.1.1.1, hk.1.1.2⟩)⟩, ⟨by refine dR ?_; exact Kd.R_mono HO_10.out (fun _ hk => ⟨hk.1.1.1, hk.1.1.2⟩)⟩, ⟨zq4⟩⟩
        rw [if_neg c22] at H; have c22b0 : (t309.toList == t310.toList) = false := beq_eq_false_iff_ne.mpr c22; have c22b1 : (t309.toList != t310.toList) = true := bne_iff_ne.mpr c22; by_cases c30 : ((rdOf ByteArray.empty x8_2 x11_2).size : Int) < 2
        ·
         rw [if_pos c30] at H; have c30b0 := decide_eq_true c30; have c30b1 : decide ((rdOf ByteArray.empty x8_2 x11_2).size < 2) = true := decide_eq_true (by omega); clear c30; replace H := Option.bind_eq_some_iff.mp H; obtain ⟨t311, A310, H⟩ := H; (try dsimp only at H); have A31 := aM A310; clear A310; by_cases c32 : x8_2.length + t311.length < 8796093022208
         ·
          rw [if_pos c32] at H; have LMc32 := aM c32; clear c32; obtain ⟨y314, hy314⟩ : ∃ y_ : List ByteArray, y_ = (x8_2 ++ t311) := ⟨_, rfl⟩; have hy_ := hy314; replace H : (spec_Steps.l0 k2 l0 l1 y314 x9_2 x10_2 (wrap64 (x11_2 + 1))) = some (r1, r2, r3, r4) := hyE; clear hy_; have Ny314 := aM hy314; clear hy314; have H' := aM H; clear H; obtain ⟨Ao33, co33, eo33⟩ := Kd.R_slice HO_8.out; subst eo33; have p302 : 0 ≤ (x11_2 : Int) := of_decide_eq_true zq6; have q302 : x11_2 < (x8_2.length : Int) := of_decide_eq_true zq6; obtain ⟨ad302, e302, hx302_0⟩ := Kd.at_string (Kd.R_reads' HO_8.out).2.2 x11_2 p302 q302; cases e302; replace p302 := eq_true p302; replace q302 := eq_true q302
          go_wp2_with (first | ((with_reducible refine gC 26 rfl ?_); refine gL 44 Tryd.func26 #[.slice A0 l0.length c0, .string (rdOf ByteArray.empty x8_2 x11_2)] ?_; (with_reducible refine (spec_l7Under.calls k2 _ _ l0 (rdOf ByteArray.empty x8_2 x11_2) t303 _ ?_ ?_ A18.out).mono ?_); exact zq40; exact zq30; rintro e w34 ⟨v304, rfl, ho0, hb⟩; refine ⟨_, rfl, ?_⟩; have HO305 := aM (Kd.R_lower (Kd.R_new' (Kd.R_new' (Kd.R_new' ho0 (Kd.R_lt zq99)) (Kd.R_lt zq69)) (Kd.R_lt zq70)) (below_size zq4)); replace HO_8 := aM (Kd.R_elder' zq99 (Kd.R_base ho0) hb); replace HO_9 := aM (Kd.R_elder' zq69 (Kd.R_base ho0) hb); replace HO_10 := aM (Kd.R_elder' zq70 (Kd.R_base ho0) hb); replace HB := sB zq4 hb; clear hb; (try clear ho0)) | ((with_reducible refine gC 26 rfl ?_); refine gL 47 Tryd.func26 #[.slice A1 l1.length c1, .string (rdOf ByteArray.empty x8_2 x11_2)] ?_; (with_reducible refine (spec_l7Under.calls k2 _ _ l1 (rdOf ByteArray.empty x8_2 x11_2) t306 _ ?_ ?_ A19.out).mono ?_); exact zq41; exact zq42; rintro e w35 ⟨v307, rfl, ho0, hb⟩; refine ⟨_, rfl, ?_⟩; have HO308 := aM (Kd.R_lower (Kd.R_new' (Kd.R_new' (Kd.R_new' (Kd.R_new' ho0 (Kd.R_lt zq99)) (Kd.R_lt zq69)) (Kd.R_lt zq70)) (Kd.R_lt zq107)) (below_size zq4)); replace HO_8 := aM (Kd.R_elder' zq99 (Kd.R_base ho0) hb); replace HO_9 := aM (Kd.R_elder' zq69 (Kd.R_base ho0) hb); replace HO_10 := aM (Kd.R_elder' zq70 (Kd.R_base ho0) hb); replace HO305 := aM (Kd.R_elder' zq107 (Kd.R_base ho0) hb); replace HB := sB zq4 hb; clear hb; (try clear ho0); obtain ⟨Ao36, co36, eo36⟩ := Kd.R_slice HO305.out; subst eo36) | ((with_reducible refine gC 22 rfl ?_); refine gL 50 Tryd.func22 #[.slice Ao36 t303.length co36, .string (rdOf ByteArray.empty x8_2 x11_2)] ?_; (with_reducible refine (spec_l7Node.calls k2 _ _ t303 (rdOf ByteArray.empty x8_2 x11_2) t309 _ ?_ ?_ A20.out).mono ?_); exact zq108; exact zq109; rintro e w37 ⟨rfl, hb⟩; refine ⟨_, rfl, ?_⟩; replace HO_8 := rG HO_8 hb; replace HO_9 := rG HO_9 hb; replace HO_10 := rG HO_10 hb; replace HO305 := rG HO305 hb; replace HO308 := rG HO308 hb; replace HB := sB zq4 hb; clear hb; obtain ⟨Ao38, co38, eo38⟩ := Kd.R_slice HO308.out; subst eo38) | ((with_reducible refine gC 22 rfl ?_); refine gL 53 Tryd.func22 #[.slice Ao38 t306.length co38, .string (rdOf ByteArray.empty x8_2 x11_2)] ?_; (with_reducible refine (spec_l7Node.calls k2 _ _ t306 (rdOf ByteArray.empty x8_2 x11_2) t310 _ ?_ ?_ A21.out).mono ?_); exact zq111; exact zq112; rintro e w39 ⟨rfl, hb⟩; refine ⟨_, rfl, ?_⟩; replace HO_8 := rG HO_8 hb; replace HO_9 := rG HO_9 hb; replace HO_10 := rG HO_10 hb; replace HO305 := rG HO305 hb; replace HO308 := rG HO308 hb; replace HB := sB zq4 hb; clear hb) | ((with_reducible refine gC 27 rfl ?_); refine gL 60 Tryd.func27 #[.string (rdOf ByteArray.empty x8_2 x11_2)] ?_; (with_reducible refine (spec_l7Below.calls k2 (rdOf ByteArray.empty x8_2 x11_2) t311 _ A31.out).mono ?_); rintro e w40 ⟨v312, rfl, ho0, hb⟩; refine ⟨_, rfl, ?_⟩; have HO313 := aM (Kd.R_lower (Kd.R_new' (Kd.R_new' (Kd.R_new' (Kd.R_new' (Kd.R_new' ho0 (Kd.R_lt zq99)) (Kd.R_lt zq69)) (Kd.R_lt zq70)) (Kd.R_lt zq107)) (Kd.R_lt zq110)) (below_size zq4)); replace HO_8 := aM (Kd.R_elder' zq99 (Kd.R_base ho0) hb); replace HO_9 := aM (Kd.R_elder' zq69 (Kd.R_base ho0) hb); replace HO_10 := aM (Kd.R_elder' zq70 (Kd.R_base ho0) hb); replace HO305 := aM (Kd.R_elder' zq107 (Kd.R_base ho0) hb); replace HO308 := aM (Kd.R_elder' zq110 (Kd.R_base ho0) hb); replace HB := sB zq4 hb; clear hb; (try clear ho0); obtain ⟨Ao42, co42, eo42⟩ := Kd.R_slice HO313.out; subst eo42) | ((with_reducible refine gate_builtin (b := .append) (xs := #[.tmp 58, .tmp 60]) rfl ?_); at_builtin; refine Kd.R_append_rows Kd.string (w0 := w) w.heap.size rfl (.tmp 58) (.tmp 60) 22 9 (.string ⟨#[]⟩) 16 rfl Tryd.underlying22 info9 rfl (by decide) (by omega) (.slice (some ad302) x8_2.length co33) x8_2 t311 _ _ _ (fun k_ => some k_ ≠ (u9 : Value).ownBlock ∧ some k_ ≠ (u10 : Value).ownBlock ∧ some k_ ≠ (.slice Ao36 t303.length co36 : Value).ownBlock ∧ some k_ ≠ (.slice Ao38 t306.length co38 : Value).ownBlock ∧ some k_ ≠ (.slice Ao42 t311.length co42 : Value).ownBlock) (fun _ => False) rfl rfl ?aO ?aR (fun _ _ h => h) (fun _ h => h.elim) ?aF ?aB ?aS ?aL ?_; (case aR => repeat (first | exact (Kd.R_reads' HO313.out).2.2 | (with_reducible refine Kd.C_alloc ?_ _) | (with_reducible refine Kd.C_drewN ?_ _) | (with_reducible refine Kd.C_drew ?_))); (case aB => exact zq4); (case aF => exact (fun k_ hk => ⟨Kd.fresh' (Kd.R_lt zq69) k_ hk, Kd.fresh' (Kd.R_lt zq70) k_ hk, Kd.fresh' (Kd.R_lt zq107) k_ hk, Kd.fresh' (Kd.R_lt zq110) k_ hk, Kd.fresh' (Kd.R_lt (by refine dR ?_; exact HO313.out)) k_ hk⟩)); (case aO => exact (by refine dR ?_; exact Kd.R_mono HO_8.out (fun _ hk => ⟨hk.1.1.1.1, ⟨hk.1.1.1.2, ⟨hk.1.1.2, ⟨hk.1.2, hk.2⟩⟩⟩⟩))); (case aS => exact zq123); (case aL => have := LMc32.out; omega); intro v315 w41 ho hb hg hat; rw [← Ny314.out] at ho; have n0_ := aM (Kd.R_after (ok := (fun k_ => some k_ ≠ (u10 : Value).ownBlock ∧ some k_ ≠ (.slice Ao36 t303.length co36 : Value).ownBlock ∧ some k_ ≠ (.slice Ao38 t306.length co38 : Value).ownBlock ∧ some k_ ≠ (.slice Ao42 t311.length co42 : Value).ownBlock)) (by refine dR ?_; exact Kd.R_mono HO_9.out (fun _ hk => ⟨⟨hk.1.1.1.2, ⟨hk.1.1.2, ⟨hk.1.2, hk.2⟩⟩⟩, hk.1.1.1.1⟩)) hg hat); have n1_ := aM (Kd.R_after (ok := (fun k_ => some k_ ≠ (u9 : Value).ownBlock ∧ some k_ ≠ (.slice Ao36 t303.length co36 : Value).ownBlock ∧ some k_ ≠ (.slice Ao38 t306.length co38 : Value).ownBlock ∧ some k_ ≠ (.slice Ao42 t311.length co42 : Value).ownBlock)) (by refine dR ?_; exact Kd.R_mono HO_10.out (fun _ hk => ⟨⟨hk.1.1.1.2, ⟨hk.1.1.2, ⟨hk.1.2, hk.2⟩⟩⟩, hk.1.1.1.1⟩)) hg hat); have n2_ := aM (Kd.R_after (ok := (fun k_ => some k_ ≠ (u9 : Value).ownBlock ∧ some k_ ≠ (u10 : Value).ownBlock ∧ some k_ ≠ (.slice Ao38 t306.length co38 : Value).ownBlock ∧ some k_ ≠ (.slice Ao42 t311.length co42 : Value).ownBlock)) (by refine dR ?_; exact Kd.R_mono HO305.out (fun _ hk => ⟨⟨hk.1.1.1.2, ⟨hk.1.1.2, ⟨hk.1.2, hk.2⟩⟩⟩, hk.1.1.1.1.2⟩)) hg hat); have n3_ := aM (Kd.R_after (ok := (fun k_ => some k_ ≠ (u9 : Value).ownBlock ∧ some k_ ≠ (u10 : Value).ownBlock ∧ some k_ ≠ (.slice Ao36 t303.length co36 : Value).ownBlock ∧ some k_ ≠ (.slice Ao42 t311.length co42 : Value).ownBlock)) (by refine dR ?_; exact Kd.R_mono HO308.out (fun _ hk => ⟨⟨hk.1.1.1.2, ⟨hk.1.1.2, ⟨hk.1.2, hk.2⟩⟩⟩, hk.1.1.1.1.2⟩)) hg hat); have n4_ := aM (Kd.R_after (ok := (fun k_ => some k_ ≠ (u9 : Value).ownBlock ∧ some k_ ≠ (u10 : Value).ownBlock ∧ some k_ ≠ (.slice Ao36 t303.length co36 : Value).ownBlock ∧ some k_ ≠ (.slice Ao38 t306.length co38 : Value).ownBlock)) (by refine dR ?_; exact Kd.R_mono HO313.out (fun _ hk => ⟨⟨hk.1.1.1.2, ⟨hk.1.1.2, ⟨hk.1.2, hk.2⟩⟩⟩, hk.1.1.1.1.2⟩)) hg hat); have n5_ := aM (hb); have n6_ := aM (ho); clear HO_9; clear HO_10; clear HO305; clear HO308; clear HO313; clear HB; clear HO_8; have HO_9 := n0_; have HO_10 := n1_; have HO305 := n2_; have HO308 := n3_; have HO313 := n4_; have HB := n5_; have HO316 := n6_; clear n0_ n1_ n2_ n3_ n4_ n5_ n6_; clear ho hb hg hat))
          go_roundg k2
          case measure => have := HJ2.out; have := HK2.out; omega
          case rel => exact ⟨(y314), (x9_2), (x10_2), (wrap64 (x11_2 + 1)), zq1, H', ⟨zq113⟩, ⟨by refine dR ?_; exact Kd.R_mono HO316.out (fun _ hk => ⟨hk.1, hk.2.1⟩)⟩, ⟨by refine dR ?_; exact Kd.R_mono HO_9.out (fun _ hk => ⟨hk.2, hk.1.1⟩)⟩, ⟨by refine dR ?_; exact Kd.R_mono HO_10.out (fun _ hk => ⟨hk.2, hk.1.1⟩)⟩, ⟨zq4⟩⟩
         rw [if_neg c32] at H; exact absurd H (by simp)
        rw [if_neg c30] at H; have c30b0 := decide_eq_false c30; have c30b1 : decide ((rdOf ByteArray.empty x8_2 x11_2).size < 2) = false := decide_eq_false (by omega); clear c30; replace H := Option.bind_eq_some_iff.mp H; obtain ⟨t317, A430, H⟩ := H; (try dsimp only at H); have A43 := aM A430; clear A430; by_cases c44 : x9_2.length + t317.length < 8796093022208
        ·
         rw [if_pos c44] at H; have LMc44 := aM c44; clear c44; obtain ⟨y320, hy320⟩ : ∃ y_ : List ByteArray, y_ = (x9_2 ++ t317) := ⟨_, rfl⟩; have hy_ := hy320; replace H : ((spec_l7Less.f k2 t306 t303).bind fun t323 => (if x10_2.length + t323.length < 8796093022208 then (spec_Steps.l0 k2 l0 l1 x8_2 y320 (x10_2 ++ t323) (wrap64 (x11_2 + 1))) else (none))) = some (r1, r2, r3, r4) := hyE; clear hy_; have Ny320 := aM hy320; clear hy320; replace H := Option.bind_eq_some_iff.mp H; obtain ⟨t323, A450, H⟩ := H; (try dsimp only at H); have A45 := aM A450; clear A450; by_cases c46 : x10_2.length + t323.length < 8796093022208
         ·
          rw [if_pos c46] at H; have LMc46 := aM c46; clear c46; obtain ⟨y326, hy326⟩ : ∃ y_ : List ByteArray, y_ = (x10_2 ++ t323) := ⟨_, rfl⟩; have hy_ := hy326; replace H : (spec_Steps.l0 k2 l0 l1 x8_2 y320 y326 (wrap64 (x11_2 + 1))) = some (r1, r2, r3, r4) := hyE; clear hy_; have Ny326 := aM hy326; clear hy326; have H' := aM H; clear H; obtain ⟨Ao47, co47, eo47⟩ := Kd.R_slice HO_8.out; subst eo47; have p302 : 0 ≤ (x11_2 : Int) := of_decide_eq_true zq6; have q302 : x11_2 < (x8_2.length : Int) := of_decide_eq_true zq6; obtain ⟨ad302, e302, hx302_0⟩ := Kd.at_string (Kd.R_reads' HO_8.out).2.2 x11_2 p302 q302; cases e302; replace p302 := eq_true p302; replace q302 := eq_true q302
          go_wp2_with (first | ((with_reducible refine gC 26 rfl ?_); refine gL 44 Tryd.func26 #[.slice A0 l0.length c0, .string (rdOf ByteArray.empty x8_2 x11_2)] ?_; (with_reducible refine (spec_l7Under.calls k2 _ _ l0 (rdOf ByteArray.empty x8_2 x11_2) t303 _ ?_ ?_ A18.out).mono ?_); exact zq40; exact zq30; rintro e w48 ⟨v304, rfl, ho0, hb⟩; refine ⟨_, rfl, ?_⟩; have HO305 := aM (Kd.R_lower (Kd.R_new' (Kd.R_new' (Kd.R_new' ho0 (Kd.R_lt zq99)) (Kd.R_lt zq69)) (Kd.R_lt zq70)) (below_size zq4)); replace HO_8 := aM (Kd.R_elder' zq99 (Kd.R_base ho0) hb); replace HO_9 := aM (Kd.R_elder' zq69 (Kd.R_base ho0) hb); replace HO_10 := aM (Kd.R_elder' zq70 (Kd.R_base ho0) hb); replace HB := sB zq4 hb; clear hb; (try clear ho0)) | ((with_reducible refine gC 26 rfl ?_); refine gL 47 Tryd.func26 #[.slice A1 l1.length c1, .string (rdOf ByteArray.empty x8_2 x11_2)] ?_; (with_reducible refine (spec_l7Under.calls k2 _ _ l1 (rdOf ByteArray.empty x8_2 x11_2) t306 _ ?_ ?_ A19.out).mono ?_); exact zq41; exact zq42; rintro e w49 ⟨v307, rfl, ho0, hb⟩; refine ⟨_, rfl, ?_⟩; have HO308 := aM (Kd.R_lower (Kd.R_new' (Kd.R_new' (Kd.R_new' (Kd.R_new' ho0 (Kd.R_lt zq99)) (Kd.R_lt zq69)) (Kd.R_lt zq70)) (Kd.R_lt zq107)) (below_size zq4)); replace HO_8 := aM (Kd.R_elder' zq99 (Kd.R_base ho0) hb); replace HO_9 := aM (Kd.R_elder' zq69 (Kd.R_base ho0) hb); replace HO_10 := aM (Kd.R_elder' zq70 (Kd.R_base ho0) hb); replace HO305 := aM (Kd.R_elder' zq107 (Kd.R_base ho0) hb); replace HB := sB zq4 hb; clear hb; (try clear ho0); obtain ⟨Ao50, co50, eo50⟩ := Kd.R_slice HO305.out; subst eo50) | ((with_reducible refine gC 22 rfl ?_); refine gL 50 Tryd.func22 #[.slice Ao50 t303.length co50, .string (rdOf ByteArray.empty x8_2 x11_2)] ?_; (with_reducible refine (spec_l7Node.calls k2 _ _ t303 (rdOf ByteArray.empty x8_2 x11_2) t309 _ ?_ ?_ A20.out).mono ?_); exact zq108; exact zq109; rintro e w51 ⟨rfl, hb⟩; refine ⟨_, rfl, ?_⟩; replace HO_8 := rG HO_8 hb; replace HO_9 := rG HO_9 hb; replace HO_10 := rG HO_10 hb; replace HO305 := rG HO305 hb; replace HO308 := rG HO308 hb; replace HB := sB zq4 hb; clear hb; obtain ⟨Ao52, co52, eo52⟩ := Kd.R_slice HO308.out; subst eo52) | ((with_reducible refine gC 22 rfl ?_); refine gL 53 Tryd.func22 #[.slice Ao52 t306.length co52, .string (rdOf ByteArray.empty x8_2 x11_2)] ?_; (with_reducible refine (spec_l7Node.calls k2 _ _ t306 (rdOf ByteArray.empty x8_2 x11_2) t310 _ ?_ ?_ A21.out).mono ?_); exact zq111; exact zq112; rintro e w53 ⟨rfl, hb⟩; refine ⟨_, rfl, ?_⟩; replace HO_8 := rG HO_8 hb; replace HO_9 := rG HO_9 hb; replace HO_10 := rG HO_10 hb; replace HO305 := rG HO305 hb; replace HO308 := rG HO308 hb; replace HB := sB zq4 hb; clear hb) | ((with_reducible refine gC 28 rfl ?_); refine gL 65 Tryd.func28 #[.slice Ao50 t303.length co50, .slice Ao52 t306.length co52] ?_; (with_reducible refine (spec_l7Less.calls k2 _ _ t303 _ _ t306 t317 _ ?_ ?_ ?_ ?_ A43.out).mono ?_); exact zq108; exact zq109; exact zq111; exact zq112; rintro e w54 ⟨v318, rfl, ho0, hb⟩; refine ⟨_, rfl, ?_⟩; have HO319 := aM (Kd.R_lower (Kd.R_new' (Kd.R_new' (Kd.R_new' (Kd.R_new' (Kd.R_new' ho0 (Kd.R_lt zq99)) (Kd.R_lt zq69)) (Kd.R_lt zq70)) (Kd.R_lt zq107)) (Kd.R_lt zq110)) (below_size zq4)); replace HO_8 := aM (Kd.R_elder' zq99 (Kd.R_base ho0) hb); replace HO_9 := aM (Kd.R_elder' zq69 (Kd.R_base ho0) hb); replace HO_10 := aM (Kd.R_elder' zq70 (Kd.R_base ho0) hb); replace HO305 := aM (Kd.R_elder' zq107 (Kd.R_base ho0) hb); replace HO308 := aM (Kd.R_elder' zq110 (Kd.R_base ho0) hb); replace HB := sB zq4 hb; clear hb; (try clear ho0); obtain ⟨Ao56, co56, eo56⟩ := Kd.R_slice HO319.out; subst eo56) | ((with_reducible refine gate_builtin (b := .append) (xs := #[.tmp 62, .tmp 65]) rfl ?_); at_builtin; refine Kd.R_append_rows Kd.string (w0 := w) w.heap.size rfl (.tmp 62) (.tmp 65) 22 9 (.string ⟨#[]⟩) 16 rfl Tryd.underlying22 info9 rfl (by decide) (by omega) u9 x9_2 t317 _ _ _ (fun k_ => some k_ ≠ (.slice (some ad302) x8_2.length co47 : Value).ownBlock ∧ some k_ ≠ (u10 : Value).ownBlock ∧ some k_ ≠ (.slice Ao50 t303.length co50 : Value).ownBlock ∧ some k_ ≠ (.slice Ao52 t306.length co52 : Value).ownBlock ∧ some k_ ≠ (.slice Ao56 t317.length co56 : Value).ownBlock) (fun _ => False) rfl rfl ?aO ?aR (fun _ _ h => h) (fun _ h => h.elim) ?aF ?aB ?aS ?aL ?_; (case aR => repeat (first | exact (Kd.R_reads' HO319.out).2.2 | (with_reducible refine Kd.C_alloc ?_ _) | (with_reducible refine Kd.C_drewN ?_ _) | (with_reducible refine Kd.C_drew ?_))); (case aB => exact zq4); (case aF => exact (fun k_ hk => ⟨Kd.fresh' (Kd.R_lt zq99) k_ hk, Kd.fresh' (Kd.R_lt zq70) k_ hk, Kd.fresh' (Kd.R_lt zq107) k_ hk, Kd.fresh' (Kd.R_lt zq110) k_ hk, Kd.fresh' (Kd.R_lt zq114) k_ hk⟩)); (case aO => exact (by refine dR ?_; exact Kd.R_mono HO_9.out (fun _ hk => ⟨hk.1.1.1.1, ⟨hk.1.1.1.2, ⟨hk.1.1.2, ⟨hk.1.2, hk.2⟩⟩⟩⟩))); (case aS => exact zq123); (case aL => have := LMc44.out; omega); intro v321 w55 ho hb hg hat; rw [← Ny320.out] at ho; have n0_ := aM (Kd.R_after (ok := (fun k_ => some k_ ≠ (u10 : Value).ownBlock ∧ some k_ ≠ (.slice Ao50 t303.length co50 : Value).ownBlock ∧ some k_ ≠ (.slice Ao52 t306.length co52 : Value).ownBlock ∧ some k_ ≠ (.slice Ao56 t317.length co56 : Value).ownBlock)) (by refine dR ?_; exact Kd.R_mono HO_8.out (fun _ hk => ⟨⟨hk.1.1.1.2, ⟨hk.1.1.2, ⟨hk.1.2, hk.2⟩⟩⟩, hk.1.1.1.1⟩)) hg hat); have n1_ := aM (Kd.R_after (ok := (fun k_ => some k_ ≠ (.slice (some ad302) x8_2.length co47 : Value).ownBlock ∧ some k_ ≠ (.slice Ao50 t303.length co50 : Value).ownBlock ∧ some k_ ≠ (.slice Ao52 t306.length co52 : Value).ownBlock ∧ some k_ ≠ (.slice Ao56 t317.length co56 : Value).ownBlock)) (by refine dR ?_; exact Kd.R_mono HO_10.out (fun _ hk => ⟨⟨hk.1.1.1.1, ⟨hk.1.1.2, ⟨hk.1.2, hk.2⟩⟩⟩, hk.1.1.1.2⟩)) hg hat); have n2_ := aM (Kd.R_after (ok := (fun k_ => some k_ ≠ (.slice (some ad302) x8_2.length co47 : Value).ownBlock ∧ some k_ ≠ (u10 : Value).ownBlock ∧ some k_ ≠ (.slice Ao52 t306.length co52 : Value).ownBlock ∧ some k_ ≠ (.slice Ao56 t317.length co56 : Value).ownBlock)) (by refine dR ?_; exact Kd.R_mono HO305.out (fun _ hk => ⟨⟨hk.1.1.1.1.2, ⟨hk.1.1.2, ⟨hk.1.2, hk.2⟩⟩⟩, hk.1.1.1.2⟩)) hg hat); have n3_ := aM (Kd.R_after (ok := (fun k_ => some k_ ≠ (.slice (some ad302) x8_2.length co47 : Value).ownBlock ∧ some k_ ≠ (u10 : Value).ownBlock ∧ some k_ ≠ (.slice Ao50 t303.length co50 : Value).ownBlock ∧ some k_ ≠ (.slice Ao56 t317.length co56 : Value).ownBlock)) (by refine dR ?_; exact Kd.R_mono HO308.out (fun _ hk => ⟨⟨hk.1.1.1.1.2, ⟨hk.1.1.2, ⟨hk.1.2, hk.2⟩⟩⟩, hk.1.1.1.2⟩)) hg hat); have n4_ := aM (Kd.R_after (ok := (fun k_ => some k_ ≠ (.slice (some ad302) x8_2.length co47 : Value).ownBlock ∧ some k_ ≠ (u10 : Value).ownBlock ∧ some k_ ≠ (.slice Ao50 t303.length co50 : Value).ownBlock ∧ some k_ ≠ (.slice Ao52 t306.length co52 : Value).ownBlock)) (by refine dR ?_; exact Kd.R_mono HO319.out (fun _ hk => ⟨⟨hk.1.1.1.1.2, ⟨hk.1.1.2, ⟨hk.1.2, hk.2⟩⟩⟩, hk.1.1.1.2⟩)) hg hat); have n5_ := aM (hb); have n6_ := aM (ho); clear HO_8; clear HO_10; clear HO305; clear HO308; clear HO319; clear HB; clear HO_9; have HO_8 := n0_; have HO_10 := n1_; have HO305 := n2_; have HO308 := n3_; have HO319 := n4_; have HB := n5_; have HO322 := n6_; clear n0_ n1_ n2_ n3_ n4_ n5_ n6_; clear ho hb hg hat) | ((with_reducible refine gC 28 rfl ?_); refine gL 70 Tryd.func28 #[.slice Ao52 t306.length co52, .slice Ao50 t303.length co50] ?_; (with_reducible refine (spec_l7Less.calls k2 _ _ t306 _ _ t303 t323 _ ?_ ?_ ?_ ?_ A45.out).mono ?_); exact zq111; exact zq112; exact zq108; exact zq109; rintro e w57 ⟨v324, rfl, ho0, hb⟩; refine ⟨_, rfl, ?_⟩; have HO325 := aM (Kd.R_lower (Kd.R_new' (Kd.R_new' (Kd.R_new' (Kd.R_new' (Kd.R_new' (Kd.R_new' ho0 (Kd.R_lt zq99)) (Kd.R_lt zq70)) (Kd.R_lt zq107)) (Kd.R_lt zq110)) (Kd.R_lt zq114)) (Kd.R_lt zq115)) (below_size zq4)); replace HO_8 := aM (Kd.R_elder' zq99 (Kd.R_base ho0) hb); replace HO_10 := aM (Kd.R_elder' zq70 (Kd.R_base ho0) hb); replace HO305 := aM (Kd.R_elder' zq107 (Kd.R_base ho0) hb); replace HO308 := aM (Kd.R_elder' zq110 (Kd.R_base ho0) hb); replace HO319 := aM (Kd.R_elder' zq114 (Kd.R_base ho0) hb); replace HO322 := aM (Kd.R_elder' zq115 (Kd.R_base ho0) hb); replace HB := sB zq4 hb; clear hb; (try clear ho0); obtain ⟨Ao59, co59, eo59⟩ := Kd.R_slice HO325.out; subst eo59) | ((with_reducible refine gate_builtin (b := .append) (xs := #[.tmp 67, .tmp 70]) rfl ?_); at_builtin; refine Kd.R_append_rows Kd.string (w0 := w) w.heap.size rfl (.tmp 67) (.tmp 70) 22 9 (.string ⟨#[]⟩) 16 rfl Tryd.underlying22 info9 rfl (by decide) (by omega) u10 x10_2 t323 _ _ _ (fun k_ => some k_ ≠ (.slice (some ad302) x8_2.length co47 : Value).ownBlock ∧ some k_ ≠ (.slice Ao50 t303.length co50 : Value).ownBlock ∧ some k_ ≠ (.slice Ao52 t306.length co52 : Value).ownBlock ∧ some k_ ≠ (.slice Ao56 t317.length co56 : Value).ownBlock ∧ some k_ ≠ (v321 : Value).ownBlock ∧ some k_ ≠ (.slice Ao59 t323.length co59 : Value).ownBlock) (fun _ => False) rfl rfl ?aO ?aR (fun _ _ h => h) (fun _ h => h.elim) ?aF ?aB ?aS ?aL ?_; (case aR => repeat (first | exact (Kd.R_reads' HO325.out).2.2 | (with_reducible refine Kd.C_alloc ?_ _) | (with_reducible refine Kd.C_drewN ?_ _) | (with_reducible refine Kd.C_drew ?_))); (case aB => exact zq4); (case aF => exact (fun k_ hk => ⟨Kd.fresh' (Kd.R_lt zq99) k_ hk, Kd.fresh' (Kd.R_lt zq107) k_ hk, Kd.fresh' (Kd.R_lt zq110) k_ hk, Kd.fresh' (Kd.R_lt zq114) k_ hk, Kd.fresh' (Kd.R_lt zq115) k_ hk, Kd.fresh' (Kd.R_lt (by refine dR ?_; exact HO325.out)) k_ hk⟩)); (case aO => exact (by refine dR ?_; exact Kd.R_mono HO_10.out (fun _ hk => ⟨hk.1.1.1, ⟨hk.1.1.2.1, ⟨hk.1.1.2.2.1, ⟨hk.1.1.2.2.2, ⟨hk.1.2, hk.2⟩⟩⟩⟩⟩))); (case aS => exact zq123); (case aL => have := LMc46.out; omega); intro v327 w58 ho hb hg hat; rw [← Ny326.out] at ho; have n0_ := aM (Kd.R_after (ok := (fun k_ => some k_ ≠ (.slice Ao50 t303.length co50 : Value).ownBlock ∧ some k_ ≠ (.slice Ao52 t306.length co52 : Value).ownBlock ∧ some k_ ≠ (.slice Ao56 t317.length co56 : Value).ownBlock ∧ some k_ ≠ (v321 : Value).ownBlock ∧ some k_ ≠ (.slice Ao59 t323.length co59 : Value).ownBlock)) (by refine dR ?_; exact Kd.R_mono HO_8.out (fun _ hk => ⟨⟨hk.1.1.2.1, ⟨hk.1.1.2.2.1, ⟨hk.1.1.2.2.2, ⟨hk.1.2, hk.2⟩⟩⟩⟩, hk.1.1.1⟩)) hg hat); have n1_ := aM (Kd.R_after (ok := (fun k_ => some k_ ≠ (.slice (some ad302) x8_2.length co47 : Value).ownBlock ∧ some k_ ≠ (.slice Ao52 t306.length co52 : Value).ownBlock ∧ some k_ ≠ (.slice Ao56 t317.length co56 : Value).ownBlock ∧ some k_ ≠ (v321 : Value).ownBlock ∧ some k_ ≠ (.slice Ao59 t323.length co59 : Value).ownBlock)) (by refine dR ?_; exact Kd.R_mono HO305.out (fun _ hk => ⟨⟨hk.1.1.1, ⟨hk.1.1.2.2.1, ⟨hk.1.1.2.2.2, ⟨hk.1.2, hk.2⟩⟩⟩⟩, hk.1.1.2.1⟩)) hg hat); have n2_ := aM (Kd.R_after (ok := (fun k_ => some k_ ≠ (.slice (some ad302) x8_2.length co47 : Value).ownBlock ∧ some k_ ≠ (.slice Ao50 t303.length co50 : Value).ownBlock ∧ some k_ ≠ (.slice Ao56 t317.length co56 : Value).ownBlock ∧ some k_ ≠ (v321 : Value).ownBlock ∧ some k_ ≠ (.slice Ao59 t323.length co59 : Value).ownBlock)) (by refine dR ?_; exact Kd.R_mono HO308.out (fun _ hk => ⟨⟨hk.1.1.1, ⟨hk.1.1.2.2.1, ⟨hk.1.1.2.2.2, ⟨hk.1.2, hk.2⟩⟩⟩⟩, hk.1.1.2.1⟩)) hg hat); have n3_ := aM (Kd.R_after (ok := (fun k_ => some k_ ≠ (.slice (some ad302) x8_2.length co47 : Value).ownBlock ∧ some k_ ≠ (.slice Ao50 t303.length co50 : Value).ownBlock ∧ some k_ ≠ (.slice Ao52 t306.length co52 : Value).ownBlock ∧ some k_ ≠ (v321 : Value).ownBlock ∧ some k_ ≠ (.slice Ao59 t323.length co59 : Value).ownBlock)) (by refine dR ?_; exact Kd.R_mono HO319.out (fun _ hk => ⟨⟨hk.1.1.1, ⟨hk.1.1.2.2.1, ⟨hk.1.1.2.2.2, ⟨hk.1.2, hk.2⟩⟩⟩⟩, hk.1.1.2.1⟩)) hg hat); have n4_ := aM (Kd.R_after (ok := (fun k_ => some k_ ≠ (.slice (some ad302) x8_2.length co47 : Value).ownBlock ∧ some k_ ≠ (.slice Ao50 t303.length co50 : Value).ownBlock ∧ some k_ ≠ (.slice Ao52 t306.length co52 : Value).ownBlock ∧ some k_ ≠ (.slice Ao56 t317.length co56 : Value).ownBlock ∧ some k_ ≠ (.slice Ao59 t323.length co59 : Value).ownBlock)) (by refine dR ?_; exact Kd.R_mono HO322.out (fun _ hk => ⟨⟨hk.1.1, ⟨hk.1.2.2.1, ⟨hk.1.2.2.2.1, ⟨hk.1.2.2.2.2, hk.2⟩⟩⟩⟩, hk.1.2.1⟩)) hg hat); have n5_ := aM (Kd.R_after (ok := (fun k_ => some k_ ≠ (.slice (some ad302) x8_2.length co47 : Value).ownBlock ∧ some k_ ≠ (.slice Ao50 t303.length co50 : Value).ownBlock ∧ some k_ ≠ (.slice Ao52 t306.length co52 : Value).ownBlock ∧ some k_ ≠ (.slice Ao56 t317.length co56 : Value).ownBlock ∧ some k_ ≠ (v321 : Value).ownBlock)) (by refine dR ?_; exact Kd.R_mono HO325.out (fun _ hk => ⟨⟨hk.1.1.1.1.1.2, ⟨hk.1.1.1.2, ⟨hk.1.1.2, ⟨hk.1.2, hk.2⟩⟩⟩⟩, hk.1.1.1.1.2⟩)) hg hat); have n6_ := aM (hb); have n7_ := aM (ho); clear HO_8; clear HO305; clear HO308; clear HO319; clear HO322; clear HO325; clear HB; clear HO_10; have HO_8 := n0_; have HO305 := n1_; have HO308 := n2_; have HO319 := n3_; have HO322 := n4_; have HO325 := n5_; have HB := n6_; have HO328 := n7_; clear n0_ n1_ n2_ n3_ n4_ n5_ n6_ n7_; clear ho hb hg hat))
          go_roundg k2
          case measure => have := HJ2.out; have := HK2.out; omega
          case rel => exact ⟨(x8_2), (y320), (y326), (wrap64 (x11_2 + 1)), zq1, H', ⟨zq113⟩, ⟨by refine dR ?_; exact Kd.R_mono HO_8.out (fun _ hk => ⟨hk.1.2.2.2.1, hk.2⟩)⟩, ⟨by refine dR ?_; exact Kd.R_mono HO322.out (fun _ hk => ⟨hk.1.1, hk.2⟩)⟩, ⟨by refine dR ?_; exact Kd.R_mono HO328.out (fun _ hk => ⟨hk.1, hk.2.2.2.2.1⟩)⟩, ⟨zq4⟩⟩
         rw [if_neg c46] at H; exact absurd H (by simp)
        rw [if_neg c44] at H; exact absurd H (by simp)
       exact zq142
      rw [if_neg c16] at H; have c16b0 := decide_eq_false c16; clear c16; simp only [Option.some.injEq, Prod.mk.injEq] at H; obtain ⟨rfl, rfl, rfl, rfl⟩ := H; obtain ⟨Ao60, co60, eo60⟩ := Kd.R_slice HO_8.out; subst eo60; go_wp2; refine bodyPost_ret (results_list (rs := [.tmp 4, .tmp 5, .tmp 6, .tmp 7]) rfl (by simp) (.tmp (.tmp (.tmp (.tmp .nil))))) rfl ?_; exact ⟨_, _, _, zq5, zq99, zq69, zq70, zq4⟩
   exact zq147

/-! ### slices_Clone_string_string: function 48 (given) -/
def slices_Clone_string_string.f (l0 : List ByteArray) : Option (List ByteArray) := if l0.length ≤ 8796093022208 then some l0 else none
theorem slices_Clone_string_string.calls (A0 : Option Addr) (c0 : Nat) (l0 : List ByteArray) (r : List ByteArray) (w : World) (hr0 : Kd.C Kd.string w A0 l0.length l0) (hc0 : l0.length ≤ c0) (h : slices_Clone_string_string.f l0 = some r) :
    Calls Tryd.prog 48 #[.slice A0 l0.length c0] w fun e w' => ∃ v0_ : Value, e = .returned (v0_) ∧ Kd.R Kd.string 9 w' w.heap.size (fun _ => True) v0_ r ∧ Below w.heap.size w w' := by
  unfold slices_Clone_string_string.f at h
  split at h
  case isFalse => exact absurd h (by simp)
  rename_i hg
  injection h with h
  subst h
  rcases Nat.eq_zero_or_pos l0.length with hz | hp
  · obtain rfl : l0 = [] := List.length_eq_zero_iff.1 hz
    cases A0 with
    | none =>
      refine (Any.slices_Clone_string_nil Tryd.lays2_16 0 c0 w).mono ?_; rintro e w' ⟨rfl, rfl⟩; exact ⟨_, rfl, Kd.R_nil _ _ _ _ _, Below.refl _ _⟩
    | some a =>
      refine (Any.slices_Clone_string_zero Tryd.lays2_16 a c0 w).mono ?_; rintro e w' ⟨v, rfl, ho, _, hb⟩; exact ⟨_, rfl, Kd.R_of_own (enc := Value.string) (OwnsM.of ho) (fun _ _ => trivial), hb⟩
  · obtain ⟨ad, rfl, h0⟩ := Kd.at_string hr0 0 (by omega) (by omega)
    obtain ⟨bk, o, pt⟩ := ad
    obtain rfl : pt = none := by
      cases pt with
      | none => rfl
      | some q =>
        simp [World.cell?, Addr.add] at h0
        split at h0 <;> cases h0
    have hc := Any.slices_Clone_string Tryd.lays2_16 bk o l0.length c0 l0 w (Nat.le_refl _) (by omega) (fun j hj => by
      obtain ⟨ad2, e2, h2⟩ := Kd.at_string hr0 (j : Int) (by omega) (by omega)
      injection e2 with e2
      subst e2; rw [show rdOf ByteArray.empty l0 (j : Int) = l0.getD j ByteArray.empty from rfl] at h2; by_cases hj0 : j = 0
      · subst hj0
        simpa [Addr.add] using h2
      · simpa [Addr.add, hj0] using h2)
    rw [List.take_length] at hc; refine hc.mono ?_; rintro e w' ⟨v, rfl, ho, _, hb⟩; exact ⟨_, rfl, Kd.R_of_own (enc := Value.string) (OwnsM.of ho) (fun _ _ => trivial), hb⟩

/-! ### impl_missing: function 30 (walked by hand) -/

def impl_missing.inB (l1 : List ByteArray) (x : ByteArray) : Bool := l1.any fun y => x.toList == y.toList
def impl_missing.f (l0 : List ByteArray) (l1 : List ByteArray) : Option (List ByteArray) := if l0.length ≤ 8796093022208 ∧ l1.length ≤ 9223372036854775807 then some (l0.filter fun d => !(impl_missing.inB l1 d)) else none
theorem impl_missing.has (A1 : Option Addr) (c1 : Nat) (l1 : List ByteArray) (x : ByteArray) (w : World) (hr1 : Kd.C Kd.string w A1 l1.length l1) (hl : l1.length ≤ 9223372036854775807) :
  Calls Tryd.prog 50 #[.slice A1 l1.length c1, .string x] w fun e w' => e = .returned (.bool (impl_missing.inB l1 x)) ∧ w' = w := by
 rcases Nat.eq_zero_or_pos l1.length with hz | hp
 ·
  obtain rfl : l1 = [] := List.length_eq_zero_iff.1 hz; exact AnyE.slices_Contains_empty Tryd.laysCt A1 c1 (.string x) w
 obtain ⟨ad, rfl, h0⟩ := Kd.at_string hr1 0 (by omega) (by omega); obtain ⟨bk, o, pt⟩ := ad
 obtain rfl : pt = none := by
  cases pt with
  | none => rfl
  | some q =>
   simp [World.cell?, Addr.add] at h0
   split at h0 <;> cases h0
 have hc := AnyE.slices_Contains Tryd.laysCt Value.string (fun x y => x.toList == y.toList) (EqlAt.string _ _) bk o l1.length c1 l1 x w (Nat.le_refl _) hl (fun j hj => by
  obtain ⟨ad2, e2, h2⟩ := Kd.at_string hr1 (j : Int) (by omega) (by omega)
  injection e2 with e2
  subst e2; rw [show rdOf ByteArray.empty l1 (j : Int) = l1[j]! by rw [getElem!_pos l1 j hj]; simp [rdOf, hj]] at h2; by_cases hj0 : j = 0
  ·
   subst hj0
   simpa [Addr.add] using h2
  simpa [Addr.add, hj0] using h2)
 rw [List.take_length] at hc; exact hc
set_option maxHeartbeats 2000000 in
set_option maxRecDepth 100000 in
theorem impl_missing.gives (A1 : Option Addr) (c1 : Nat) (l1 : List ByteArray) (x : ByteArray) (gb : Nat) (W : World) (hcell : W.cell? ⟨gb, 0, none⟩ = some (.slice A1 l1.length c1)) (hr1 : Kd.C Kd.string W A1 l1.length l1) (hl : l1.length ≤ 9223372036854775807) :
  FnGives Tryd.prog 49 #[.pointer (some ⟨gb, 0, none⟩)] #[.string x] (.bool (impl_missing.inB l1 x)) W := by
 have hh := aM (impl_missing.has A1 c1 l1 x W hr1 hl); clear hr1; show Calls Tryd.prog 49 #[.string x, .pointer (some ⟨gb, 0, none⟩)] W _; generalize impl_missing.inB l1 x = b at hh; go_enter Tryd.func49, Tryd.ntmps49
 go_wp2_with (fail)
 refine hh.out.mono ?_; rintro e w' ⟨rfl, rfl⟩
 try dsimp only
 go_wp2; go_ret; exact ⟨rfl, 0, rfl⟩
theorem impl_missing.enc_back (l : List ByteArray) (q : ByteArray → Bool) : ((l.map fun s => s.data.toList).filter fun b => q ⟨b.toArray⟩) = (l.filter q).map fun s => s.data.toList := by
 rw [List.filter_map]
 rfl
theorem impl_missing.encs_of (ts : List ByteArray) : (ts.map fun s => s.data.toList).map Go.Proofs.encStr = encs Value.string ts := by simp [encs, Go.Proofs.encStr, Function.comp_def]
set_option maxHeartbeats 2000000 in
set_option maxRecDepth 100000 in
/-- The row v without what l1 has. -/
theorem impl_missing.del (A1 : Option Addr) (c1 : Nat) (l0 l1 : List ByteArray) (v : Value) (gb base : Nat) (w W : World) (hB : Below w.heap.size w W) (hg : gb = w.heap.size) (hcell : W.cell? ⟨gb, 0, none⟩ = some (.slice A1 l1.length c1)) (hr1 : Kd.C Kd.string w A1 l1.length l1)
  (hl0 : l0.length ≤ 8796093022208) (hl : l1.length ≤ 9223372036854775807) (hb0 : w.heap.size < base) (ho : Kd.R Kd.string 9 W base (fun _ => True) v l0) :
  Calls Tryd.prog 47 #[v, .func (.func 49) #[] #[.pointer (some ⟨gb, 0, none⟩)]] W fun e w' => ∃ v0_ : Value, e = .returned v0_ ∧ Kd.R Kd.string 9 w' w.heap.size (fun _ => True) v0_ (l0.filter fun d => !(impl_missing.inB l1 d)) ∧ Below w.heap.size w w' := by
 have eg : ∀ args w, (callFunc 49 args).run Tryd.prog w = .ok (.enter 49 args) w := enters_of Tryd.func49 (by kernel_rfl) rfl; obtain ⟨_, ⟨rfl, hn⟩ | ⟨g, cap, cur, rfl, hb, hh, hcap, hm, hs, ht⟩⟩ := Kd.own_of_R (enc := Value.string) ho
 ·
  obtain rfl : l0 = [] := List.length_eq_zero_iff.1 hn; have hI := AnyE.slices_IndexFunc_empty { Tryd.laysDF with } none 0 (.func (.func 49) #[] #[.pointer (some ⟨gb, 0, none⟩)]) W
  change Calls Tryd.prog 69 _ _ _ at hI
  clear ho hr1 hcell eg hg; have HB := aM hB; have HI := aM hI; clear hB hI; go_enter Tryd.func47, Tryd.ntmps47
  go_wp2_with (fail)
  refine HI.out.mono ?_; rintro e w' ⟨rfl, rfl⟩
  try dsimp only
  go_wp2; go_ret; exact ⟨_, rfl, Kd.R_nil _ _ _ _ _, HB.out⟩
 have hgb : gb ≠ g := by omega
 have hgw : w.heap.size ≤ g := by omega
 have hplain := hh.plain (by decide); rw [Nat.mul_one] at hs ht; have e0 : (l0.map fun s => s.data.toList).length = l0.length := by simp
 have hH := holds_of_block (ss := l0.map fun s => s.data.toList) hplain (by rw [e0, impl_missing.encs_of]; exact ht); have hg0 : gb < W.heap.size := World.block_lt_of_cell? W ⟨gb, 0, none⟩ hcell
 have hp : PredAt Tryd.prog 49 #[.pointer (some ⟨gb, 0, none⟩)] Go.Proofs.encStr (fun b => impl_missing.inB l1 ⟨b.toArray⟩) W := fun V x hV =>
  impl_missing.gives A1 c1 l1 ⟨x.toArray⟩ gb V ((hV.cell (p := ⟨gb, 0, none⟩) hg0).trans hcell) (Kd.C_below hr1 (below_then hB hB.size hV)) hl
 have hpo : PredOver Tryd.prog 49 #[.pointer (some ⟨gb, 0, none⟩)] Go.Proofs.encStr (fun b => impl_missing.inB l1 ⟨b.toArray⟩) g 0 (l0.map fun s => s.data.toList).toArray.size W := fun n os dk x _ => by
  have hgr := grownBy_sorted (w := W) (g := g) (n := n) (os := os) dk
  refine impl_missing.gives A1 c1 l1 ⟨x.toArray⟩ gb _ ?_ (Kd.C_below hr1 (hB.grown hgr hB.size (fun k hk => by
   obtain rfl : g = k := by simpa using hk
   exact hgw))) hl
  unfold sortWorld; rw [Go.Sort.cell?_grow _ _ _ (by show gb < (Go.Sort.putRow _ _ _ _ _).heap.size; rw [Go.Sort.size_putRow]; exact hg0), Go.Sort.cell?_putRow_other _ _ g 0 _ _ (Or.inl hgb)]; exact hcell
 have hc := AnyE.slices_DeleteFunc Tryd.laysDF Go.Proofs.encStr (fun _ => rfl) (fun b => impl_missing.inB l1 ⟨b.toArray⟩) 49 #[.pointer (some ⟨gb, 0, none⟩)] eg [] Tryd.zeroValue9 g 0 cap (l0.map fun s => s.data.toList).toArray W hp hpo hH (by simp; omega) (by simp; omega); simp only [List.size_toArray, e0] at hc; rw [impl_missing.enc_back l0 (fun d => !(impl_missing.inB l1 d))] at hc; have hle : (l0.filter fun d => !(impl_missing.inB l1 d)).length ≤ l0.length := List.length_filter_le _ _; generalize (l0.filter fun d => !(impl_missing.inB l1 d)) = r at hc hle; rw [List.length_map] at hc; refine hc.mono ?_; rintro e w' ⟨rfl, n, rfl⟩; generalize hus : (r.map fun s => s.data.toList) ++ List.replicate (l0.length - r.length) [] = us; have hul : us.length = l0.length := by rw [← hus, List.length_append, List.length_replicate, List.length_map]; omega
 have hgr := grownBy_sorted (w := W) (g := g) (n := n) (os := #[]) us.toArray; have hh' := heap_sorted (n := n) (os := #[]) us.toArray hplain; rw [show ∀ W : World, Go.Sort.grow W #[] = W from fun W => by cases W; simp [Go.Sort.grow]] at hgr hh'; have htk := take_putCells cur us (by omega)
 have htk2 : (Go.Sort.putCells Go.Proofs.encStr 0 us.toArray cur).toList.take r.length = encs Value.string r := by
  have h1 := congrArg (List.take r.length) htk; rw [List.take_take, Nat.min_eq_left (by omega)] at h1; rw [h1, ← hus, List.map_append, List.take_left' (by simp), impl_missing.encs_of]
 refine ⟨_, rfl, Kd.R_of_own (enc := Value.string) ⟨by simp [encs], .inr ⟨g, cap, _, rfl, hgw, Held.of hh', by omega, hm, by simp [Go.Sort.putCells, hs], by rw [Nat.mul_one]; exact htk2⟩⟩ (fun _ _ => trivial), hB.grown hgr hB.size (fun k hk => ?_)⟩; obtain rfl : g = k := by simpa using hk
 exact hgw
set_option maxHeartbeats 4000000 in
set_option maxRecDepth 100000 in
theorem impl_missing.calls (A0 : Option Addr) (c0 : Nat) (l0 : List ByteArray) (A1 : Option Addr) (c1 : Nat) (l1 : List ByteArray) (r : List ByteArray) (w : World) (hr0 : Kd.C Kd.string w A0 l0.length l0) (hc0 : l0.length ≤ c0) (hr1 : Kd.C Kd.string w A1 l1.length l1) (hc1 : l1.length ≤ c1) (h : impl_missing.f l0 l1 = some r) :
  Calls Tryd.prog 30 #[.slice A0 l0.length c0, .slice A1 l1.length c1] w fun e w' => ∃ v0_ : Value, e = .returned (v0_) ∧ Kd.R Kd.string 9 w' w.heap.size (fun _ => True) v0_ r ∧ Below w.heap.size w w' := by
 unfold impl_missing.f at h
 split at h
 case isFalse => exact absurd h (by simp)
 rename_i hg
 injection h with h
 subst h; obtain ⟨hg0, hg1⟩ := hg; have HR0 := aM hr0; have HR1 := aM hr1; have HC0 := aM hc0; have HG := aM (And.intro hg0 hg1); clear hr0 hr1 hc0 hc1 hg0 hg1; go_enter Tryd.func30, Tryd.ntmps30
 go_wp2_with (fail)
 refine (slices_Clone_string_string.calls A0 c0 l0 l0 _ (Kd.C_alloc HR0.out _) HC0.out (by unfold slices_Clone_string_string.f; rw [if_pos HG.out.1])).mono ?_; rintro e w2 ⟨v, rfl, hO, hb⟩; have HB := aM (below_then (below_alloc (Below.refl w.heap.size w) (.cells #[.slice A1 l1.length c1] 22)) (below_alloc (Below.refl w.heap.size w) (.cells #[.slice A1 l1.length c1] 22)).size hb); have hnew := heap_alloc_new w (.cells #[.slice A1 l1.length c1] 22); have hlt := aM (Array.getElem?_eq_some_iff.1 hnew).1; have HCell : Aside0 (w2.cell? ⟨w.heap.size, 0, none⟩ = some (.slice A1 l1.length c1)) := ⟨(hb.cell (p := ⟨w.heap.size, 0, none⟩) hlt.out).trans (blk_cell hnew 0)⟩; clear hnew; have HO := aM hO; clear hb hO
 try dsimp only
 go_wp2_with (fail)
 refine (impl_missing.del A1 c1 l0 l1 v w.heap.size _ w w2 HB.out rfl HCell.out HR1.out HG.out.1 HG.out.2 hlt.out HO.out).mono ?_; rintro e w3 ⟨v0, rfl, hO, hb⟩; have HB := aM hb; have HO := aM hO; clear hb hO
 try dsimp only
 go_wp2; go_ret; exact ⟨_, rfl, HO.out, HB.out⟩

/-! ### impl_Steps: function 12 (walked by hand) -/

def impl_Steps.T3 (w W : World) (v8 v9 v10 : Value) (x8 x9 x10 : List ByteArray) : Prop :=
 Kd.R Kd.string 9 W w.heap.size (fun k => some k ≠ v9.ownBlock ∧ some k ≠ v10.ownBlock) v8 x8 ∧ Kd.R Kd.string 9 W w.heap.size (fun k => some k ≠ v8.ownBlock ∧ some k ≠ v10.ownBlock) v9 x9 ∧ Kd.R Kd.string 9 W w.heap.size (fun k => some k ≠ v8.ownBlock ∧ some k ≠ v9.ownBlock) v10 x10 ∧ Below w.heap.size w W
section
variable {w W w1 : World} {v8 v9 v10 v1 : Value} {x8 x9 x10 y : List ByteArray}
theorem impl_Steps.T3_below (h : impl_Steps.T3 w W v8 v9 v10 x8 x9 x10) (hb : Below W.heap.size W w1) : impl_Steps.T3 w w1 v8 v9 v10 x8 x9 x10 := ⟨Kd.R_below h.1 hb, Kd.R_below h.2.1 hb, Kd.R_below h.2.2.1 hb, below_step h.2.2.2 hb⟩
theorem impl_Steps.T3_rot (h : impl_Steps.T3 w W v8 v9 v10 x8 x9 x10) : impl_Steps.T3 w W v9 v10 v8 x9 x10 x8 := ⟨Kd.R_mono h.2.1 (fun _ hk => ⟨hk.2, hk.1⟩), Kd.R_mono h.2.2.1 (fun _ hk => ⟨hk.2, hk.1⟩), h.1, h.2.2.2⟩
theorem impl_Steps.T3_wrote (h : impl_Steps.T3 w W v8 v9 v10 x8 x9 x10) (ho : Kd.R Kd.string 9 w1 w.heap.size (fun k => some k ≠ v9.ownBlock ∧ some k ≠ v10.ownBlock) v1 y) (hb : Below w.heap.size w w1) (hg : W.grownBy w1 v8.ownBlock) (hat : v1.ownBlock = v8.ownBlock ∨ ∃ b, v1.ownBlock = some b ∧ W.heap.size ≤ b) : impl_Steps.T3 w w1 v1 v9 v10 y x9 x10 :=
 ⟨ho, Kd.R_mono (Kd.R_after (ok := fun k => some k ≠ v10.ownBlock) (Kd.R_mono h.2.1 (fun _ hk => ⟨hk.2, hk.1⟩)) hg hat) (fun _ hk => ⟨hk.2, hk.1⟩), Kd.R_mono (Kd.R_after (ok := fun k => some k ≠ v9.ownBlock) (Kd.R_mono h.2.2.1 (fun _ hk => ⟨hk.2, hk.1⟩)) hg hat) (fun _ hk => ⟨hk.2, hk.1⟩), hb⟩
theorem impl_Steps.T3_fresh (h : impl_Steps.T3 w W v8 v9 v10 x8 x9 x10) : ∀ k, W.heap.size ≤ k → some k ≠ v9.ownBlock ∧ some k ≠ v10.ownBlock := fun k hk => ⟨Kd.fresh' (Kd.R_lt h.2.1) k hk, Kd.fresh' (Kd.R_lt h.2.2.1) k hk⟩
theorem impl_Steps.R_adv {v : Value} {x : List ByteArray} {base g i j : Nat} {ok : Nat → Prop} (h : Kd.R Kd.string 9 W base ok v x) (hg : W.heap[g]? = some (.stringIter impl_nodeOf.hexs i)) : Kd.R Kd.string 9 (impl_nodeOf.adv W g j) base ok v x :=
 Kd.R_mono (Kd.R_step (Kd.R_bound h) (fun k hk _ => (impl_nodeOf.kept W g j).2 k hk.2.2.1 (fun e => by
  subst e; obtain ⟨_, _, _, _, hc, _⟩ := hk.2.2.2; rw [hg] at hc
  cases hc))) (fun _ hk => hk.1)
theorem impl_Steps.T3_adv {g i j : Nat} (h : impl_Steps.T3 w W v8 v9 v10 x8 x9 x10) (hg : W.heap[g]? = some (.stringIter impl_nodeOf.hexs i)) (hle : w.heap.size ≤ g) : impl_Steps.T3 w (impl_nodeOf.adv W g j) v8 v9 v10 x8 x9 x10 :=
 ⟨impl_Steps.R_adv h.1 hg, impl_Steps.R_adv h.2.1 hg, impl_Steps.R_adv h.2.2.1 hg, impl_nodeOf.below h.2.2.2 hle⟩
theorem impl_Steps.iter_far {g i : Nat} (hg : W.heap[g]? = some (.stringIter impl_nodeOf.hexs i)) (h : impl_Steps.T3 w W v8 v9 v10 x8 x9 x10) (hgr : W.grownBy w1 v8.ownBlock) : w1.heap[g]? = some (.stringIter impl_nodeOf.hexs i) := by
 refine (hgr.block g (Array.getElem?_eq_some_iff.1 hg).1 (fun e => ?_)).trans hg; obtain ⟨_, _, _, _, _, _, hc⟩ := (Kd.R_bound h.1).1 g e.symm; obtain ⟨_, hc, _⟩ := hc; rw [hg] at hc; cases hc
theorem impl_Steps.T3_made {W0 w2 w3 : World} (HB : Below w.heap.size w W0) (ho1 : Kd.R Kd.string 9 w1 W0.heap.size (fun _ => True) v8 x8) (hb1 : Below W0.heap.size W0 w1) (ho2 : Kd.R Kd.string 9 w2 w1.heap.size (fun _ => True) v9 x9) (hb2 : Below w1.heap.size w1 w2) (ho3 : Kd.R Kd.string 9 w3 w2.heap.size (fun _ => True) v10 x10) (hb3 : Below w2.heap.size w2 w3) : impl_Steps.T3 w w3 v8 v9 v10 x8 x9 x10 := by
 have s1 := HB.size; have s2 := hb1.size; have s3 := hb2.size; have o1 := Kd.R_elder' ho1 (Kd.R_base ho2) hb2; have o2 := Kd.R_new' ho2 (Kd.R_lt ho1); refine ⟨Kd.R_mono (Kd.R_lower (Kd.R_elder' o1 (Kd.R_base ho3) hb3) s1) (fun _ hk => ⟨hk.1.2, hk.2⟩), Kd.R_mono (Kd.R_lower (Kd.R_elder' o2 (Kd.R_base ho3) hb3) (by omega)) (fun _ hk => ⟨hk.1.2, hk.2⟩), Kd.R_mono (Kd.R_lower (Kd.R_new' (Kd.R_new' ho3 (Kd.R_lt o1)) (Kd.R_lt o2)) (by omega)) (fun _ hk => ⟨hk.1.2, hk.2⟩), below_step (below_step (below_step HB hb1) hb2) hb3⟩
theorem impl_Steps.R_new3 {W0 : World} {base : Nat} {v : Value} {x : List ByteArray} (h : Kd.R Kd.string 9 W base (fun _ => True) v x) (hb : W0.heap.size ≤ base) : Kd.R Kd.string 9 W base (fun k => W0.heap.size ≤ k) v x := Kd.R_mono (Kd.R_bound h) (fun _ hk => Nat.le_trans hb hk.2.1)
end
/-- The rounds over the sixteen digits. -/
def impl_Steps.lp (p : ByteArray) : Nat → Nat → List ByteArray → Option (List ByteArray)
 | 0, _, acc => some acc
 | d + 1, i, acc => if p.size + (Utf8.encode (impl_nodeOf.hexC i)).size ≤ 9223372036854775807 then (if acc.length < 8796093022208 then impl_Steps.lp p d (i + 1) (acc ++ [p ++ Utf8.encode (impl_nodeOf.hexC i)]) else none) else none
def impl_Steps.l0 : Nat → List ByteArray → List ByteArray → List ByteArray → List ByteArray → List ByteArray → Int → Option (List ByteArray × List ByteArray × List ByteArray × Bool)
 | 0, _, _, _, _, _, _ => none
 | k + 1, l0, l1, x8, x9, x10, x11 => if x11 < (x8.length : Int) then (if 0 ≤ x11 then ((impl_nodeOf.f k l0 (rdOf ByteArray.empty x8 x11)).bind fun n0 => ((impl_nodeOf.f k l1 (rdOf ByteArray.empty x8 x11)).bind fun n1 => (if n0.toList = n1.toList then (impl_Steps.l0 k l0 l1 x8 x9 x10 (wrap64 (x11 + 1))) else (if ((rdOf ByteArray.empty x8 x11).size : Int) < 2 then ((impl_Steps.lp (rdOf ByteArray.empty x8 x11) 16 0 x8).bind fun y => impl_Steps.l0 k l0 l1 y x9 x10 (wrap64 (x11 + 1))) else ((impl_under.f k l0 (rdOf ByteArray.empty x8 x11)).bind fun one => ((impl_under.f k l1 (rdOf ByteArray.empty x8 x11)).bind fun two => ((impl_missing.f one two).bind fun m1 => (if x9.length + m1.length < 8796093022208 then ((impl_missing.f two one).bind fun m2 => (if x10.length + m2.length < 8796093022208 then impl_Steps.l0 k l0 l1 x8 (x9 ++ m1) (x10 ++ m2) (wrap64 (x11 + 1)) else none)) else none)))))))) else none) else some (x8, x9, x10, true)
def impl_Steps.f (k : Nat) (l0 : List ByteArray) (l1 : List ByteArray) : Option (List ByteArray × List ByteArray × List ByteArray × Bool) := (impl_isSet.f k l0).bind fun b0 => if b0 = true then ((impl_isSet.f k l1).bind fun b1 => if b1 = true then impl_Steps.l0 k l0 l1 [(⟨#[]⟩ : ByteArray)] [] [] 0 else some ([], [], [], false)) else some ([], [], [], false)
theorem impl_Steps.mono_l : ∀ k, ∀ l0 l1 x8 x9 x10 x11, LeO (impl_Steps.l0 k l0 l1 x8 x9 x10 x11) (impl_Steps.l0 (k + 1) l0 l1 x8 x9 x10 x11)
 | 0 => fun _ _ _ _ _ _ r h => by simp [impl_Steps.l0] at h
 | k + 1 => fun l0 l1 x8 x9 x10 x11 => by
  have ih := impl_Steps.mono_l k; rw [impl_Steps.l0.eq_2, impl_Steps.l0.eq_2]; exact LeO.ite (LeO.ite (LeO.bind (impl_nodeOf.mono _ _ _) (fun n0 => LeO.bind (impl_nodeOf.mono _ _ _) (fun n1 => LeO.ite (ih _ _ _ _ _ _) (LeO.ite (LeO.bind (LeO.refl _) (fun y => ih _ _ _ _ _ _)) (LeO.bind (impl_under.mono _ _ _) (fun one => LeO.bind (impl_under.mono _ _ _) (fun two => LeO.bind (LeO.refl _) (fun m1 => LeO.ite (LeO.bind (LeO.refl _) (fun m2 => LeO.ite (ih _ _ _ _ _ _) (LeO.refl _))) (LeO.refl _))))))))) (LeO.refl _)) (LeO.refl _)
theorem impl_Steps.mono : ∀ a0 a1 k, LeO (impl_Steps.f k a0 a1) (impl_Steps.f (k + 1) a0 a1) := fun a0 a1 k => by
 unfold impl_Steps.f; exact LeO.bind (impl_isSet.mono _ _) (fun b0 => LeO.ite (LeO.bind (impl_isSet.mono _ _) (fun b1 => LeO.ite (impl_Steps.mono_l k _ _ _ _ _ _) (LeO.refl _))) (LeO.refl _))
set_option maxHeartbeats 8000000 in
set_option maxRecDepth 100000 in
theorem impl_Steps.calls (k : Nat) (A0 : Option Addr) (c0 : Nat) (l0 : List ByteArray) (A1 : Option Addr) (c1 : Nat) (l1 : List ByteArray) (r1 : List ByteArray) (r2 : List ByteArray) (r3 : List ByteArray) (r4 : Bool) (w : World) (hr0 : Kd.C Kd.string w A0 l0.length l0) (hc0 : l0.length ≤ c0) (hr1 : Kd.C Kd.string w A1 l1.length l1) (hc1 : l1.length ≤ c1) (h : impl_Steps.f k l0 l1 = some (r1, r2, r3, r4)) :
  Calls Tryd.prog 12 #[.slice A0 l0.length c0, .slice A1 l1.length c1] w fun e w' => ∃ v0_ v1_ v2_ : Value, e = .returned (.tuple #[v0_, v1_, v2_, .bool r4]) ∧ Kd.R Kd.string 9 w' w.heap.size (fun k_ => some k_ ≠ (v1_ : Value).ownBlock ∧ some k_ ≠ (v2_ : Value).ownBlock) v0_ r1 ∧ Kd.R Kd.string 9 w' w.heap.size (fun k_ => some k_ ≠ (v0_ : Value).ownBlock ∧ some k_ ≠ (v2_ : Value).ownBlock) v1_ r2 ∧ Kd.R Kd.string 9 w' w.heap.size (fun k_ => some k_ ≠ (v0_ : Value).ownBlock ∧ some k_ ≠ (v1_ : Value).ownBlock) v2_ r3 ∧ Below w.heap.size w w' := by
 have HR0 := aM hr0; have HC0 := aM hc0; have HR1 := aM hr1; have HC1 := aM hc1; clear hr0 hr1 hc0 hc1; unfold impl_Steps.f at h; obtain ⟨b0, hb0, h⟩ := Option.bind_eq_some_iff.mp h; have B0 := aM hb0; clear hb0
 cases b0 with
 | false =>
  simp only [Bool.false_eq_true, if_false, Option.some.injEq, Prod.mk.injEq] at h; obtain ⟨rfl, rfl, rfl, rfl⟩ := h; go_enter Tryd.func12, Tryd.ntmps12
  go_wp2_with (fail)
  refine (impl_isSet.calls k A0 c0 l0 false _ HR0.out HC0.out B0.out).mono ?_; rintro e w2 ⟨rfl, hb⟩; have HB := aM hb; clear hb
  try dsimp only
  go_wp2; refine bodyPost_ret (results_list (rs := [.tmp 4, .tmp 5, .tmp 6, .tmp 7]) rfl (by simp) (.tmp (.tmp (.tmp (.tmp .nil))))) rfl ?_; exact ⟨_, _, _, rfl, Kd.R_nil _ _ _ _ _, Kd.R_nil _ _ _ _ _, Kd.R_nil _ _ _ _ _, HB.out⟩
 | true =>
  rw [if_pos rfl] at h; obtain ⟨b1, hb1, h⟩ := Option.bind_eq_some_iff.mp h; have B1 := aM hb1; clear hb1
  cases b1 with
  | false =>
   simp only [Bool.false_eq_true, if_false, Option.some.injEq, Prod.mk.injEq] at h; obtain ⟨rfl, rfl, rfl, rfl⟩ := h; go_enter Tryd.func12, Tryd.ntmps12
   go_wp2_with (fail)
   refine (impl_isSet.calls k A0 c0 l0 true _ HR0.out HC0.out B0.out).mono ?_; rintro e w2 ⟨rfl, hb⟩; have HB := aM hb; clear hb
   try dsimp only
   go_wp2_with (fail)
   refine (impl_isSet.calls k A1 c1 l1 false _ (Kd.C_below HR1.out HB.out) HC1.out B1.out).mono ?_; rintro e w3 ⟨rfl, hb⟩; replace HB := aM (below_step HB.out hb); clear hb
   try dsimp only
   go_wp2; refine bodyPost_ret (results_list (rs := [.tmp 4, .tmp 5, .tmp 6, .tmp 7]) rfl (by simp) (.tmp (.tmp (.tmp (.tmp .nil))))) rfl ?_; exact ⟨_, _, _, rfl, Kd.R_nil _ _ _ _ _, Kd.R_nil _ _ _ _ _, Kd.R_nil _ _ _ _ _, HB.out⟩
  | true =>
   rw [if_pos rfl] at h; have H0 := aM h; clear h; go_enter Tryd.func12, Tryd.ntmps12
   go_wp2_with (fail)
   refine (impl_isSet.calls k A0 c0 l0 true _ HR0.out HC0.out B0.out).mono ?_; rintro e w2 ⟨rfl, hb⟩; have HB := aM hb; clear hb
   try dsimp only
   go_wp2_with (fail)
   refine (impl_isSet.calls k A1 c1 l1 true _ (Kd.C_below HR1.out HB.out) HC1.out B1.out).mono ?_; rintro e w3 ⟨rfl, hb⟩; replace HB := aM (below_step HB.out hb); clear hb
   try dsimp only
   go_wp2_with (first | ((with_reducible refine gD 25 rfl ?_); refine Kd.R_lit Kd.string _ 9 ?hg (N := 25) ?hd (xs := ([(⟨#[]⟩ : ByteArray)] : List ByteArray)) (inner := [.string (⟨#[]⟩ : ByteArray)]) (ok := fun _ => True) (okp := fun _ => True) ?hr ?hp (fun _ hk => hk) trivial (Below.refl _ _) (Nat.le_refl _) (by simp) ?_; (case hd => rfl); (case hg => rfl); (case hr => exact zq8); (case hp => exact zq39); intro v1 w4 ho hb hg_ hnew_; have O1 := aM ho; have D1 := aM hb; clear ho hb hg_ hnew_) | ((with_reducible refine gD 26 rfl ?_); refine Kd.R_lit Kd.string _ 9 ?hg (N := 26) ?hd (xs := ([] : List ByteArray)) (inner := []) (ok := fun _ => True) (okp := fun _ => True) ?hr ?hp (fun _ hk => hk) trivial (Below.refl _ _) (Nat.le_refl _) (by simp) ?_; (case hd => rfl); (case hg => rfl); (case hr => exact zq8); (case hp => exact zq9); intro v2 w5 ho hb hg_ hnew_; have O2 := aM ho; have D2 := aM hb; clear ho hb hg_ hnew_) | ((with_reducible refine gD 27 rfl ?_); refine Kd.R_lit Kd.string _ 9 ?hg (N := 27) ?hd (xs := ([] : List ByteArray)) (inner := []) (ok := fun _ => True) (okp := fun _ => True) ?hr ?hp (fun _ hk => hk) trivial (Below.refl _ _) (Nat.le_refl _) (by simp) ?_; (case hd => rfl); (case hg => rfl); (case hr => exact zq8); (case hp => exact zq9); intro v3 w6 ho hb hg_ hnew_; have O3 := aM ho; have D3 := aM hb; clear ho hb hg_ hnew_))
   have HT := aM (impl_Steps.T3_made HB.out O1.out D1.out O2.out D2.out O3.out D3.out); clear O1 D1 O2 D2 O3 D3
   go_loopg [8, 9, 10, 11] k (fun kq v8 v9 v10 v11 w' => ∃ (x8 : List ByteArray) (x9 : List ByteArray) (x10 : List ByteArray) (x11 : Int), v11 = .int .i64 x11 ∧ Aside0 (impl_Steps.l0 kq l0 l1 x8 x9 x10 x11 = some (r1, r2, r3, r4)) ∧ Aside0 (impl_Steps.T3 w w' v8 v9 v10 x8 x9 x10))
   case atStart => exact ⟨_, _, _, 0, rfl, H0, HT⟩
   case round =>
    clear H0; obtain ⟨x8, x9, x10, x11, rfl, HA, HT⟩ := hrel
    cases gk with
    | zero => exact absurd HA.out (by simp [impl_Steps.l0])
    | succ k1 =>
     have H := HA.out; clear HA; rw [impl_Steps.l0.eq_2] at H; obtain ⟨Ao, co, rfl⟩ := Kd.R_slice HT.out.1; by_cases c1 : x11 < (x8.length : Int)
     ·
      rw [if_pos c1] at H; by_cases c2 : 0 ≤ x11
      ·
       rw [if_pos c2] at H; obtain ⟨p, hp⟩ : ∃ p, p = rdOf ByteArray.empty x8 x11 := ⟨_, rfl⟩; rw [← hp] at H; obtain ⟨n0, hn0, H⟩ := Option.bind_eq_some_iff.mp H; obtain ⟨n1, hn1, H⟩ := Option.bind_eq_some_iff.mp H; have N0 := aM hn0; have N1 := aM hn1; have b1 := decide_eq_true c1; obtain ⟨ad, e1, hx⟩ := Kd.at_string (Kd.R_reads' HT.out.1).2.2 x11 c2 c1; cases e1; rw [← hp] at hx; have p1 := eq_true c1; have p2 := eq_true c2; have HH := aM H; clear c1 c2 hn0 hn1 hp H
       go_wp2_with (fail)
       refine (impl_nodeOf.calls k1 A0 c0 l0 p n0 _ (Kd.C_below HR0.out HT.out.2.2.2) HC0.out N0.out).mono ?_; rintro e w4 ⟨rfl, hb⟩; replace HT := aM (impl_Steps.T3_below HT.out hb); clear hb hx
       try dsimp only
       go_wp2_with (fail)
       refine (impl_nodeOf.calls k1 A1 c1 l1 p n1 _ (Kd.C_below HR1.out HT.out.2.2.2) HC1.out N1.out).mono ?_; rintro e w5 ⟨rfl, hb⟩; replace HT := aM (impl_Steps.T3_below HT.out hb); clear hb
       try dsimp only
       have H := HH.out; clear HH; by_cases c3 : n0.toList = n1.toList
       ·
        rw [if_pos c3] at H; have d1 : (n0.toList == n1.toList) = true := beq_iff_eq.2 c3; have H' := aM H; clear H c3; go_wp2
        go_roundg k1
        case measure => omega
        case rel => exact ⟨x8, x9, x10, wrap64 (x11 + 1), rfl, H', HT⟩
       rw [if_neg c3] at H; have d1 : (n0.toList == n1.toList) = false := beq_eq_false_iff_ne.2 c3; clear c3; by_cases c4 : (p.size : Int) < 2
       ·
        rw [if_pos c4] at H; obtain ⟨y, hy, H⟩ := Option.bind_eq_some_iff.mp H; have HY := aM hy; have H' := aM H; have d2 := decide_eq_true c4; have d3 : decide (p.size < 2) = true := decide_eq_true (by omega); have HG := aM HT.out.2.2.2.size; clear H hy c4; go_wp2
        go_loopg [8] 16 (fun kq v8 w' => ∃ (i : Nat) (acc : List ByteArray), Aside0 (i + kq = 16) ∧ Aside0 (impl_Steps.lp p kq i acc = some y) ∧ Aside0 (impl_Steps.T3 w w' v8 u9 u10 acc x9 x10) ∧ Aside0 (w'.heap[w5.heap.size]? = some (.stringIter impl_nodeOf.hexs i)))
        case atStart => exact ⟨0, x8, ⟨rfl⟩, HY, ⟨impl_Steps.T3_below HT.out (below_alloc (Below.refl _ _) _)⟩, ⟨World.iter_heap _ _ _⟩⟩
        case round =>
         obtain ⟨i, acc, hi, HL, HT2, HI⟩ := hrel
         cases gk with
         | zero =>
          have e16 : i = 16 := by have := hi.out; omega
          subst e16; have hnx := impl_nodeOf.nextEnd _ _ HI.out; have e1 := HL.out; unfold impl_Steps.lp at e1
          injection e1 with e1
          subst e1; go_wp2
          go_roundg k1
          case measure => omega
          case rel => exact ⟨acc, x9, x10, wrap64 (x11 + 1), rfl, H', HT2⟩
         | succ j1 =>
          have hnx := impl_nodeOf.next _ _ i zq80 HI.out; have E := HL.out; unfold impl_Steps.lp at E; clear HL; generalize impl_nodeOf.hexC i = ch at hnx E
          split at E
          case isFalse => cases E
          rename_i g1
          split at E
          case isFalse => cases E
          rename_i g2
          have HE := aM E; have LM := aM g2; have HT3 := aM (impl_Steps.T3_adv (j := i + 1) HT2.out HI.out HG.out); have HI2 := aM (impl_nodeOf.at_ (i + 1) HI.out); clear E g2
          go_wp2_with (first | ((with_reducible refine gate_builtin (b := .append) (xs := #[.tmp 52, .tmp 57]) rfl ?_); at_builtin; refine Kd.R_append Kd.string (w0 := w) w.heap.size rfl (.tmp 52) (.tmp 57) 22 9 (.string ⟨#[]⟩) 16 rfl Tryd.underlying22 info9 rfl (by decide) (by omega) u8 acc (p ++ Utf8.encode ch) [.string (p ++ Utf8.encode ch)] (fun k_ => some k_ ≠ (u9 : Value).ownBlock ∧ some k_ ≠ (u10 : Value).ownBlock) (fun _ => False) rfl rfl ?aP (fun _ hk => hk.elim) ?aF ?aO ?aB ?aS ?aL ?_; (case aP => exact rfl); (case aB => exact HT3.out.2.2.2); (case aF => exact impl_Steps.T3_fresh HT3.out); (case aO => exact HT3.out.1); (case aS => exact HT3.out.2.2.2.size); (case aL => have := LM.out; omega); intro v259 w12 ho hb hg hat; have HT4 := aM (impl_Steps.T3_wrote HT3.out ho hb hg hat); have HI3 := aM (impl_Steps.iter_far HI2.out HT3.out hg); clear ho hb hg hat))
          go_roundg j1
          case measure => omega
          case rel => exact ⟨i + 1, _, ⟨zq80⟩, HE, HT4, HI3⟩
       rw [if_neg c4] at H; obtain ⟨one, h1, H⟩ := Option.bind_eq_some_iff.mp H; obtain ⟨two, h2, H⟩ := Option.bind_eq_some_iff.mp H; obtain ⟨m1, h3, H⟩ := Option.bind_eq_some_iff.mp H
       have g1 : x9.length + m1.length < 8796093022208 := by
        rcases Nat.lt_or_ge (x9.length + m1.length) 8796093022208 with h | h
        ·
         exact h
        rw [if_neg (by omega)] at H; cases H
       rw [if_pos g1] at H; obtain ⟨m2, h4, H⟩ := Option.bind_eq_some_iff.mp H
       have g2 : x10.length + m2.length < 8796093022208 := by
        rcases Nat.lt_or_ge (x10.length + m2.length) 8796093022208 with h | h
        ·
         exact h
        rw [if_neg (by omega)] at H; cases H
       rw [if_pos g2] at H; have E1 := aM h1; have E2 := aM h2; have E3 := aM h3; have E4 := aM h4; have LM1 := aM g1; have LM2 := aM g2; have H' := aM H; have d2 := decide_eq_false c4; have d3 : decide (p.size < 2) = false := decide_eq_false (by omega); have HT0 := HT; clear H h1 h2 h3 h4 g1 g2 c4
       go_wp2_with (fail)
       refine (impl_under.calls k1 A0 c0 l0 p one _ (Kd.C_below HR0.out HT.out.2.2.2) HC0.out E1.out).mono ?_; rintro e w6 ⟨v6, rfl, ho, hb⟩; obtain ⟨A6, c6, rfl⟩ := Kd.R_slice ho; have O6 := aM (impl_Steps.R_new3 (W0 := w5) ho (Nat.le_refl _)); have S6 := aM hb.size; replace HT := aM (impl_Steps.T3_below HT.out hb); clear ho hb
       try dsimp only
       go_wp2_with (fail)
       refine (impl_under.calls k1 A1 c1 l1 p two _ (Kd.C_below HR1.out HT.out.2.2.2) HC1.out E2.out).mono ?_; rintro e w7 ⟨v7, rfl, ho, hb⟩; obtain ⟨A7, c7, rfl⟩ := Kd.R_slice ho; have O7 := aM (impl_Steps.R_new3 (W0 := w5) ho S6.out); replace O6 := aM (Kd.R_below O6.out hb); replace HT := aM (impl_Steps.T3_below HT.out hb); clear ho hb
       try dsimp only
       go_wp2_with (fail)
       refine (impl_missing.calls A6 c6 one A7 c7 two m1 _ (Kd.R_reads' O6.out).2.2 (Kd.R_reads' O6.out).2.1 (Kd.R_reads' O7.out).2.2 (Kd.R_reads' O7.out).2.1 E3.out).mono ?_; rintro e w8 ⟨v8, rfl, ho, hb⟩; obtain ⟨A8, c8, rfl⟩ := Kd.R_slice ho; have O8 := aM ho; replace O6 := aM (Kd.R_below O6.out hb); replace O7 := aM (Kd.R_below O7.out hb); replace HT := aM (impl_Steps.T3_below HT.out hb); clear ho hb
       try dsimp only
       go_wp2_with (first | ((with_reducible refine gate_builtin (b := .append) (xs := #[.tmp 65, .tmp 68]) rfl ?_); at_builtin; refine Kd.R_append_rows Kd.string (w0 := w) w.heap.size rfl (.tmp 65) (.tmp 68) 22 9 (.string ⟨#[]⟩) 16 rfl Tryd.underlying22 info9 rfl (by decide) (by omega) u9 x9 m1 _ _ _ (fun k_ => some k_ ≠ (u10 : Value).ownBlock ∧ some k_ ≠ (.slice (some ad) x8.length co : Value).ownBlock) (fun _ => False) rfl rfl ?aO ?aR (fun _ _ h => h) (fun _ h => h.elim) ?aF ?aB ?aS ?aL ?_; (case aR => exact (Kd.R_reads' O8.out).2.2); (case aB => exact HT.out.2.2.2); (case aF => exact impl_Steps.T3_fresh (impl_Steps.T3_rot HT.out)); (case aO => exact (impl_Steps.T3_rot HT.out).1); (case aS => exact HT.out.2.2.2.size); (case aL => have := LM1.out; omega); intro v283 w9 ho hb hg hat; have HT1 := aM (impl_Steps.T3_rot (impl_Steps.T3_rot (impl_Steps.T3_wrote (impl_Steps.T3_rot HT.out) ho hb hg hat))); have Q6 := aM (Kd.R_step O6.out (fun k hk hl => hg.block k hl (impl_Steps.T3_fresh HT0.out k hk).1)); have Q7 := aM (Kd.R_step O7.out (fun k hk hl => hg.block k hl (impl_Steps.T3_fresh HT0.out k hk).1)); clear ho hb hg hat) | fail)
       refine (impl_missing.calls A7 c7 two A6 c6 one m2 _ (Kd.R_reads' Q7.out).2.2 (Kd.R_reads' Q7.out).2.1 (Kd.R_reads' Q6.out).2.2 (Kd.R_reads' Q6.out).2.1 E4.out).mono ?_; rintro e w10 ⟨v10, rfl, ho, hb⟩; obtain ⟨A10, c10, rfl⟩ := Kd.R_slice ho; have O10 := aM ho; have HT2 := aM (impl_Steps.T3_below HT1.out hb); clear ho hb
       try dsimp only
       go_wp2_with (first | ((with_reducible refine gate_builtin (b := .append) (xs := #[.tmp 70, .tmp 73]) rfl ?_); at_builtin; refine Kd.R_append_rows Kd.string (w0 := w) w.heap.size rfl (.tmp 70) (.tmp 73) 22 9 (.string ⟨#[]⟩) 16 rfl Tryd.underlying22 info9 rfl (by decide) (by omega) u10 x10 m2 _ _ _ (fun k_ => some k_ ≠ (.slice (some ad) x8.length co : Value).ownBlock ∧ some k_ ≠ (v283 : Value).ownBlock) (fun _ => False) rfl rfl ?aO ?aR (fun _ _ h => h) (fun _ h => h.elim) ?aF ?aB ?aS ?aL ?_; (case aR => exact (Kd.R_reads' O10.out).2.2); (case aB => exact HT2.out.2.2.2); (case aF => exact impl_Steps.T3_fresh (impl_Steps.T3_rot (impl_Steps.T3_rot HT2.out))); (case aO => exact (impl_Steps.T3_rot (impl_Steps.T3_rot HT2.out)).1); (case aS => exact HT2.out.2.2.2.size); (case aL => have := LM2.out; omega); intro v284 w11 ho hb hg hat; have HT3 := aM (impl_Steps.T3_rot (impl_Steps.T3_wrote (impl_Steps.T3_rot (impl_Steps.T3_rot HT2.out)) ho hb hg hat)); clear ho hb hg hat) | fail)
       go_roundg k1
       case measure => omega
       case rel => exact ⟨x8, _, _, wrap64 (x11 + 1), rfl, H', HT3⟩
      rw [if_neg c2] at H; exact absurd H (by simp)
     rw [if_neg c1] at H; have b1 := decide_eq_false c1; simp only [Option.some.injEq, Prod.mk.injEq] at H; obtain ⟨rfl, rfl, rfl, rfl⟩ := H; clear c1; go_wp2; refine bodyPost_ret (results_list (rs := [.tmp 4, .tmp 5, .tmp 6, .tmp 7]) rfl (by simp) (.tmp (.tmp (.tmp (.tmp .nil))))) rfl ?_; exact ⟨_, _, _, rfl, HT.out.1, HT.out.2.1, HT.out.2.2.1, HT.out.2.2.2⟩

end Go.Proofs.YtoeomljkhabifaaDoor.QFnDiff
