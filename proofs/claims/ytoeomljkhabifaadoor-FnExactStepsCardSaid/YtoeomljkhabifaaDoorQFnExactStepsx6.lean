/- Written by wip/myprint.py of this repo (the kit's print, with additions of this session). -/
import Derived.Test.YtoeomljkhabifaaDoorQFnExactStepsx0
import Derived.Test.YtoeomljkhabifaaDoorQFnExactStepsx2
import Derived.Test.YtoeomljkhabifaaDoorQFnExactStepsx5
set_option maxRecDepth 100000
namespace Go.Proofs.YtoeomljkhabifaaDoor.QFnExactSteps
open Go.RowKit Go.Proofs.YtoeomljkhabifaaDoorW.PrintWords Go.Proofs.YtoeomljkhabifaaDoorW.PrintLast Go.Proofs.YtoeomljkhabifaaDoorW.PrintMore
attribute [local go_sem] max2_int min2_int max_two min_two max_three min_three max_four min_four   -- for this text's walks alone
set_option linter.unusedVariables false
set_option linter.unusedSimpArgs false

attribute [local go_sem high] binOp_leqS binOp_gtrS
/-! ### spec_Steps: function 11 -/
mutual
def spec_Steps.j0 : Nat → List ByteArray → List ByteArray → List ByteArray → List ByteArray → List ByteArray → Bool → Option (List ByteArray × List ByteArray × List ByteArray × Bool)
 | 0, _, _, _, _, _, _ => none
 | k + 1, x0, x1, x8, x9, x10, x25 => if x25 = true then (some (x8, x9, x10, false)) else (if x8.length < 8796093022208 then (spec_Steps.l0 k x0 x1 (x8 ++ [(⟨#[]⟩ : ByteArray)]) x9 x10 0) else (none))
def spec_Steps.l0 : Nat → List ByteArray → List ByteArray → List ByteArray → List ByteArray → List ByteArray → Int → Option (List ByteArray × List ByteArray × List ByteArray × Bool)
 | 0, _, _, _, _, _, _ => none
 | k + 1, x0, x1, x8, x9, x10, x11 => if x11 < (x8.length : Int) then (if 0 ≤ x11 then ((spec_l7Under.f k x0 (rdOf ByteArray.empty x8 x11)).bind fun t265 => ((spec_l7Under.f k x1 (rdOf ByteArray.empty x8 x11)).bind fun t268 => ((spec_l7Node.f k t265 (rdOf ByteArray.empty x8 x11)).bind fun t271 => ((spec_l7Node.f k t268 (rdOf ByteArray.empty x8 x11)).bind fun t272 => (if t271.toList = t272.toList then (spec_Steps.l0 k x0 x1 x8 x9 x10 (wrap64 (x11 + 1))) else (if ((rdOf ByteArray.empty x8 x11).size : Int) < 2 then ((spec_l7Below.f k (rdOf ByteArray.empty x8 x11)).bind fun t273 => (if x8.length + t273.length < 8796093022208 then (spec_Steps.l0 k x0 x1 (x8 ++ t273) x9 x10 (wrap64 (x11 + 1))) else (none))) else ((spec_l7Less.f k t265 t268).bind fun t279 => (if x9.length + t279.length < 8796093022208 then ((spec_l7Less.f k t268 t265).bind fun t285 => (if x10.length + t285.length < 8796093022208 then (spec_Steps.l0 k x0 x1 x8 (x9 ++ t279) (x10 ++ t285) (wrap64 (x11 + 1))) else (none))) else (none))))))))) else (none)) else (some (x8, x9, x10, true))
end
def spec_Steps.f (k : Nat) (l0 : List ByteArray) (l1 : List ByteArray) : Option (List ByteArray × List ByteArray × List ByteArray × Bool) := (some (([] : List ByteArray) : List ByteArray)).bind fun y250 => ((some (([] : List ByteArray) : List ByteArray)).bind fun y253 => ((some (([] : List ByteArray) : List ByteArray)).bind fun y256 => ((spec_l7Set.f k l0).bind fun t259 => (if t259 = true then ((spec_l7Set.f k l1).bind fun t260 => (spec_Steps.j0 k l0 l1 y250 y253 y256 (!t260))) else (spec_Steps.j0 k l0 l1 y250 y253 y256 true)))))
theorem spec_Steps.mono_l : ∀ k, (∀ y0 y1 y2 y3 y4 y5, LeO (spec_Steps.j0 k y0 y1 y2 y3 y4 y5) (spec_Steps.j0 (k + 1) y0 y1 y2 y3 y4 y5)) ∧ (∀ y0 y1 y2 y3 y4 y5, LeO (spec_Steps.l0 k y0 y1 y2 y3 y4 y5) (spec_Steps.l0 (k + 1) y0 y1 y2 y3 y4 y5))
 | 0 => ⟨fun _ _ _ _ _ _ r h => by simp [spec_Steps.j0] at h, fun _ _ _ _ _ _ r h => by simp [spec_Steps.l0] at h⟩
 | k + 1 => by
  obtain ⟨ih0, ih1⟩ := spec_Steps.mono_l k; refine ⟨?_, ?_⟩
  ·
   intro y0 y1 y2 y3 y4 y5; unfold spec_Steps.j0
   repeat' first
   | (with_reducible apply ih0)
   | (with_reducible apply ih1)
   | (with_reducible apply spec_l7Below.mono)
   | (with_reducible apply spec_l7Less.mono)
   | (with_reducible apply spec_l7Node.mono)
   | (with_reducible apply spec_l7Set.mono)
   | (with_reducible apply spec_l7Under.mono)
   | (with_reducible exact LeO.refl _)
   | (with_reducible exact LeO.none _)
   | (with_reducible refine LeO.ite ?_ ?_)
   | (with_reducible refine LeO.bind ?_ (fun _ => ?_))
   | exact LeO.none _
   | refine LeO.ite ?_ ?_
   | refine LeO.bind ?_ (fun _ => ?_)
  intro y0 y1 y2 y3 y4 y5; unfold spec_Steps.l0
  repeat' first
  | (with_reducible apply ih0)
  | (with_reducible apply ih1)
  | (with_reducible apply spec_l7Below.mono)
  | (with_reducible apply spec_l7Less.mono)
  | (with_reducible apply spec_l7Node.mono)
  | (with_reducible apply spec_l7Set.mono)
  | (with_reducible apply spec_l7Under.mono)
  | (with_reducible exact LeO.refl _)
  | (with_reducible exact LeO.none _)
  | (with_reducible refine LeO.ite ?_ ?_)
  | (with_reducible refine LeO.bind ?_ (fun _ => ?_))
  | exact LeO.none _
  | refine LeO.ite ?_ ?_
  | refine LeO.bind ?_ (fun _ => ?_)
theorem spec_Steps.mono : ∀ a0 a1 k, LeO (spec_Steps.f k a0 a1) (spec_Steps.f (k + 1) a0 a1) := by
 intro a0 a1 k; obtain ⟨ih0, ih1⟩ := spec_Steps.mono_l k; unfold spec_Steps.f
 repeat' first
   | (with_reducible apply ih0)
   | (with_reducible apply ih1)
   | (with_reducible apply spec_l7Below.mono)
   | (with_reducible apply spec_l7Less.mono)
   | (with_reducible apply spec_l7Node.mono)
   | (with_reducible apply spec_l7Set.mono)
   | (with_reducible apply spec_l7Under.mono)
   | (with_reducible exact LeO.refl _)
   | (with_reducible exact LeO.none _)
   | (with_reducible refine LeO.ite ?_ ?_)
   | (with_reducible refine LeO.bind ?_ (fun _ => ?_))
   | exact LeO.none _
   | refine LeO.ite ?_ ?_
   | refine LeO.bind ?_ (fun _ => ?_)
set_option maxHeartbeats 8000000 in
set_option maxRecDepth 100000 in
theorem spec_Steps.calls (k : Nat) (A0 : Option Addr) (c0 : Nat) (l0 : List ByteArray) (A1 : Option Addr) (c1 : Nat) (l1 : List ByteArray) (r1 : List ByteArray) (r2 : List ByteArray) (r3 : List ByteArray) (r4 : Bool) (w : World) (hr0 : Kd.C Kd.string w A0 l0.length l0) (hc0 : l0.length ≤ c0) (hr1 : Kd.C Kd.string w A1 l1.length l1) (hc1 : l1.length ≤ c1) (h : spec_Steps.f k l0 l1 = some (r1, r2, r3, r4)) :
  Calls Tryd.prog 11 #[.slice A0 l0.length c0, .slice A1 l1.length c1] w fun e w' => ∃ v0_ v1_ v2_ : Value, e = .returned (.tuple #[v0_, v1_, v2_, .bool r4]) ∧ Kd.R Kd.string 9 w' w.heap.size (fun k_ => some k_ ≠ (v1_ : Value).ownBlock ∧ some k_ ≠ (v2_ : Value).ownBlock) v0_ r1 ∧ Kd.R Kd.string 9 w' w.heap.size (fun k_ => some k_ ≠ (v0_ : Value).ownBlock ∧ some k_ ≠ (v2_ : Value).ownBlock) v1_ r2 ∧ Kd.R Kd.string 9 w' w.heap.size (fun k_ => some k_ ≠ (v0_ : Value).ownBlock ∧ some k_ ≠ (v1_ : Value).ownBlock) v2_ r3 ∧ Below w.heap.size w w' := by
 have HR0 := aM hr0; have HC0 := aM hc0; clear hr0 hc0; have HR1 := aM hr1; have HC1 := aM hc1; clear hr1 hc1; have HB := aM (Below.refl w.heap.size w); unfold spec_Steps.f at h; have H := h; clear h; obtain ⟨y250, hy250⟩ : ∃ y_ : List ByteArray, y_ = (([] : List ByteArray)) := ⟨_, rfl⟩; have hy_ := hy250; replace H : ((some (([] : List ByteArray) : List ByteArray)).bind fun y253 => ((some (([] : List ByteArray) : List ByteArray)).bind fun y256 => ((spec_l7Set.f k l0).bind fun t259 => (if t259 = true then ((spec_l7Set.f k l1).bind fun t260 => (spec_Steps.j0 k l0 l1 y250 y253 y256 (!t260))) else (spec_Steps.j0 k l0 l1 y250 y253 y256 true))))) = some (r1, r2, r3, r4) := hyE; clear hy_; have Ny250 := aM hy250; clear hy250; obtain ⟨y253, hy253⟩ : ∃ y_ : List ByteArray, y_ = (([] : List ByteArray)) := ⟨_, rfl⟩; have hy_ := hy253; replace H : ((some (([] : List ByteArray) : List ByteArray)).bind fun y256 => ((spec_l7Set.f k l0).bind fun t259 => (if t259 = true then ((spec_l7Set.f k l1).bind fun t260 => (spec_Steps.j0 k l0 l1 y250 y253 y256 (!t260))) else (spec_Steps.j0 k l0 l1 y250 y253 y256 true)))) = some (r1, r2, r3, r4) := hyE; clear hy_; have Ny253 := aM hy253; clear hy253; obtain ⟨y256, hy256⟩ : ∃ y_ : List ByteArray, y_ = (([] : List ByteArray)) := ⟨_, rfl⟩; have hy_ := hy256
 replace H : ((spec_l7Set.f k l0).bind fun t259 => (if t259 = true then ((spec_l7Set.f k l1).bind fun t260 => (spec_Steps.j0 k l0 l1 y250 y253 y256 (!t260))) else (spec_Steps.j0 k l0 l1 y250 y253 y256 true))) = some (r1, r2, r3, r4) := hyE; clear hy_; have Ny256 := aM hy256; clear hy256; have HC3 := aM H; clear H; go_enter Tryd.func11, Tryd.ntmps11
 go_upto_region 4 with (first | ((with_reducible refine gD 15 rfl ?_); refine Kd.R_lit Kd.string _ 9 ?hg (N := 15) ?hd (xs := ([] : List ByteArray)) (inner := []) (ok := fun _ => True) (okp := fun _ => True) ?hr ?hp (fun _ hk => hk) trivial (Below.refl _ _) (Nat.le_refl _) (by simp) ?_; (case hd => rfl); (case hg => rfl); (case hr => exact zq6); (case hp => exact zq10); intro v251 w4 ho5 hb hg_ hnew_; clear hg_ hnew_; (first | rw [← Ny250.out] at ho5 | (simp only [Int.reduceToNat] at ho5; rw [← Ny250.out] at ho5)); have HO252 := aM (Kd.R_lower ho5 (below_size zq5)); replace HB := sB zq5 hb; clear hb ho5) | ((with_reducible refine gD 16 rfl ?_); refine Kd.R_lit Kd.string _ 9 ?hg (N := 16) ?hd (xs := ([] : List ByteArray)) (inner := []) (ok := fun _ => True) (okp := fun _ => True) ?hr ?hp (fun _ hk => hk) trivial (Below.refl _ _) (Nat.le_refl _) (by simp) ?_; (case hd => rfl); (case hg => rfl); (case hr => exact zq6); (case hp => exact zq10); intro v254 w6 ho7 hb hg_ hnew_; clear hg_ hnew_; (first | rw [← Ny253.out] at ho7 | (simp only [Int.reduceToNat] at ho7; rw [← Ny253.out] at ho7)); have HO255 := aM (Kd.R_lower (Kd.R_new' ho7 (Kd.R_lt zq125)) (below_size zq5)); replace HO252 := aM (Kd.R_elder' zq125 (Kd.R_base ho7) hb); replace HB := sB zq5 hb; clear hb ho7) | ((with_reducible refine gD 17 rfl ?_); refine Kd.R_lit Kd.string _ 9 ?hg (N := 17) ?hd (xs := ([] : List ByteArray)) (inner := []) (ok := fun _ => True) (okp := fun _ => True) ?hr ?hp (fun _ hk => hk) trivial (Below.refl _ _) (Nat.le_refl _) (by simp) ?_; (case hd => rfl); (case hg => rfl); (case hr => exact zq6); (case hp => exact zq10); intro v257 w8 ho9 hb hg_ hnew_; clear hg_ hnew_; (first | rw [← Ny256.out] at ho9 | (simp only [Int.reduceToNat] at ho9; rw [← Ny256.out] at ho9)); have HO258 := aM (Kd.R_lower (Kd.R_new' (Kd.R_new' ho9 (Kd.R_lt zq125)) (Kd.R_lt zq126)) (below_size zq5)); replace HO252 := aM (Kd.R_elder' zq125 (Kd.R_base ho9) hb); replace HO255 := aM (Kd.R_elder' zq126 (Kd.R_base ho9) hb); replace HB := sB zq5 hb; clear hb ho9))
 (try simp only [Act.put, List.setIfInBounds_toArray, List.set_cons_zero, List.set_cons_succ])
 go_cut [25] (fun v25 wc => ∃ (kq : Nat) (x25_2 : Bool), v25 = .bool x25_2 ∧ Aside0 (spec_Steps.j0 kq l0 l1 y250 y253 y256 x25_2 = some (r1, r2, r3, r4)) ∧ Aside0 (kq ≤ k) ∧ Aside0 (Kd.R Kd.string 9 wc w.heap.size (fun k_ => some k_ ≠ (v254 : Value).ownBlock ∧ some k_ ≠ (v257 : Value).ownBlock) v251 y250) ∧ Aside0 (Kd.R Kd.string 9 wc w.heap.size (fun k_ => some k_ ≠ (v251 : Value).ownBlock ∧ some k_ ≠ (v257 : Value).ownBlock) v254 y253) ∧ Aside0 (Kd.R Kd.string 9 wc w.heap.size (fun k_ => some k_ ≠ (v251 : Value).ownBlock ∧ some k_ ≠ (v254 : Value).ownBlock) v257 y256) ∧ Aside0 (Below w.heap.size w wc))
 case first =>
  have H := HC3.out; clear HC3; replace H := Option.bind_eq_some_iff.mp H; obtain ⟨t259, A100, H⟩ := H; (try dsimp only at H); have A10 := aM A100; clear A100; by_cases c11 : t259 = true
  ·
   subst c11; rw [if_pos rfl] at H; replace H := Option.bind_eq_some_iff.mp H; obtain ⟨t260, A120, H⟩ := H; (try dsimp only at H); have A12 := aM A120; clear A120; have H' := aM H; clear H
   go_wp2_with (first | ((with_reducible refine gC 20 rfl ?_); refine gL 19 Tryd.func20 #[.slice A0 l0.length c0] ?_; (with_reducible refine (spec_l7Set.calls k _ _ l0 true _ ?_ ?_ A10.out).mono ?_); exact zq21; exact zq15; rintro e w' ⟨rfl, ⟨nd, rfl⟩⟩; refine ⟨_, rfl, ?_⟩) | (go_at_call 20; (with_reducible refine (spec_l7Set.calls k _ _ l1 t260 _ ?_ ?_ A12.out).mono ?_); exact zq156; exact zq17; rintro e w' ⟨rfl, ⟨nd, rfl⟩⟩))
   go_meet
   case rel => exact ⟨_, (!t260), zq1, H', ⟨zq37⟩, ⟨zq127⟩, ⟨zq128⟩, ⟨zq129⟩, ⟨zq5⟩⟩
  replace c11 := Bool.eq_false_iff.mpr c11; subst c11; rw [if_neg (show ¬ (false = true) by decide)] at H; have H' := aM H; clear H
  go_wp2_with (first | ((with_reducible refine gC 20 rfl ?_); refine gL 19 Tryd.func20 #[.slice A0 l0.length c0] ?_; (with_reducible refine (spec_l7Set.calls k _ _ l0 false _ ?_ ?_ A10.out).mono ?_); exact zq21; exact zq15; rintro e w' ⟨rfl, ⟨nd, rfl⟩⟩; refine ⟨_, rfl, ?_⟩))
  go_meet
  case rel => exact ⟨_, (true), zq1, H', ⟨zq37⟩, ⟨zq127⟩, ⟨zq128⟩, ⟨zq129⟩, ⟨zq5⟩⟩
 case rest =>
  clear HC3; (try clear c1); (try clear c2); (try clear p2); (try clear c11); obtain ⟨kq, x25_2, rfl, HA, HJ2, HO_8, HO_9, HO_10, HB⟩ := hcut
  cases kq with
  | zero => exact absurd HA.out (by simp [spec_Steps.j0])
  | succ kj2 =>
   have H := HA.out; clear HA; simp only [spec_Steps.j0] at H; by_cases c13 : x25_2 = true
   ·
    subst c13; rw [if_pos rfl] at H; simp only [Option.some.injEq, Prod.mk.injEq] at H; obtain ⟨rfl, rfl, rfl, rfl⟩ := H; go_wp2; refine bodyPost_ret (results_list (rs := [.tmp 4, .tmp 5, .tmp 6, .tmp 7]) rfl (by simp) (.tmp (.tmp (.tmp (.tmp .nil))))) rfl ?_; exact ⟨_, _, _, zq8, zq48, zq130, zq49, zq5⟩
   replace c13 := Bool.eq_false_iff.mpr c13; subst c13; rw [if_neg (show ¬ (false = true) by decide)] at H; by_cases c14 : y250.length < 8796093022208
   ·
    rw [if_pos c14] at H; have LMc14 := aM c14; clear c14; obtain ⟨y261, hy261⟩ : ∃ y_ : List ByteArray, y_ = (y250 ++ [(⟨#[]⟩ : ByteArray)]) := ⟨_, rfl⟩; have hy_ := hy261; replace H : (spec_Steps.l0 kj2 l0 l1 y261 y253 y256 0) = some (r1, r2, r3, r4) := hyE; clear hy_; have Ny261 := aM hy261; clear hy261; have H' := aM H; clear H
    go_wp2_with (first | ((with_reducible refine gate_builtin (b := .append) (xs := #[.tmp 29, .tmp 30]) rfl ?_); at_builtin; refine Kd.R_append Kd.string (w0 := w) w.heap.size rfl (.tmp 29) (.tmp 30) 22 9 (.string ⟨#[]⟩) 16 rfl Tryd.underlying22 info9 rfl (by decide) (by omega) v251 y250 (⟨#[]⟩ : ByteArray) [.string (⟨#[]⟩ : ByteArray)] (fun k_ => some k_ ≠ (v254 : Value).ownBlock ∧ some k_ ≠ (v257 : Value).ownBlock) (fun _ => False) rfl rfl ?aP (fun _ hk => hk.elim) ?aF ?aO ?aB ?aS ?aL ?_; (case aP => exact rfl); (case aB => exact zq5); (case aF => exact (fun k_ hk => ⟨Kd.fresh' (Kd.R_lt zq130) k_ hk, Kd.fresh' (Kd.R_lt zq49) k_ hk⟩)); (case aO => exact zq48); (case aS => exact zq157); (case aL => have := LMc14.out; omega); intro v262 w15 ho hb hg hat; rw [← Ny261.out] at ho; have n0_ := aM (Kd.R_after (ok := (fun k_ => some k_ ≠ (v257 : Value).ownBlock)) zq131 hg hat); have n1_ := aM (Kd.R_after (ok := (fun k_ => some k_ ≠ (v254 : Value).ownBlock)) zq132 hg hat); have n2_ := aM (hb); have n3_ := aM (ho); clear HO_9; clear HO_10; clear HB; clear HO_8; have HO_9 := n0_; have HO_10 := n1_; have HB := n2_; have HO263 := n3_; clear n0_ n1_ n2_ n3_; clear ho hb hg hat))
    go_loopg [8, 9, 10, 11] kj2 (fun kq v8 v9 v10 v11 w' => ∃ (x8_2 : List ByteArray) (x9_2 : List ByteArray) (x10_2 : List ByteArray) (x11_2 : Int), v11 = .int .i64 x11_2 ∧ Aside0 (spec_Steps.l0 kq l0 l1 x8_2 x9_2 x10_2 x11_2 = some (r1, r2, r3, r4)) ∧ Aside0 (kq ≤ kj2) ∧ Aside0 (Kd.R Kd.string 9 w' w.heap.size (fun k_ => some k_ ≠ (v9 : Value).ownBlock ∧ some k_ ≠ (v10 : Value).ownBlock) v8 x8_2) ∧ Aside0 (Kd.R Kd.string 9 w' w.heap.size (fun k_ => some k_ ≠ (v8 : Value).ownBlock ∧ some k_ ≠ (v10 : Value).ownBlock) v9 x9_2) ∧ Aside0 (Kd.R Kd.string 9 w' w.heap.size (fun k_ => some k_ ≠ (v8 : Value).ownBlock ∧ some k_ ≠ (v9 : Value).ownBlock) v10 x10_2) ∧ Aside0 (Below w.heap.size w w'))
    case atStart => exact ⟨(y261), (y253), (y256), (0), zq1, H', ⟨Nat.le_refl _⟩, ⟨by refine dR ?_; exact HO263.out⟩, ⟨zq131⟩, ⟨zq132⟩, ⟨zq5⟩⟩
    case round =>
     clear H'; (try clear c1); (try clear c2); (try clear p2); (try clear c11); (try clear c13); (try clear c14); (try clear p2); obtain ⟨x8_2, x9_2, x10_2, x11_2, rfl, HA, HK2, HO_8, HO_9, HO_10, HB⟩ := hrel
     cases gk with
     | zero => exact absurd HA.out (by simp [spec_Steps.l0])
     | succ k2 =>
      have H := HA.out; clear HA; simp only [spec_Steps.l0] at H; by_cases c16 : x11_2 < (x8_2.length : Int)
      ·
       rw [if_pos c16] at H; have c16b0 := decide_eq_true c16; clear c16; by_cases c17 : 0 ≤ x11_2
       ·
        rw [if_pos c17] at H; have c17b0 := decide_eq_true c17; clear c17; replace H := Option.bind_eq_some_iff.mp H; obtain ⟨t265, A180, H⟩ := H; (try dsimp only at H); have A18 := aM A180; clear A180; replace H := Option.bind_eq_some_iff.mp H; obtain ⟨t268, A190, H⟩ := H; (try dsimp only at H); have A19 := aM A190; clear A190; replace H := Option.bind_eq_some_iff.mp H; obtain ⟨t271, A200, H⟩ := H; (try dsimp only at H); have A20 := aM A200; clear A200; replace H := Option.bind_eq_some_iff.mp H; obtain ⟨t272, A210, H⟩ := H; (try dsimp only at H); have A21 := aM A210; clear A210; by_cases c22 : t271.toList = t272.toList
        ·
         rw [if_pos c22] at H; have c22b0 : (t271.toList == t272.toList) = true := beq_iff_eq.mpr c22; have c22b1 : (t271.toList != t272.toList) = false := bne_eq_false_iff_eq.mpr c22; clear c22; have H' := aM H; clear H; obtain ⟨Ao23, co23, eo23⟩ := Kd.R_slice HO_8.out; subst eo23; have p264 : 0 ≤ (x11_2 : Int) := of_decide_eq_true zq3; have q264 : x11_2 < (x8_2.length : Int) := of_decide_eq_true zq3; obtain ⟨ad264, e264, hx264_0⟩ := Kd.at_string (Kd.R_reads' HO_8.out).2.2 x11_2 p264 q264; cases e264; replace p264 := eq_true p264; replace q264 := eq_true q264
         go_wp2_with (first | ((with_reducible refine gC 26 rfl ?_); refine gL 44 Tryd.func26 #[.slice A0 l0.length c0, .string (rdOf ByteArray.empty x8_2 x11_2)] ?_; (with_reducible refine (spec_l7Under.calls k2 _ _ l0 (rdOf ByteArray.empty x8_2 x11_2) t265 _ ?_ ?_ A18.out).mono ?_); exact zq21; exact zq15; rintro e w24 ⟨v266, rfl, ho0, hb⟩; refine ⟨_, rfl, ?_⟩; have HO267 := aM (Kd.R_lower (Kd.R_new' (Kd.R_new' (Kd.R_new' ho0 (Kd.R_lt zq48)) (Kd.R_lt zq130)) (Kd.R_lt zq49)) (below_size zq5)); replace HO_8 := aM (Kd.R_elder' zq48 (Kd.R_base ho0) hb); replace HO_9 := aM (Kd.R_elder' zq130 (Kd.R_base ho0) hb); replace HO_10 := aM (Kd.R_elder' zq49 (Kd.R_base ho0) hb); replace HB := sB zq5 hb; clear hb; (try clear ho0)) | ((with_reducible refine gC 26 rfl ?_); refine gL 47 Tryd.func26 #[.slice A1 l1.length c1, .string (rdOf ByteArray.empty x8_2 x11_2)] ?_; (with_reducible refine (spec_l7Under.calls k2 _ _ l1 (rdOf ByteArray.empty x8_2 x11_2) t268 _ ?_ ?_ A19.out).mono ?_); exact zq18; exact zq17; rintro e w25 ⟨v269, rfl, ho0, hb⟩; refine ⟨_, rfl, ?_⟩; have HO270 := aM (Kd.R_lower (Kd.R_new' (Kd.R_new' (Kd.R_new' (Kd.R_new' ho0 (Kd.R_lt zq48)) (Kd.R_lt zq130)) (Kd.R_lt zq49)) (Kd.R_lt zq133)) (below_size zq5)); replace HO_8 := aM (Kd.R_elder' zq48 (Kd.R_base ho0) hb); replace HO_9 := aM (Kd.R_elder' zq130 (Kd.R_base ho0) hb); replace HO_10 := aM (Kd.R_elder' zq49 (Kd.R_base ho0) hb); replace HO267 := aM (Kd.R_elder' zq133 (Kd.R_base ho0) hb); replace HB := sB zq5 hb; clear hb; (try clear ho0); obtain ⟨Ao26, co26, eo26⟩ := Kd.R_slice HO267.out; subst eo26) | ((with_reducible refine gC 22 rfl ?_); refine gL 50 Tryd.func22 #[.slice Ao26 t265.length co26, .string (rdOf ByteArray.empty x8_2 x11_2)] ?_; (with_reducible refine (spec_l7Node.calls k2 _ _ t265 (rdOf ByteArray.empty x8_2 x11_2) t271 _ ?_ ?_ A20.out).mono ?_); exact zq134; exact zq135; rintro e w27 ⟨rfl, hb⟩; refine ⟨_, rfl, ?_⟩; replace HO_8 := rG HO_8 hb; replace HO_9 := rG HO_9 hb; replace HO_10 := rG HO_10 hb; replace HO267 := rG HO267 hb; replace HO270 := rG HO270 hb; replace HB := sB zq5 hb; clear hb; obtain ⟨Ao28, co28, eo28⟩ := Kd.R_slice HO270.out; subst eo28) | ((with_reducible refine gC 22 rfl ?_); refine gL 53 Tryd.func22 #[.slice Ao28 t268.length co28, .string (rdOf ByteArray.empty x8_2 x11_2)] ?_; (with_reducible refine (spec_l7Node.calls k2 _ _ t268 (rdOf ByteArray.empty x8_2 x11_2) t272 _ ?_ ?_ A21.out).mono ?_); exact zq137; exact zq138; rintro e w29 ⟨rfl, hb⟩; refine ⟨_, rfl, ?_⟩; replace HO_8 := rG HO_8 hb; replace HO_9 := rG HO_9 hb; replace HO_10 := rG HO_10 hb; replace HO267 := rG HO267 hb; replace HO270 := rG HO270 hb; replace HB := sB zq5 hb; clear hb))
         go_roundg k2
         case measure => have := HJ2.out; have := HK2.out; omega
         case rel => exact ⟨(x8_2), (x9_2), (x10_2), (wrap64 (x11_2 + 1)), zq1, H', ⟨zq139⟩, ⟨by refine dR ?_; exact Kd.R_mono HO_8.out (fun _ hk => ⟨hk.1.1.1, hk.1.1.2⟩)⟩, ⟨by refine dR ?_; exact Kd.R_mono HO_9.out (fun _ hk => ⟨hk.1.1.1, hk.1.1.2⟩)⟩, ⟨by refine dR ?_; exact Kd.R_mono HO_10.out (fun _ hk => ⟨hk.1.1.1, hk.1.1.2⟩)⟩, ⟨zq5⟩⟩
        rw [if_neg c22] at H; have c22b0 : (t271.toList == t272.toList) = false := beq_eq_false_iff_ne.mpr c22; have c22b1 : (t271.toList != t272.toList) = true := bne_iff_ne.mpr c22; by_cases c30 : ((rdOf ByteArray.empty x8_2 x11_2).size : Int) < 2
        ·
         rw [if_pos c30] at H; have c30b0 := decide_eq_true c30; have c30b1 : decide ((rdOf ByteArray.empty x8_2 x11_2).size < 2) = true := decide_eq_true (by omega); clear c30; replace H := Option.bind_eq_some_iff.mp H; obtain ⟨t273, A310, H⟩ := H; (try dsimp only at H); have A31 := aM A310; clear A310; by_cases c32 : x8_2.length + t273.length < 8796093022208
         ·
          rw [if_pos c32] at H; have LMc32 := aM c32; clear c32; obtain ⟨y276, hy276⟩ : ∃ y_ : List ByteArray, y_ = (x8_2 ++ t273) := ⟨_, rfl⟩; have hy_ := hy276; replace H : (spec_Steps.l0 k2 l0 l1 y276 x9_2 x10_2 (wrap64 (x11_2 + 1))) = some (r1, r2, r3, r4) := hyE; clear hy_; have Ny276 := aM hy276; clear hy276; have H' := aM H; clear H; obtain ⟨Ao33, co33, eo33⟩ := Kd.R_slice HO_8.out; subst eo33; have p264 : 0 ≤ (x11_2 : Int) := of_decide_eq_true zq3; have q264 : x11_2 < (x8_2.length : Int) := of_decide_eq_true zq3; obtain ⟨ad264, e264, hx264_0⟩ := Kd.at_string (Kd.R_reads' HO_8.out).2.2 x11_2 p264 q264; cases e264; replace p264 := eq_true p264; replace q264 := eq_true q264
          go_wp2_with (first | ((with_reducible refine gC 26 rfl ?_); refine gL 44 Tryd.func26 #[.slice A0 l0.length c0, .string (rdOf ByteArray.empty x8_2 x11_2)] ?_; (with_reducible refine (spec_l7Under.calls k2 _ _ l0 (rdOf ByteArray.empty x8_2 x11_2) t265 _ ?_ ?_ A18.out).mono ?_); exact zq21; exact zq15; rintro e w34 ⟨v266, rfl, ho0, hb⟩; refine ⟨_, rfl, ?_⟩; have HO267 := aM (Kd.R_lower (Kd.R_new' (Kd.R_new' (Kd.R_new' ho0 (Kd.R_lt zq48)) (Kd.R_lt zq130)) (Kd.R_lt zq49)) (below_size zq5)); replace HO_8 := aM (Kd.R_elder' zq48 (Kd.R_base ho0) hb); replace HO_9 := aM (Kd.R_elder' zq130 (Kd.R_base ho0) hb); replace HO_10 := aM (Kd.R_elder' zq49 (Kd.R_base ho0) hb); replace HB := sB zq5 hb; clear hb; (try clear ho0)) | ((with_reducible refine gC 26 rfl ?_); refine gL 47 Tryd.func26 #[.slice A1 l1.length c1, .string (rdOf ByteArray.empty x8_2 x11_2)] ?_; (with_reducible refine (spec_l7Under.calls k2 _ _ l1 (rdOf ByteArray.empty x8_2 x11_2) t268 _ ?_ ?_ A19.out).mono ?_); exact zq18; exact zq17; rintro e w35 ⟨v269, rfl, ho0, hb⟩; refine ⟨_, rfl, ?_⟩; have HO270 := aM (Kd.R_lower (Kd.R_new' (Kd.R_new' (Kd.R_new' (Kd.R_new' ho0 (Kd.R_lt zq48)) (Kd.R_lt zq130)) (Kd.R_lt zq49)) (Kd.R_lt zq133)) (below_size zq5)); replace HO_8 := aM (Kd.R_elder' zq48 (Kd.R_base ho0) hb); replace HO_9 := aM (Kd.R_elder' zq130 (Kd.R_base ho0) hb); replace HO_10 := aM (Kd.R_elder' zq49 (Kd.R_base ho0) hb); replace HO267 := aM (Kd.R_elder' zq133 (Kd.R_base ho0) hb); replace HB := sB zq5 hb; clear hb; (try clear ho0); obtain ⟨Ao36, co36, eo36⟩ := Kd.R_slice HO267.out; subst eo36) | ((with_reducible refine gC 22 rfl ?_); refine gL 50 Tryd.func22 #[.slice Ao36 t265.length co36, .string (rdOf ByteArray.empty x8_2 x11_2)] ?_; (with_reducible refine (spec_l7Node.calls k2 _ _ t265 (rdOf ByteArray.empty x8_2 x11_2) t271 _ ?_ ?_ A20.out).mono ?_); exact zq134; exact zq135; rintro e w37 ⟨rfl, hb⟩; refine ⟨_, rfl, ?_⟩; replace HO_8 := rG HO_8 hb; replace HO_9 := rG HO_9 hb; replace HO_10 := rG HO_10 hb; replace HO267 := rG HO267 hb; replace HO270 := rG HO270 hb; replace HB := sB zq5 hb; clear hb; obtain ⟨Ao38, co38, eo38⟩ := Kd.R_slice HO270.out; subst eo38) | ((with_reducible refine gC 22 rfl ?_); refine gL 53 Tryd.func22 #[.slice Ao38 t268.length co38, .string (rdOf ByteArray.empty x8_2 x11_2)] ?_; (with_reducible refine (spec_l7Node.calls k2 _ _ t268 (rdOf ByteArray.empty x8_2 x11_2) t272 _ ?_ ?_ A21.out).mono ?_); exact zq137; exact zq138; rintro e w39 ⟨rfl, hb⟩; refine ⟨_, rfl, ?_⟩; replace HO_8 := rG HO_8 hb; replace HO_9 := rG HO_9 hb; replace HO_10 := rG HO_10 hb; replace HO267 := rG HO267 hb; replace HO270 := rG HO270 hb; replace HB := sB zq5 hb; clear hb) | ((with_reducible refine gC 27 rfl ?_); refine gL 60 Tryd.func27 #[.string (rdOf ByteArray.empty x8_2 x11_2)] ?_; (with_reducible refine (spec_l7Below.calls k2 (rdOf ByteArray.empty x8_2 x11_2) t273 _ A31.out).mono ?_); rintro e w40 ⟨v274, rfl, ho0, hb⟩; refine ⟨_, rfl, ?_⟩; have HO275 := aM (Kd.R_lower (Kd.R_new' (Kd.R_new' (Kd.R_new' (Kd.R_new' (Kd.R_new' ho0 (Kd.R_lt zq48)) (Kd.R_lt zq130)) (Kd.R_lt zq49)) (Kd.R_lt zq133)) (Kd.R_lt zq136)) (below_size zq5)); replace HO_8 := aM (Kd.R_elder' zq48 (Kd.R_base ho0) hb); replace HO_9 := aM (Kd.R_elder' zq130 (Kd.R_base ho0) hb); replace HO_10 := aM (Kd.R_elder' zq49 (Kd.R_base ho0) hb); replace HO267 := aM (Kd.R_elder' zq133 (Kd.R_base ho0) hb); replace HO270 := aM (Kd.R_elder' zq136 (Kd.R_base ho0) hb); replace HB := sB zq5 hb; clear hb; (try clear ho0); obtain ⟨Ao42, co42, eo42⟩ := Kd.R_slice HO275.out; subst eo42) | ((with_reducible refine gate_builtin (b := .append) (xs := #[.tmp 58, .tmp 60]) rfl ?_); at_builtin; refine Kd.R_append_rows Kd.string (w0 := w) w.heap.size rfl (.tmp 58) (.tmp 60) 22 9 (.string ⟨#[]⟩) 16 rfl Tryd.underlying22 info9 rfl (by decide) (by omega) (.slice (some ad264) x8_2.length co33) x8_2 t273 _ _ _ (fun k_ => some k_ ≠ (u9 : Value).ownBlock ∧ some k_ ≠ (u10 : Value).ownBlock ∧ some k_ ≠ (.slice Ao36 t265.length co36 : Value).ownBlock ∧ some k_ ≠ (.slice Ao38 t268.length co38 : Value).ownBlock ∧ some k_ ≠ (.slice Ao42 t273.length co42 : Value).ownBlock) (fun _ => False) rfl rfl ?aO ?aR (fun _ _ h => h) (fun _ h => h.elim) ?aF ?aB ?aS ?aL ?_; (case aR => repeat (first | exact (Kd.R_reads' HO275.out).2.2 | (with_reducible refine Kd.C_alloc ?_ _) | (with_reducible refine Kd.C_drewN ?_ _) | (with_reducible refine Kd.C_drew ?_))); (case aB => exact zq5); (case aF => exact (fun k_ hk => ⟨Kd.fresh' (Kd.R_lt zq130) k_ hk, Kd.fresh' (Kd.R_lt zq49) k_ hk, Kd.fresh' (Kd.R_lt zq133) k_ hk, Kd.fresh' (Kd.R_lt zq136) k_ hk, Kd.fresh' (Kd.R_lt (by refine dR ?_; exact HO275.out)) k_ hk⟩)); (case aO => exact (by refine dR ?_; exact Kd.R_mono HO_8.out (fun _ hk => ⟨hk.1.1.1.1, ⟨hk.1.1.1.2, ⟨hk.1.1.2, ⟨hk.1.2, hk.2⟩⟩⟩⟩))); (case aS => exact zq157); (case aL => have := LMc32.out; omega); intro v277 w41 ho hb hg hat; rw [← Ny276.out] at ho; have n0_ := aM (Kd.R_after (ok := (fun k_ => some k_ ≠ (u10 : Value).ownBlock ∧ some k_ ≠ (.slice Ao36 t265.length co36 : Value).ownBlock ∧ some k_ ≠ (.slice Ao38 t268.length co38 : Value).ownBlock ∧ some k_ ≠ (.slice Ao42 t273.length co42 : Value).ownBlock)) (by refine dR ?_; exact Kd.R_mono HO_9.out (fun _ hk => ⟨⟨hk.1.1.1.2, ⟨hk.1.1.2, ⟨hk.1.2, hk.2⟩⟩⟩, hk.1.1.1.1⟩)) hg hat); have n1_ := aM (Kd.R_after (ok := (fun k_ => some k_ ≠ (u9 : Value).ownBlock ∧ some k_ ≠ (.slice Ao36 t265.length co36 : Value).ownBlock ∧ some k_ ≠ (.slice Ao38 t268.length co38 : Value).ownBlock ∧ some k_ ≠ (.slice Ao42 t273.length co42 : Value).ownBlock)) (by refine dR ?_; exact Kd.R_mono HO_10.out (fun _ hk => ⟨⟨hk.1.1.1.2, ⟨hk.1.1.2, ⟨hk.1.2, hk.2⟩⟩⟩, hk.1.1.1.1⟩)) hg hat); have n2_ := aM (Kd.R_after (ok := (fun k_ => some k_ ≠ (u9 : Value).ownBlock ∧ some k_ ≠ (u10 : Value).ownBlock ∧ some k_ ≠ (.slice Ao38 t268.length co38 : Value).ownBlock ∧ some k_ ≠ (.slice Ao42 t273.length co42 : Value).ownBlock)) (by refine dR ?_; exact Kd.R_mono HO267.out (fun _ hk => ⟨⟨hk.1.1.1.2, ⟨hk.1.1.2, ⟨hk.1.2, hk.2⟩⟩⟩, hk.1.1.1.1.2⟩)) hg hat); have n3_ := aM (Kd.R_after (ok := (fun k_ => some k_ ≠ (u9 : Value).ownBlock ∧ some k_ ≠ (u10 : Value).ownBlock ∧ some k_ ≠ (.slice Ao36 t265.length co36 : Value).ownBlock ∧ some k_ ≠ (.slice Ao42 t273.length co42 : Value).ownBlock)) (by refine dR ?_; exact Kd.R_mono HO270.out (fun _ hk => ⟨⟨hk.1.1.1.2, ⟨hk.1.1.2, ⟨hk.1.2, hk.2⟩⟩⟩, hk.1.1.1.1.2⟩)) hg hat); have n4_ := aM (Kd.R_after (ok := (fun k_ => some k_ ≠ (u9 : Value).ownBlock ∧ some k_ ≠ (u10 : Value).ownBlock ∧ some k_ ≠ (.slice Ao36 t265.length co36 : Value).ownBlock ∧ some k_ ≠ (.slice Ao38 t268.length co38 : Value).ownBlock)) (by refine dR ?_; exact Kd.R_mono HO275.out (fun _ hk => ⟨⟨hk.1.1.1.2, ⟨hk.1.1.2, ⟨hk.1.2, hk.2⟩⟩⟩, hk.1.1.1.1.2⟩)) hg hat); have n5_ := aM (hb); have n6_ := aM (ho); clear HO_9; clear HO_10; clear HO267; clear HO270; clear HO275; clear HB; clear HO_8; have HO_9 := n0_; have HO_10 := n1_; have HO267 := n2_; have HO270 := n3_; have HO275 := n4_; have HB := n5_; have HO278 := n6_; clear n0_ n1_ n2_ n3_ n4_ n5_ n6_; clear ho hb hg hat))
          go_roundg k2
          case measure => have := HJ2.out; have := HK2.out; omega
          case rel => exact ⟨(y276), (x9_2), (x10_2), (wrap64 (x11_2 + 1)), zq1, H', ⟨zq139⟩, ⟨by refine dR ?_; exact Kd.R_mono HO278.out (fun _ hk => ⟨hk.1, hk.2.1⟩)⟩, ⟨by refine dR ?_; exact Kd.R_mono HO_9.out (fun _ hk => ⟨hk.2, hk.1.1⟩)⟩, ⟨by refine dR ?_; exact Kd.R_mono HO_10.out (fun _ hk => ⟨hk.2, hk.1.1⟩)⟩, ⟨zq5⟩⟩
         rw [if_neg c32] at H; exact absurd H (by simp)
        rw [if_neg c30] at H; have c30b0 := decide_eq_false c30; have c30b1 : decide ((rdOf ByteArray.empty x8_2 x11_2).size < 2) = false := decide_eq_false (by omega); clear c30; replace H := Option.bind_eq_some_iff.mp H; obtain ⟨t279, A430, H⟩ := H; (try dsimp only at H); have A43 := aM A430; clear A430; by_cases c44 : x9_2.length + t279.length < 8796093022208
        ·
         rw [if_pos c44] at H; have LMc44 := aM c44; clear c44; obtain ⟨y282, hy282⟩ : ∃ y_ : List ByteArray, y_ = (x9_2 ++ t279) := ⟨_, rfl⟩; have hy_ := hy282; replace H : ((spec_l7Less.f k2 t268 t265).bind fun t285 => (if x10_2.length + t285.length < 8796093022208 then (spec_Steps.l0 k2 l0 l1 x8_2 y282 (x10_2 ++ t285) (wrap64 (x11_2 + 1))) else (none))) = some (r1, r2, r3, r4) := hyE; clear hy_; have Ny282 := aM hy282; clear hy282; replace H := Option.bind_eq_some_iff.mp H; obtain ⟨t285, A450, H⟩ := H; (try dsimp only at H); have A45 := aM A450; clear A450; by_cases c46 : x10_2.length + t285.length < 8796093022208
         ·
          rw [if_pos c46] at H; have LMc46 := aM c46; clear c46; obtain ⟨y288, hy288⟩ : ∃ y_ : List ByteArray, y_ = (x10_2 ++ t285) := ⟨_, rfl⟩; have hy_ := hy288; replace H : (spec_Steps.l0 k2 l0 l1 x8_2 y282 y288 (wrap64 (x11_2 + 1))) = some (r1, r2, r3, r4) := hyE; clear hy_; have Ny288 := aM hy288; clear hy288; have H' := aM H; clear H; obtain ⟨Ao47, co47, eo47⟩ := Kd.R_slice HO_8.out; subst eo47; have p264 : 0 ≤ (x11_2 : Int) := of_decide_eq_true zq3; have q264 : x11_2 < (x8_2.length : Int) := of_decide_eq_true zq3; obtain ⟨ad264, e264, hx264_0⟩ := Kd.at_string (Kd.R_reads' HO_8.out).2.2 x11_2 p264 q264; cases e264; replace p264 := eq_true p264; replace q264 := eq_true q264
          go_wp2_with (first | ((with_reducible refine gC 26 rfl ?_); refine gL 44 Tryd.func26 #[.slice A0 l0.length c0, .string (rdOf ByteArray.empty x8_2 x11_2)] ?_; (with_reducible refine (spec_l7Under.calls k2 _ _ l0 (rdOf ByteArray.empty x8_2 x11_2) t265 _ ?_ ?_ A18.out).mono ?_); exact zq21; exact zq15; rintro e w48 ⟨v266, rfl, ho0, hb⟩; refine ⟨_, rfl, ?_⟩; have HO267 := aM (Kd.R_lower (Kd.R_new' (Kd.R_new' (Kd.R_new' ho0 (Kd.R_lt zq48)) (Kd.R_lt zq130)) (Kd.R_lt zq49)) (below_size zq5)); replace HO_8 := aM (Kd.R_elder' zq48 (Kd.R_base ho0) hb); replace HO_9 := aM (Kd.R_elder' zq130 (Kd.R_base ho0) hb); replace HO_10 := aM (Kd.R_elder' zq49 (Kd.R_base ho0) hb); replace HB := sB zq5 hb; clear hb; (try clear ho0)) | ((with_reducible refine gC 26 rfl ?_); refine gL 47 Tryd.func26 #[.slice A1 l1.length c1, .string (rdOf ByteArray.empty x8_2 x11_2)] ?_; (with_reducible refine (spec_l7Under.calls k2 _ _ l1 (rdOf ByteArray.empty x8_2 x11_2) t268 _ ?_ ?_ A19.out).mono ?_); exact zq18; exact zq17; rintro e w49 ⟨v269, rfl, ho0, hb⟩; refine ⟨_, rfl, ?_⟩; have HO270 := aM (Kd.R_lower (Kd.R_new' (Kd.R_new' (Kd.R_new' (Kd.R_new' ho0 (Kd.R_lt zq48)) (Kd.R_lt zq130)) (Kd.R_lt zq49)) (Kd.R_lt zq133)) (below_size zq5)); replace HO_8 := aM (Kd.R_elder' zq48 (Kd.R_base ho0) hb); replace HO_9 := aM (Kd.R_elder' zq130 (Kd.R_base ho0) hb); replace HO_10 := aM (Kd.R_elder' zq49 (Kd.R_base ho0) hb); replace HO267 := aM (Kd.R_elder' zq133 (Kd.R_base ho0) hb); replace HB := sB zq5 hb; clear hb; (try clear ho0); obtain ⟨Ao50, co50, eo50⟩ := Kd.R_slice HO267.out; subst eo50) | ((with_reducible refine gC 22 rfl ?_); refine gL 50 Tryd.func22 #[.slice Ao50 t265.length co50, .string (rdOf ByteArray.empty x8_2 x11_2)] ?_; (with_reducible refine (spec_l7Node.calls k2 _ _ t265 (rdOf ByteArray.empty x8_2 x11_2) t271 _ ?_ ?_ A20.out).mono ?_); exact zq134; exact zq135; rintro e w51 ⟨rfl, hb⟩; refine ⟨_, rfl, ?_⟩; replace HO_8 := rG HO_8 hb; replace HO_9 := rG HO_9 hb; replace HO_10 := rG HO_10 hb; replace HO267 := rG HO267 hb; replace HO270 := rG HO270 hb; replace HB := sB zq5 hb; clear hb; obtain ⟨Ao52, co52, eo52⟩ := Kd.R_slice HO270.out; subst eo52) | ((with_reducible refine gC 22 rfl ?_); refine gL 53 Tryd.func22 #[.slice Ao52 t268.length co52, .string (rdOf ByteArray.empty x8_2 x11_2)] ?_; (with_reducible refine (spec_l7Node.calls k2 _ _ t268 (rdOf ByteArray.empty x8_2 x11_2) t272 _ ?_ ?_ A21.out).mono ?_); exact zq137; exact zq138; rintro e w53 ⟨rfl, hb⟩; refine ⟨_, rfl, ?_⟩; replace HO_8 := rG HO_8 hb; replace HO_9 := rG HO_9 hb; replace HO_10 := rG HO_10 hb; replace HO267 := rG HO267 hb; replace HO270 := rG HO270 hb; replace HB := sB zq5 hb; clear hb) | ((with_reducible refine gC 28 rfl ?_); refine gL 65 Tryd.func28 #[.slice Ao50 t265.length co50, .slice Ao52 t268.length co52] ?_; (with_reducible refine (spec_l7Less.calls k2 _ _ t265 _ _ t268 t279 _ ?_ ?_ ?_ ?_ A43.out).mono ?_); exact zq134; exact zq135; exact zq137; exact zq138; rintro e w54 ⟨v280, rfl, ho0, hb⟩; refine ⟨_, rfl, ?_⟩; have HO281 := aM (Kd.R_lower (Kd.R_new' (Kd.R_new' (Kd.R_new' (Kd.R_new' (Kd.R_new' ho0 (Kd.R_lt zq48)) (Kd.R_lt zq130)) (Kd.R_lt zq49)) (Kd.R_lt zq133)) (Kd.R_lt zq136)) (below_size zq5)); replace HO_8 := aM (Kd.R_elder' zq48 (Kd.R_base ho0) hb); replace HO_9 := aM (Kd.R_elder' zq130 (Kd.R_base ho0) hb); replace HO_10 := aM (Kd.R_elder' zq49 (Kd.R_base ho0) hb); replace HO267 := aM (Kd.R_elder' zq133 (Kd.R_base ho0) hb); replace HO270 := aM (Kd.R_elder' zq136 (Kd.R_base ho0) hb); replace HB := sB zq5 hb; clear hb; (try clear ho0); obtain ⟨Ao56, co56, eo56⟩ := Kd.R_slice HO281.out; subst eo56) | ((with_reducible refine gate_builtin (b := .append) (xs := #[.tmp 62, .tmp 65]) rfl ?_); at_builtin; refine Kd.R_append_rows Kd.string (w0 := w) w.heap.size rfl (.tmp 62) (.tmp 65) 22 9 (.string ⟨#[]⟩) 16 rfl Tryd.underlying22 info9 rfl (by decide) (by omega) u9 x9_2 t279 _ _ _ (fun k_ => some k_ ≠ (.slice (some ad264) x8_2.length co47 : Value).ownBlock ∧ some k_ ≠ (u10 : Value).ownBlock ∧ some k_ ≠ (.slice Ao50 t265.length co50 : Value).ownBlock ∧ some k_ ≠ (.slice Ao52 t268.length co52 : Value).ownBlock ∧ some k_ ≠ (.slice Ao56 t279.length co56 : Value).ownBlock) (fun _ => False) rfl rfl ?aO ?aR (fun _ _ h => h) (fun _ h => h.elim) ?aF ?aB ?aS ?aL ?_; (case aR => repeat (first | exact (Kd.R_reads' HO281.out).2.2 | (with_reducible refine Kd.C_alloc ?_ _) | (with_reducible refine Kd.C_drewN ?_ _) | (with_reducible refine Kd.C_drew ?_))); (case aB => exact zq5); (case aF => exact (fun k_ hk => ⟨Kd.fresh' (Kd.R_lt zq48) k_ hk, Kd.fresh' (Kd.R_lt zq49) k_ hk, Kd.fresh' (Kd.R_lt zq133) k_ hk, Kd.fresh' (Kd.R_lt zq136) k_ hk, Kd.fresh' (Kd.R_lt zq140) k_ hk⟩)); (case aO => exact (by refine dR ?_; exact Kd.R_mono HO_9.out (fun _ hk => ⟨hk.1.1.1.1, ⟨hk.1.1.1.2, ⟨hk.1.1.2, ⟨hk.1.2, hk.2⟩⟩⟩⟩))); (case aS => exact zq157); (case aL => have := LMc44.out; omega); intro v283 w55 ho hb hg hat; rw [← Ny282.out] at ho; have n0_ := aM (Kd.R_after (ok := (fun k_ => some k_ ≠ (u10 : Value).ownBlock ∧ some k_ ≠ (.slice Ao50 t265.length co50 : Value).ownBlock ∧ some k_ ≠ (.slice Ao52 t268.length co52 : Value).ownBlock ∧ some k_ ≠ (.slice Ao56 t279.length co56 : Value).ownBlock)) (by refine dR ?_; exact Kd.R_mono HO_8.out (fun _ hk => ⟨⟨hk.1.1.1.2, ⟨hk.1.1.2, ⟨hk.1.2, hk.2⟩⟩⟩, hk.1.1.1.1⟩)) hg hat); have n1_ := aM (Kd.R_after (ok := (fun k_ => some k_ ≠ (.slice (some ad264) x8_2.length co47 : Value).ownBlock ∧ some k_ ≠ (.slice Ao50 t265.length co50 : Value).ownBlock ∧ some k_ ≠ (.slice Ao52 t268.length co52 : Value).ownBlock ∧ some k_ ≠ (.slice Ao56 t279.length co56 : Value).ownBlock)) (by refine dR ?_; exact Kd.R_mono HO_10.out (fun _ hk => ⟨⟨hk.1.1.1.1, ⟨hk.1.1.2, ⟨hk.1.2, hk.2⟩⟩⟩, hk.1.1.1.2⟩)) hg hat); have n2_ := aM (Kd.R_after (ok := (fun k_ => some k_ ≠ (.slice (some ad264) x8_2.length co47 : Value).ownBlock ∧ some k_ ≠ (u10 : Value).ownBlock ∧ some k_ ≠ (.slice Ao52 t268.length co52 : Value).ownBlock ∧ some k_ ≠ (.slice Ao56 t279.length co56 : Value).ownBlock)) (by refine dR ?_; exact Kd.R_mono HO267.out (fun _ hk => ⟨⟨hk.1.1.1.1.2, ⟨hk.1.1.2, ⟨hk.1.2, hk.2⟩⟩⟩, hk.1.1.1.2⟩)) hg hat); have n3_ := aM (Kd.R_after (ok := (fun k_ => some k_ ≠ (.slice (some ad264) x8_2.length co47 : Value).ownBlock ∧ some k_ ≠ (u10 : Value).ownBlock ∧ some k_ ≠ (.slice Ao50 t265.length co50 : Value).ownBlock ∧ some k_ ≠ (.slice Ao56 t279.length co56 : Value).ownBlock)) (by refine dR ?_; exact Kd.R_mono HO270.out (fun _ hk => ⟨⟨hk.1.1.1.1.2, ⟨hk.1.1.2, ⟨hk.1.2, hk.2⟩⟩⟩, hk.1.1.1.2⟩)) hg hat); have n4_ := aM (Kd.R_after (ok := (fun k_ => some k_ ≠ (.slice (some ad264) x8_2.length co47 : Value).ownBlock ∧ some k_ ≠ (u10 : Value).ownBlock ∧ some k_ ≠ (.slice Ao50 t265.length co50 : Value).ownBlock ∧ some k_ ≠ (.slice Ao52 t268.length co52 : Value).ownBlock)) (by refine dR ?_; exact Kd.R_mono HO281.out (fun _ hk => ⟨⟨hk.1.1.1.1.2, ⟨hk.1.1.2, ⟨hk.1.2, hk.2⟩⟩⟩, hk.1.1.1.2⟩)) hg hat); have n5_ := aM (hb); have n6_ := aM (ho); clear HO_8; clear HO_10; clear HO267; clear HO270; clear HO281; clear HB; clear HO_9; have HO_8 := n0_; have HO_10 := n1_; have HO267 := n2_; have HO270 := n3_; have HO281 := n4_; have HB := n5_; have HO284 := n6_; clear n0_ n1_ n2_ n3_ n4_ n5_ n6_; clear ho hb hg hat) | ((with_reducible refine gC 28 rfl ?_); refine gL 70 Tryd.func28 #[.slice Ao52 t268.length co52, .slice Ao50 t265.length co50] ?_; (with_reducible refine (spec_l7Less.calls k2 _ _ t268 _ _ t265 t285 _ ?_ ?_ ?_ ?_ A45.out).mono ?_); exact zq137; exact zq138; exact zq134; exact zq135; rintro e w57 ⟨v286, rfl, ho0, hb⟩; refine ⟨_, rfl, ?_⟩; have HO287 := aM (Kd.R_lower (Kd.R_new' (Kd.R_new' (Kd.R_new' (Kd.R_new' (Kd.R_new' (Kd.R_new' ho0 (Kd.R_lt zq48)) (Kd.R_lt zq49)) (Kd.R_lt zq133)) (Kd.R_lt zq136)) (Kd.R_lt zq140)) (Kd.R_lt zq141)) (below_size zq5)); replace HO_8 := aM (Kd.R_elder' zq48 (Kd.R_base ho0) hb); replace HO_10 := aM (Kd.R_elder' zq49 (Kd.R_base ho0) hb); replace HO267 := aM (Kd.R_elder' zq133 (Kd.R_base ho0) hb); replace HO270 := aM (Kd.R_elder' zq136 (Kd.R_base ho0) hb); replace HO281 := aM (Kd.R_elder' zq140 (Kd.R_base ho0) hb); replace HO284 := aM (Kd.R_elder' zq141 (Kd.R_base ho0) hb); replace HB := sB zq5 hb; clear hb; (try clear ho0); obtain ⟨Ao59, co59, eo59⟩ := Kd.R_slice HO287.out; subst eo59) | ((with_reducible refine gate_builtin (b := .append) (xs := #[.tmp 67, .tmp 70]) rfl ?_); at_builtin; refine Kd.R_append_rows Kd.string (w0 := w) w.heap.size rfl (.tmp 67) (.tmp 70) 22 9 (.string ⟨#[]⟩) 16 rfl Tryd.underlying22 info9 rfl (by decide) (by omega) u10 x10_2 t285 _ _ _ (fun k_ => some k_ ≠ (.slice (some ad264) x8_2.length co47 : Value).ownBlock ∧ some k_ ≠ (.slice Ao50 t265.length co50 : Value).ownBlock ∧ some k_ ≠ (.slice Ao52 t268.length co52 : Value).ownBlock ∧ some k_ ≠ (.slice Ao56 t279.length co56 : Value).ownBlock ∧ some k_ ≠ (v283 : Value).ownBlock ∧ some k_ ≠ (.slice Ao59 t285.length co59 : Value).ownBlock) (fun _ => False) rfl rfl ?aO ?aR (fun _ _ h => h) (fun _ h => h.elim) ?aF ?aB ?aS ?aL ?_; (case aR => repeat (first | exact (Kd.R_reads' HO287.out).2.2 | (with_reducible refine Kd.C_alloc ?_ _) | (with_reducible refine Kd.C_drewN ?_ _) | (with_reducible refine Kd.C_drew ?_))); (case aB => exact zq5); (case aF => exact (fun k_ hk => ⟨Kd.fresh' (Kd.R_lt zq48) k_ hk, Kd.fresh' (Kd.R_lt zq133) k_ hk, Kd.fresh' (Kd.R_lt zq136) k_ hk, Kd.fresh' (Kd.R_lt zq140) k_ hk, Kd.fresh' (Kd.R_lt zq141) k_ hk, Kd.fresh' (Kd.R_lt (by refine dR ?_; exact HO287.out)) k_ hk⟩)); (case aO => exact (by refine dR ?_; exact Kd.R_mono HO_10.out (fun _ hk => ⟨hk.1.1.1, ⟨hk.1.1.2.1, ⟨hk.1.1.2.2.1, ⟨hk.1.1.2.2.2, ⟨hk.1.2, hk.2⟩⟩⟩⟩⟩))); (case aS => exact zq157); (case aL => have := LMc46.out; omega); intro v289 w58 ho hb hg hat; rw [← Ny288.out] at ho; have n0_ := aM (Kd.R_after (ok := (fun k_ => some k_ ≠ (.slice Ao50 t265.length co50 : Value).ownBlock ∧ some k_ ≠ (.slice Ao52 t268.length co52 : Value).ownBlock ∧ some k_ ≠ (.slice Ao56 t279.length co56 : Value).ownBlock ∧ some k_ ≠ (v283 : Value).ownBlock ∧ some k_ ≠ (.slice Ao59 t285.length co59 : Value).ownBlock)) (by refine dR ?_; exact Kd.R_mono HO_8.out (fun _ hk => ⟨⟨hk.1.1.2.1, ⟨hk.1.1.2.2.1, ⟨hk.1.1.2.2.2, ⟨hk.1.2, hk.2⟩⟩⟩⟩, hk.1.1.1⟩)) hg hat); have n1_ := aM (Kd.R_after (ok := (fun k_ => some k_ ≠ (.slice (some ad264) x8_2.length co47 : Value).ownBlock ∧ some k_ ≠ (.slice Ao52 t268.length co52 : Value).ownBlock ∧ some k_ ≠ (.slice Ao56 t279.length co56 : Value).ownBlock ∧ some k_ ≠ (v283 : Value).ownBlock ∧ some k_ ≠ (.slice Ao59 t285.length co59 : Value).ownBlock)) (by refine dR ?_; exact Kd.R_mono HO267.out (fun _ hk => ⟨⟨hk.1.1.1, ⟨hk.1.1.2.2.1, ⟨hk.1.1.2.2.2, ⟨hk.1.2, hk.2⟩⟩⟩⟩, hk.1.1.2.1⟩)) hg hat); have n2_ := aM (Kd.R_after (ok := (fun k_ => some k_ ≠ (.slice (some ad264) x8_2.length co47 : Value).ownBlock ∧ some k_ ≠ (.slice Ao50 t265.length co50 : Value).ownBlock ∧ some k_ ≠ (.slice Ao56 t279.length co56 : Value).ownBlock ∧ some k_ ≠ (v283 : Value).ownBlock ∧ some k_ ≠ (.slice Ao59 t285.length co59 : Value).ownBlock)) (by refine dR ?_; exact Kd.R_mono HO270.out (fun _ hk => ⟨⟨hk.1.1.1, ⟨hk.1.1.2.2.1, ⟨hk.1.1.2.2.2, ⟨hk.1.2, hk.2⟩⟩⟩⟩, hk.1.1.2.1⟩)) hg hat); have n3_ := aM (Kd.R_after (ok := (fun k_ => some k_ ≠ (.slice (some ad264) x8_2.length co47 : Value).ownBlock ∧ some k_ ≠ (.slice Ao50 t265.length co50 : Value).ownBlock ∧ some k_ ≠ (.slice Ao52 t268.length co52 : Value).ownBlock ∧ some k_ ≠ (v283 : Value).ownBlock ∧ some k_ ≠ (.slice Ao59 t285.length co59 : Value).ownBlock)) (by refine dR ?_; exact Kd.R_mono HO281.out (fun _ hk => ⟨⟨hk.1.1.1, ⟨hk.1.1.2.2.1, ⟨hk.1.1.2.2.2, ⟨hk.1.2, hk.2⟩⟩⟩⟩, hk.1.1.2.1⟩)) hg hat); have n4_ := aM (Kd.R_after (ok := (fun k_ => some k_ ≠ (.slice (some ad264) x8_2.length co47 : Value).ownBlock ∧ some k_ ≠ (.slice Ao50 t265.length co50 : Value).ownBlock ∧ some k_ ≠ (.slice Ao52 t268.length co52 : Value).ownBlock ∧ some k_ ≠ (.slice Ao56 t279.length co56 : Value).ownBlock ∧ some k_ ≠ (.slice Ao59 t285.length co59 : Value).ownBlock)) (by refine dR ?_; exact Kd.R_mono HO284.out (fun _ hk => ⟨⟨hk.1.1, ⟨hk.1.2.2.1, ⟨hk.1.2.2.2.1, ⟨hk.1.2.2.2.2, hk.2⟩⟩⟩⟩, hk.1.2.1⟩)) hg hat); have n5_ := aM (Kd.R_after (ok := (fun k_ => some k_ ≠ (.slice (some ad264) x8_2.length co47 : Value).ownBlock ∧ some k_ ≠ (.slice Ao50 t265.length co50 : Value).ownBlock ∧ some k_ ≠ (.slice Ao52 t268.length co52 : Value).ownBlock ∧ some k_ ≠ (.slice Ao56 t279.length co56 : Value).ownBlock ∧ some k_ ≠ (v283 : Value).ownBlock)) (by refine dR ?_; exact Kd.R_mono HO287.out (fun _ hk => ⟨⟨hk.1.1.1.1.1.2, ⟨hk.1.1.1.2, ⟨hk.1.1.2, ⟨hk.1.2, hk.2⟩⟩⟩⟩, hk.1.1.1.1.2⟩)) hg hat); have n6_ := aM (hb); have n7_ := aM (ho); clear HO_8; clear HO267; clear HO270; clear HO281; clear HO284; clear HO287; clear HB; clear HO_10; have HO_8 := n0_; have HO267 := n1_; have HO270 := n2_; have HO281 := n3_; have HO284 := n4_; have HO287 := n5_; have HB := n6_; have HO290 := n7_; clear n0_ n1_ n2_ n3_ n4_ n5_ n6_ n7_; clear ho hb hg hat))
          go_roundg k2
          case measure => have := HJ2.out; have := HK2.out; omega
          case rel => exact ⟨(x8_2), (y282), (y288), (wrap64 (x11_2 + 1)), zq1, H', ⟨zq139⟩, ⟨by refine dR ?_; exact Kd.R_mono HO_8.out (fun _ hk => ⟨hk.1.2.2.2.1, hk.2⟩)⟩, ⟨by refine dR ?_; exact Kd.R_mono HO284.out (fun _ hk => ⟨hk.1.1, hk.2⟩)⟩, ⟨by refine dR ?_; exact Kd.R_mono HO290.out (fun _ hk => ⟨hk.1, hk.2.2.2.2.1⟩)⟩, ⟨zq5⟩⟩
         rw [if_neg c46] at H; exact absurd H (by simp)
        rw [if_neg c44] at H; exact absurd H (by simp)
       rw [if_neg c17] at H; exact absurd H (by simp)
      rw [if_neg c16] at H; have c16b0 := decide_eq_false c16; clear c16; simp only [Option.some.injEq, Prod.mk.injEq] at H; obtain ⟨rfl, rfl, rfl, rfl⟩ := H; obtain ⟨Ao60, co60, eo60⟩ := Kd.R_slice HO_8.out; subst eo60; go_wp2; refine bodyPost_ret (results_list (rs := [.tmp 4, .tmp 5, .tmp 6, .tmp 7]) rfl (by simp) (.tmp (.tmp (.tmp (.tmp .nil))))) rfl ?_; exact ⟨_, _, _, zq8, zq48, zq130, zq49, zq5⟩
   rw [if_neg c14] at H; exact absurd H (by simp)

/-! ### strings_Trim: function 42 (given) -/
def strings_Trim.f (a0 : ByteArray) (a1 : ByteArray) : Option ByteArray := if a0.size ≤ 9223372036854775807 ∧ a1.size < 4294967281 ∧ a1.data.toList.all (fun b => decide (b.toNat < 128)) = true then some ⟨(Lib.trimS a0.data.toList a1.data.toList).toArray⟩ else none
theorem strings_Trim.calls (a0 : ByteArray) (a1 : ByteArray) (r : ByteArray) (w : World) (h : strings_Trim.f a0 a1 = some r) :
    Calls Tryd.prog 42 #[.string a0, .string a1] w fun e w' => e = .returned (.string r) ∧ Below w.heap.size w w' := by
  unfold strings_Trim.f at h
  split at h
  · rename_i hg
    injection h with h
    subst h; exact Any.strings_Trim_laid Tryd.lays160 (by kernel_rfl) a0 a1 w hg.1 hg.2.1 (ascii_of_all hg.2.2)
  · exact absurd h (by simp)

/-! ### stringslite_HasPrefix: function 68 -/
def stringslite_HasPrefix.f (a0 : ByteArray) (a1 : ByteArray) : Option (Bool) := if (a0.size : Int) ≥ (a1.size : Int) then (if 0 ≤ (a1.size : Int) then (if (a1.size : Int) ≤ (a0.size : Int) then (some ((a0.extract 0 ((a1.size : Int) : Int).toNat).toList == a1.toList)) else (none)) else (none)) else (some false)
set_option maxHeartbeats 8000000 in
set_option maxRecDepth 100000 in
theorem stringslite_HasPrefix.calls (a0 : ByteArray) (a1 : ByteArray) (r : Bool) (w : World) (h : stringslite_HasPrefix.f a0 a1 = some r) :
  Calls Tryd.prog 68 #[.string a0, .string a1] w fun e w' => e = .returned (.bool r) ∧ Drawn0 w w' := by
 unfold stringslite_HasPrefix.f at h; have H := h; clear h; by_cases c3 : (a0.size : Int) ≥ (a1.size : Int)
 ·
  rw [if_pos c3] at H; have c3b0 : decide ((a1.size : Int) ≤ (a0.size : Int)) = true := decide_eq_true c3; have c3b1 : decide (a1.size ≤ a0.size) = true := decide_eq_true (Int.ofNat_le.mp c3); clear c3; by_cases c4 : 0 ≤ (a1.size : Int)
  ·
   rw [if_pos c4] at H; have c4b0 := eq_true c4; have c4b1 := decide_eq_true c4; clear c4; by_cases c5 : (a1.size : Int) ≤ (a0.size : Int)
   ·
    rw [if_pos c5] at H; have c5b0 := eq_true c5; have c5b1 := decide_eq_true c5; clear c5; obtain rfl := Option.some.inj H; go_enter Tryd.func68, Tryd.ntmps68; go_wp2; go_ret; exact ⟨zq1, zq2⟩
   exact zq161
  exact zq166
 rw [if_neg c3] at H; have c3b0 : decide ((a1.size : Int) ≤ (a0.size : Int)) = false := decide_eq_false c3; have c3b1 : decide (a1.size ≤ a0.size) = false := decide_eq_false (fun h => c3 (Int.ofNat_le.mpr h)); clear c3; obtain rfl := Option.some.inj H; go_enter Tryd.func68, Tryd.ntmps68; go_wp2; go_ret; exact ⟨zq1, zq2⟩

/-! ### stringslite_CutPrefix: function 74 -/
def stringslite_CutPrefix.f (a0 : ByteArray) (a1 : ByteArray) : Option (ByteArray × Bool) := (stringslite_HasPrefix.f a0 a1).bind fun t291 => (if t291 = true then (if 0 ≤ (a1.size : Int) then (if (a1.size : Int) ≤ (a0.size : Int) then (some (a0.extract ((a1.size : Int) : Int).toNat a0.size, true)) else (none)) else (none)) else (some (a0, false)))
set_option maxHeartbeats 8000000 in
set_option maxRecDepth 100000 in
theorem stringslite_CutPrefix.calls (a0 : ByteArray) (a1 : ByteArray) (r1 : ByteArray) (r2 : Bool) (w : World) (h : stringslite_CutPrefix.f a0 a1 = some (r1, r2)) :
  Calls Tryd.prog 74 #[.string a0, .string a1] w fun e w' => e = .returned (.tuple #[.string r1, .bool r2]) ∧ Drawn0 w w' := by
 unfold stringslite_CutPrefix.f at h; have H := h; clear h; replace H := Option.bind_eq_some_iff.mp H; obtain ⟨t291, A30, H⟩ := H; (try dsimp only at H); have A3 := aM A30; clear A30; by_cases c4 : t291 = true
 ·
  subst c4; rw [if_pos rfl] at H; by_cases c5 : 0 ≤ (a1.size : Int)
  ·
   rw [if_pos c5] at H; have c5b0 := eq_true c5; have c5b1 := decide_eq_true c5; clear c5; by_cases c6 : (a1.size : Int) ≤ (a0.size : Int)
   ·
    rw [if_pos c6] at H; have c6b0 := eq_true c6; have c6b1 := decide_eq_true c6; clear c6; simp only [Option.some.injEq, Prod.mk.injEq] at H; obtain ⟨rfl, rfl⟩ := H; go_enter Tryd.func74, Tryd.ntmps74
    go_wp2_with (first | ((with_reducible refine gC 68 rfl ?_); refine gL 8 Tryd.func68 #[.string a0, .string a1] ?_; (with_reducible refine (stringslite_HasPrefix.calls a0 a1 true _ A3.out).mono ?_); rintro e w' ⟨rfl, ⟨nd, rfl⟩⟩; refine ⟨_, rfl, ?_⟩))
    go_ret2
    exact ⟨zq1, zq2⟩
   exact zq165
  exact zq161
 replace c4 := Bool.eq_false_iff.mpr c4; subst c4; rw [if_neg (show ¬ (false = true) by decide)] at H; simp only [Option.some.injEq, Prod.mk.injEq] at H; obtain ⟨rfl, rfl⟩ := H; go_enter Tryd.func74, Tryd.ntmps74
 go_wp2_with (first | ((with_reducible refine gC 68 rfl ?_); refine gL 8 Tryd.func68 #[.string a0, .string a1] ?_; (with_reducible refine (stringslite_HasPrefix.calls a0 a1 false _ A3.out).mono ?_); rintro e w' ⟨rfl, ⟨nd, rfl⟩⟩; refine ⟨_, rfl, ?_⟩))
 go_ret2
 exact ⟨zq1, zq2⟩

/-! ### strings_CutPrefix: function 56 -/
def strings_CutPrefix.f (a0 : ByteArray) (a1 : ByteArray) : Option (ByteArray × Bool) := (stringslite_CutPrefix.f a0 a1).bind fun bt292 => (some (bt292.1, bt292.2))
set_option maxHeartbeats 8000000 in
set_option maxRecDepth 100000 in
theorem strings_CutPrefix.calls (a0 : ByteArray) (a1 : ByteArray) (r1 : ByteArray) (r2 : Bool) (w : World) (h : strings_CutPrefix.f a0 a1 = some (r1, r2)) :
  Calls Tryd.prog 56 #[.string a0, .string a1] w fun e w' => e = .returned (.tuple #[.string r1, .bool r2]) ∧ Drawn0 w w' := by
 unfold strings_CutPrefix.f at h; have H := h; clear h; replace H := Option.bind_eq_some_iff.mp H; obtain ⟨⟨t292, t293⟩, A30, H⟩ := H; replace H : (some (t292, t293)) = some (r1, r2) := H; have A3 := aM A30; clear A30; simp only [Option.some.injEq, Prod.mk.injEq] at H; obtain ⟨rfl, rfl⟩ := H; go_enter Tryd.func56, Tryd.ntmps56
 go_wp2_with (first | ((with_reducible refine gC 74 rfl ?_); refine gL 8 Tryd.func74 #[.string a0, .string a1] ?_; (with_reducible refine (stringslite_CutPrefix.calls a0 a1 t292 t293 _ A3.out).mono ?_); rintro e w' ⟨rfl, ⟨nd, rfl⟩⟩; refine ⟨_, rfl, ?_⟩))
 go_ret2
 exact ⟨zq1, zq2⟩

/-! ### impl_isDigest: function 41 -/
def impl_isDigest.f (a0 : ByteArray) : Option (Bool) := (strings_CutPrefix.f a0 (⟨#[115, 104, 97, 50, 53, 54, 58]⟩ : ByteArray)).bind fun bt294 => (if bt294.2 = true then (if (bt294.1.size : Int) = 64 then ((strings_Trim.f bt294.1 (⟨#[48, 49, 50, 51, 52, 53, 54, 55, 56, 57, 97, 98, 99, 100, 101, 102]⟩ : ByteArray)).bind fun t296 => (some (t296.toList == ([] : List UInt8)))) else (some false)) else (some false))
set_option maxHeartbeats 8000000 in
set_option maxRecDepth 100000 in
theorem impl_isDigest.calls (a0 : ByteArray) (r : Bool) (w : World) (h : impl_isDigest.f a0 = some r) :
  Calls Tryd.prog 41 #[.string a0] w fun e w' => e = .returned (.bool r) ∧ Below w.heap.size w w' := by
 have HB := aM (Below.refl w.heap.size w); unfold impl_isDigest.f at h; have H := h; clear h; replace H := Option.bind_eq_some_iff.mp H; obtain ⟨⟨t294, t295⟩, A20, H⟩ := H; (try dsimp only at H); have A2 := aM A20; clear A20; by_cases c3 : t295 = true
 ·
  subst c3; rw [if_pos rfl] at H; by_cases c4 : (t294.size : Int) = 64
  ·
   rw [if_pos c4] at H; have c4b0 : ((t294.size : Int) == 64) = true := beq_iff_eq.mpr c4; have c4b1 : ((t294.size : Int) != 64) = false := bne_eq_false_iff_eq.mpr c4; clear c4; replace H := Option.bind_eq_some_iff.mp H; obtain ⟨t296, A50, H⟩ := H; (try dsimp only at H); have A5 := aM A50; clear A50; obtain rfl := Option.some.inj H; go_enter Tryd.func41, Tryd.ntmps41
   go_wp2_with (first | ((with_reducible refine gC 56 rfl ?_); refine gL 7 Tryd.func56 #[.string a0, .string (⟨#[115, 104, 97, 50, 53, 54, 58]⟩ : ByteArray)] ?_; (with_reducible refine (strings_CutPrefix.calls a0 (⟨#[115, 104, 97, 50, 53, 54, 58]⟩ : ByteArray) t294 true _ A2.out).mono ?_); rintro e w' ⟨rfl, ⟨nd, rfl⟩⟩; refine ⟨_, rfl, ?_⟩) | (go_at_call 42; (with_reducible refine (strings_Trim.calls t294 (⟨#[48, 49, 50, 51, 52, 53, 54, 55, 56, 57, 97, 98, 99, 100, 101, 102]⟩ : ByteArray) t296 _ A5.out).mono ?_); rintro e w6 ⟨rfl, hb⟩; replace HB := sB zq5 hb; clear hb))
   go_ret; exact ⟨zq8, zq5⟩
  rw [if_neg c4] at H; have c4b0 : ((t294.size : Int) == 64) = false := beq_eq_false_iff_ne.mpr c4; have c4b1 : ((t294.size : Int) != 64) = true := bne_iff_ne.mpr c4; obtain rfl := Option.some.inj H; go_enter Tryd.func41, Tryd.ntmps41
  go_wp2_with (first | ((with_reducible refine gC 56 rfl ?_); refine gL 7 Tryd.func56 #[.string a0, .string (⟨#[115, 104, 97, 50, 53, 54, 58]⟩ : ByteArray)] ?_; (with_reducible refine (strings_CutPrefix.calls a0 (⟨#[115, 104, 97, 50, 53, 54, 58]⟩ : ByteArray) t294 true _ A2.out).mono ?_); rintro e w' ⟨rfl, ⟨nd, rfl⟩⟩; refine ⟨_, rfl, ?_⟩))
  go_ret; exact ⟨zq8, zq5⟩
 replace c3 := Bool.eq_false_iff.mpr c3; subst c3; rw [if_neg (show ¬ (false = true) by decide)] at H; obtain rfl := Option.some.inj H; go_enter Tryd.func41, Tryd.ntmps41
 go_wp2_with (first | ((with_reducible refine gC 56 rfl ?_); refine gL 7 Tryd.func56 #[.string a0, .string (⟨#[115, 104, 97, 50, 53, 54, 58]⟩ : ByteArray)] ?_; (with_reducible refine (strings_CutPrefix.calls a0 (⟨#[115, 104, 97, 50, 53, 54, 58]⟩ : ByteArray) t294 false _ A2.out).mono ?_); rintro e w' ⟨rfl, ⟨nd, rfl⟩⟩; refine ⟨_, rfl, ?_⟩))
 go_ret; exact ⟨zq8, zq5⟩

/-! ### impl_isSet: function 23 -/
def impl_isSet.l0 : Nat → List ByteArray → List ByteArray → Int → Int → Option (Bool)
 | 0, _, _, _, _ => none
 | k + 1, x0, x5, x6, x7 => if x7 < x6 then (if 0 ≤ x7 then (if x7 < (x5.length : Int) then ((impl_isDigest.f (rdOf ByteArray.empty x5 x7)).bind fun t298 => (if t298 = true then (if x7 > 0 then (if 0 ≤ (wrap64 (x7 - 1)) then (if (wrap64 (x7 - 1)) < (x0.length : Int) then (if ((Op.bytesLess ((rdOf ByteArray.empty x0 (wrap64 (x7 - 1))).toList) ((rdOf ByteArray.empty x5 x7).toList)) = true) then (impl_isSet.l0 k x0 x5 x6 (wrap64 (x7 + 1))) else (some false)) else (none)) else (none)) else (impl_isSet.l0 k x0 x5 x6 (wrap64 (x7 + 1)))) else (some false))) else (none)) else (none)) else (some (decide ((x0.length : Int) ≤ 200)))
def impl_isSet.f (k : Nat) (l0 : List ByteArray) : Option (Bool) := impl_isSet.l0 k l0 l0 (l0.length : Int) 0
theorem impl_isSet.mono_l : ∀ k, (∀ y0 y1 y2 y3, LeO (impl_isSet.l0 k y0 y1 y2 y3) (impl_isSet.l0 (k + 1) y0 y1 y2 y3))
 | 0 => fun _ _ _ _ r h => by simp [impl_isSet.l0] at h
 | k + 1 => by
  have ih0 := impl_isSet.mono_l k
  ·
   intro y0 y1 y2 y3; unfold impl_isSet.l0
   repeat' first
   | (with_reducible apply ih0)
   | (with_reducible exact LeO.refl _)
   | (with_reducible exact LeO.none _)
   | (with_reducible refine LeO.ite ?_ ?_)
   | (with_reducible refine LeO.bind ?_ (fun _ => ?_))
   | exact LeO.none _
   | refine LeO.ite ?_ ?_
   | refine LeO.bind ?_ (fun _ => ?_)
theorem impl_isSet.mono : ∀ a0 k, LeO (impl_isSet.f k a0) (impl_isSet.f (k + 1) a0) := by
 intro a0 k; have ih0 := impl_isSet.mono_l k; unfold impl_isSet.f
 repeat' first
   | (with_reducible apply ih0)
   | (with_reducible exact LeO.refl _)
   | (with_reducible exact LeO.none _)
   | (with_reducible refine LeO.ite ?_ ?_)
   | (with_reducible refine LeO.bind ?_ (fun _ => ?_))
   | exact LeO.none _
   | refine LeO.ite ?_ ?_
   | refine LeO.bind ?_ (fun _ => ?_)
set_option maxHeartbeats 8000000 in
set_option maxRecDepth 100000 in
theorem impl_isSet.calls (k : Nat) (A0 : Option Addr) (c0 : Nat) (l0 : List ByteArray) (r : Bool) (w : World) (hr0 : Kd.C Kd.string w A0 l0.length l0) (hc0 : l0.length ≤ c0) (h : impl_isSet.f k l0 = some r) :
  Calls Tryd.prog 23 #[.slice A0 l0.length c0] w fun e w' => e = .returned (.bool r) ∧ Below w.heap.size w w' := by
 have HR0 := aM hr0; have HC0 := aM hc0; clear hr0 hc0; have HB := aM (Below.refl w.heap.size w); unfold impl_isSet.f at h; have H := h; clear h; have H' := aM H; clear H; go_enter Tryd.func23, Tryd.ntmps23; go_wp2
 go_loopg [7] k (fun kq v7 w' => ∃ (x7_1 : Int), v7 = .int .i64 x7_1 ∧ Aside0 (impl_isSet.l0 kq l0 l0 (l0.length : Int) x7_1 = some r) ∧ Aside0 (kq ≤ k) ∧ Aside0 (Below w.heap.size w w'))
 case atStart => exact ⟨(0), zq1, H', ⟨Nat.le_refl _⟩, ⟨zq5⟩⟩
 case round =>
  clear H'; obtain ⟨x7_1, rfl, HA, HK1, HB⟩ := hrel
  cases gk with
  | zero => exact absurd HA.out (by simp [impl_isSet.l0])
  | succ k1 =>
   have H := HA.out; clear HA; simp only [impl_isSet.l0] at H; by_cases c2 : x7_1 < (l0.length : Int)
   ·
    rw [if_pos c2] at H; have c2b0 := decide_eq_true c2; clear c2; by_cases c3 : 0 ≤ x7_1
    ·
     rw [if_pos c3] at H; have c3b0 := decide_eq_true c3; clear c3; by_cases c4 : x7_1 < (l0.length : Int)
     ·
      rw [if_pos c4] at H; have c4b0 := decide_eq_true c4; clear c4; replace H := Option.bind_eq_some_iff.mp H; obtain ⟨t298, A50, H⟩ := H; (try dsimp only at H); have A5 := aM A50; clear A50; by_cases c6 : t298 = true
      ·
       subst c6; rw [if_pos rfl] at H; by_cases c7 : x7_1 > 0
       ·
        rw [if_pos c7] at H; have c7b0 : decide (0 < x7_1) = true := decide_eq_true c7; clear c7; obtain ⟨ji8, hji8⟩ : ∃ j_ : Int, (wrap64 (x7_1 - 1)) = j_ := ⟨_, rfl⟩; replace H : (if 0 ≤ (ji8) then (if (ji8) < (l0.length : Int) then (if ((Op.bytesLess ((rdOf ByteArray.empty l0 (ji8)).toList) ((rdOf ByteArray.empty l0 x7_1).toList)) = true) then (impl_isSet.l0 k1 l0 l0 (l0.length : Int) (wrap64 (x7_1 + 1))) else (some false)) else (none)) else (none)) = some r := by first | (rw [hji8] at H; exact H) | (simp only [hji8] at H ⊢; exact H)
        (try rw [hji8] at A5); have hji8w : (IntKind.i64.wrap (x7_1 - 1)) = ji8 := (i64_w _).trans hji8; by_cases c9 : 0 ≤ (ji8)
        ·
         rw [if_pos c9] at H; have c9b0 := decide_eq_true c9; clear c9; by_cases c10 : (ji8) < (l0.length : Int)
         ·
          rw [if_pos c10] at H; have c10b0 := decide_eq_true c10; clear c10; by_cases c11 : ((Op.bytesLess ((rdOf ByteArray.empty l0 (ji8)).toList) ((rdOf ByteArray.empty l0 x7_1).toList)) = true)
          ·
           rw [if_pos c11] at H; have c11b0 : (Op.bytesLess ((rdOf ByteArray.empty l0 (ji8)).toList) ((rdOf ByteArray.empty l0 x7_1).toList)) = true := c11; clear c11; have H' := aM H; clear H; have p297 : 0 ≤ (x7_1 : Int) := of_decide_eq_true zq3; have q297 : x7_1 < (l0.length : Int) := of_decide_eq_true zq3; obtain ⟨ad297, e297, hx297_0⟩ := Kd.at_string HR0.out x7_1 p297 q297; cases e297; replace hx297_0 := hxB HB hx297_0; replace p297 := eq_true p297; replace q297 := eq_true q297
           go_wp2_with (first | ((with_reducible refine gC 41 rfl ?_); refine gL 13 Tryd.func41 #[.string (rdOf ByteArray.empty l0 x7_1)] ?_; (with_reducible refine (impl_isDigest.calls (rdOf ByteArray.empty l0 x7_1) true _ A5.out).mono ?_); rintro e w12 ⟨rfl, hb⟩; refine ⟨_, rfl, ?_⟩; replace HB := sB zq5 hb; clear hb; have p299 : 0 ≤ ((ji8) : Int) := of_decide_eq_true zq3; have q299 : (ji8) < (l0.length : Int) := of_decide_eq_true zq3; obtain ⟨ad299, e299, hx299_0⟩ := Kd.at_string HR0.out (ji8) p299 q299; obtain rfl : ad297 = ad299 := (by injection e299); replace hx299_0 := hxB HB hx299_0; replace p299 := eq_true p299; replace q299 := eq_true q299))
           go_roundg k1
           case measure => have := HK1.out; omega
           case rel => exact ⟨(wrap64 (x7_1 + 1)), zq1, H', ⟨zq4⟩, ⟨zq5⟩⟩
          rw [if_neg c11] at H; have c11b0 : (Op.bytesLess ((rdOf ByteArray.empty l0 (ji8)).toList) ((rdOf ByteArray.empty l0 x7_1).toList)) = false := by simpa using c11
          clear c11; obtain rfl := Option.some.inj H; have p297 : 0 ≤ (x7_1 : Int) := of_decide_eq_true zq3; have q297 : x7_1 < (l0.length : Int) := of_decide_eq_true zq3; obtain ⟨ad297, e297, hx297_0⟩ := Kd.at_string HR0.out x7_1 p297 q297; cases e297; replace hx297_0 := hxB HB hx297_0; replace p297 := eq_true p297; replace q297 := eq_true q297
          go_wp2_with (first | ((with_reducible refine gC 41 rfl ?_); refine gL 13 Tryd.func41 #[.string (rdOf ByteArray.empty l0 x7_1)] ?_; (with_reducible refine (impl_isDigest.calls (rdOf ByteArray.empty l0 x7_1) true _ A5.out).mono ?_); rintro e w13 ⟨rfl, hb⟩; refine ⟨_, rfl, ?_⟩; replace HB := sB zq5 hb; clear hb; have p299 : 0 ≤ ((ji8) : Int) := of_decide_eq_true zq3; have q299 : (ji8) < (l0.length : Int) := of_decide_eq_true zq3; obtain ⟨ad299, e299, hx299_0⟩ := Kd.at_string HR0.out (ji8) p299 q299; obtain rfl : ad297 = ad299 := (by injection e299); replace hx299_0 := hxB HB hx299_0; replace p299 := eq_true p299; replace q299 := eq_true q299))
          go_ret; exact ⟨by first | rfl | (simp [errW_none, errW_some] <;> rfl) | (simp only [← hji8]; first | rfl | (simp [errW_none, errW_some] <;> rfl)) | (simp [*, errW_none, errW_some] <;> rfl), zq5⟩
         rw [if_neg c10] at H; exact absurd H (by simp)
        exact zq169
       rw [if_neg c7] at H; have c7b0 : decide (0 < x7_1) = false := decide_eq_false c7; clear c7; have H' := aM H; clear H; have p297 : 0 ≤ (x7_1 : Int) := of_decide_eq_true zq3; have q297 : x7_1 < (l0.length : Int) := of_decide_eq_true zq3; obtain ⟨ad297, e297, hx297_0⟩ := Kd.at_string HR0.out x7_1 p297 q297; cases e297; replace hx297_0 := hxB HB hx297_0; replace p297 := eq_true p297; replace q297 := eq_true q297
       go_wp2_with (first | ((with_reducible refine gC 41 rfl ?_); refine gL 13 Tryd.func41 #[.string (rdOf ByteArray.empty l0 x7_1)] ?_; (with_reducible refine (impl_isDigest.calls (rdOf ByteArray.empty l0 x7_1) true _ A5.out).mono ?_); rintro e w14 ⟨rfl, hb⟩; refine ⟨_, rfl, ?_⟩; replace HB := sB zq5 hb; clear hb))
       go_roundg k1
       case measure => have := HK1.out; omega
       case rel => exact ⟨(wrap64 (x7_1 + 1)), zq1, H', ⟨zq4⟩, ⟨zq5⟩⟩
      replace c6 := Bool.eq_false_iff.mpr c6; subst c6; rw [if_neg (show ¬ (false = true) by decide)] at H; obtain rfl := Option.some.inj H; have p297 : 0 ≤ (x7_1 : Int) := of_decide_eq_true zq3; have q297 : x7_1 < (l0.length : Int) := of_decide_eq_true zq3; obtain ⟨ad297, e297, hx297_0⟩ := Kd.at_string HR0.out x7_1 p297 q297; cases e297; replace hx297_0 := hxB HB hx297_0; replace p297 := eq_true p297; replace q297 := eq_true q297
      go_wp2_with (first | ((with_reducible refine gC 41 rfl ?_); refine gL 13 Tryd.func41 #[.string (rdOf ByteArray.empty l0 x7_1)] ?_; (with_reducible refine (impl_isDigest.calls (rdOf ByteArray.empty l0 x7_1) false _ A5.out).mono ?_); rintro e w15 ⟨rfl, hb⟩; refine ⟨_, rfl, ?_⟩; replace HB := sB zq5 hb; clear hb))
      go_ret; exact ⟨zq8, zq5⟩
     exact zq166
    exact zq164
   rw [if_neg c2] at H; have c2b0 := decide_eq_false c2; clear c2; obtain rfl := Option.some.inj H; go_wp2; go_ret; exact ⟨zq8, zq5⟩

/-! ### strings_HasPrefix: function 46 -/
def strings_HasPrefix.f (a0 : ByteArray) (a1 : ByteArray) : Option (Bool) := (stringslite_HasPrefix.f a0 a1).bind fun t300 => (some t300)
set_option maxHeartbeats 8000000 in
set_option maxRecDepth 100000 in
theorem strings_HasPrefix.calls (a0 : ByteArray) (a1 : ByteArray) (r : Bool) (w : World) (h : strings_HasPrefix.f a0 a1 = some r) :
  Calls Tryd.prog 46 #[.string a0, .string a1] w fun e w' => e = .returned (.bool r) ∧ Drawn0 w w' := by
 unfold strings_HasPrefix.f at h; have H := h; clear h; replace H := Option.bind_eq_some_iff.mp H; obtain ⟨t300, A30, H⟩ := H; replace H : (some t300) = some r := H; have A3 := aM A30; clear A30; obtain rfl := Option.some.inj H; go_enter Tryd.func46, Tryd.ntmps46
 go_wp2_with (first | ((with_reducible refine gC 68 rfl ?_); refine gL 7 Tryd.func68 #[.string a0, .string a1] ?_; (with_reducible refine (stringslite_HasPrefix.calls a0 a1 t300 _ A3.out).mono ?_); rintro e w' ⟨rfl, ⟨nd, rfl⟩⟩; refine ⟨_, rfl, ?_⟩))
 go_ret; exact ⟨zq1, zq2⟩

end Go.Proofs.YtoeomljkhabifaaDoor.QFnExactSteps
