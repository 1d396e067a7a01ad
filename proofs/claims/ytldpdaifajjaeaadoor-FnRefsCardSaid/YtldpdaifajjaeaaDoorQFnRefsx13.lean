/- Written by wip/myprint.py of this repo (the kit's print, with additions of this session). -/
import Derived.Test.YtldpdaifajjaeaaDoorQFnRefsx0
import Derived.Test.YtldpdaifajjaeaaDoorQFnRefsx10
import Derived.Test.YtldpdaifajjaeaaDoorQFnRefsx11
import Derived.Test.YtldpdaifajjaeaaDoorQFnRefsx12
set_option maxRecDepth 100000
namespace Go.Proofs.YtldpdaifajjaeaaDoor.QFnRefs
open Go.RowKit Go.Proofs.YtldpdaifajjaeaaDoorW.PrintWords Go.Proofs.YtldpdaifajjaeaaDoorW.PrintLast Go.Proofs.YtldpdaifajjaeaaDoorW.PrintMore
attribute [local go_sem] max2_int min2_int max_two min_two max_three min_three max_four min_four   -- for this text's walks alone
set_option linter.unusedVariables false
set_option linter.unusedSimpArgs false

/-! ### spec_Sum: function 97 -/
mutual
def spec_Sum.l0 : Nat → ByteArray → List Int → Option (List Int)
 | 0, _, _ => none
 | k + 1, x0, x3 => if ((x3.length : Int) % 64) = 56 then (spec_Sum.l1 k x3 (IntKind.u64.wrap ((IntKind.u64.wrap ((x0.size : Int))) * 8)) 7) else (if x3.length < 140737488355328 then (spec_Sum.l0 k x0 (x3 ++ [0])) else (none))
def spec_Sum.l1 : Nat → List Int → Int → Int → Option (List Int)
 | 0, _, _, _ => none
 | k + 1, x3, x4, x5 => if x5 ≥ 0 then (if 0 ≤ (IntKind.u64.wrap (wrap64 (8 * x5))) then (if x3.length < 140737488355328 then (spec_Sum.l1 k (x3 ++ [(shr .u64 x4 (IntKind.u64.wrap (wrap64 (8 * x5)))) % 256]) x4 (wrap64 (x5 - 1))) else (none)) else (none)) else ((spec_l1K.f).bind fun t266 => (spec_Sum.l2 k x3 t266 (([1779033703, 3144134277, 1013904242, 2773480762, 1359893119, 2600822924, 528734635, 1541459225] : List Int)) 0))
def spec_Sum.l2 : Nat → List Int → List Int → List Int → Int → Option (List Int)
 | 0, _, _, _, _ => none
 | k + 1, x3, x6, x7, x8 => if x8 < (x3.length : Int) then (if 0 ≤ x8 then (if x8 ≤ (wrap64 (x8 + 64)) then (if (wrap64 (x8 + 64)) ≤ (x3.length : Int) then ((spec_l1Block.f k x7 x6 ((x3.take ((wrap64 (x8 + 64)) : Int).toNat).drop (x8 : Int).toNat)).bind fun t276 => (spec_Sum.l2 k x3 x6 t276 (wrap64 (x8 + 64)))) else (none)) else (none)) else (none)) else (some x7)
end
def spec_Sum.f (k : Nat) (a0 : ByteArray) : Option (List Int) := if (a0.size : Int) ≤ 140737488351232 then ((some (bytesOf a0 : List Int)).bind fun y254 => (if y254.length < 140737488355328 then (spec_Sum.l0 k a0 (y254 ++ [128])) else (none))) else (none)
theorem spec_Sum.mono_l : ∀ k, (∀ y0 y1, LeO (spec_Sum.l0 k y0 y1) (spec_Sum.l0 (k + 1) y0 y1)) ∧ (∀ y0 y1 y2, LeO (spec_Sum.l1 k y0 y1 y2) (spec_Sum.l1 (k + 1) y0 y1 y2)) ∧ (∀ y0 y1 y2 y3, LeO (spec_Sum.l2 k y0 y1 y2 y3) (spec_Sum.l2 (k + 1) y0 y1 y2 y3))
 | 0 => ⟨fun _ _ r h => by simp [spec_Sum.l0] at h, fun _ _ _ r h => by simp [spec_Sum.l1] at h, fun _ _ _ _ r h => by simp [spec_Sum.l2] at h⟩
 | k + 1 => by
  obtain ⟨ih0, ih1, ih2⟩ := spec_Sum.mono_l k; refine ⟨?_, ?_, ?_⟩
  ·
   intro y0 y1; unfold spec_Sum.l0
   repeat' first
   | (with_reducible apply ih0)
   | (with_reducible apply ih1)
   | (with_reducible apply ih2)
   | (with_reducible apply spec_l1Block.mono)
   | (with_reducible exact LeO.refl _)
   | (with_reducible exact LeO.none _)
   | (with_reducible refine LeO.ite ?_ ?_)
   | (with_reducible refine LeO.bind ?_ (fun _ => ?_))
   | exact LeO.none _
   | refine LeO.ite ?_ ?_
   | refine LeO.bind ?_ (fun _ => ?_)
  ·
   intro y0 y1 y2; unfold spec_Sum.l1
   repeat' first
   | (with_reducible apply ih0)
   | (with_reducible apply ih1)
   | (with_reducible apply ih2)
   | (with_reducible apply spec_l1Block.mono)
   | (with_reducible exact LeO.refl _)
   | (with_reducible exact LeO.none _)
   | (with_reducible refine LeO.ite ?_ ?_)
   | (with_reducible refine LeO.bind ?_ (fun _ => ?_))
   | exact LeO.none _
   | refine LeO.ite ?_ ?_
   | refine LeO.bind ?_ (fun _ => ?_)
  intro y0 y1 y2 y3; unfold spec_Sum.l2
  repeat' first
  | (with_reducible apply ih0)
  | (with_reducible apply ih1)
  | (with_reducible apply ih2)
  | (with_reducible apply spec_l1Block.mono)
  | (with_reducible exact LeO.refl _)
  | (with_reducible exact LeO.none _)
  | (with_reducible refine LeO.ite ?_ ?_)
  | (with_reducible refine LeO.bind ?_ (fun _ => ?_))
  | exact LeO.none _
  | refine LeO.ite ?_ ?_
  | refine LeO.bind ?_ (fun _ => ?_)
theorem spec_Sum.mono : ∀ a0 k, LeO (spec_Sum.f k a0) (spec_Sum.f (k + 1) a0) := by
 intro a0 k; obtain ⟨ih0, ih1, ih2⟩ := spec_Sum.mono_l k; unfold spec_Sum.f
 repeat' first
   | (with_reducible apply ih0)
   | (with_reducible apply ih1)
   | (with_reducible apply ih2)
   | (with_reducible apply spec_l1Block.mono)
   | (with_reducible exact LeO.refl _)
   | (with_reducible exact LeO.none _)
   | (with_reducible refine LeO.ite ?_ ?_)
   | (with_reducible refine LeO.bind ?_ (fun _ => ?_))
   | exact LeO.none _
   | refine LeO.ite ?_ ?_
   | refine LeO.bind ?_ (fun _ => ?_)
set_option maxHeartbeats 8000000 in
set_option maxRecDepth 100000 in
theorem spec_Sum.calls (k : Nat) (a0 : ByteArray) (r : List Int) (w : World) (h : spec_Sum.f k a0 = some r) :
  Calls Tryd.prog 97 #[.string a0] w fun e w' => ∃ v0_ : Value, e = .returned (v0_) ∧ Kd.R (Kd.int .u32) 94 w' w.heap.size (fun _ => True) v0_ r ∧ Below w.heap.size w w' := by
 have HB := aM (Below.refl w.heap.size w); unfold spec_Sum.f at h; have H := h; clear h; by_cases c2 : (a0.size : Int) ≤ 140737488351232
 ·
  rw [if_pos c2] at H; have c2b0 := eq_true c2; have c2b1 := decide_eq_true c2; clear c2; obtain ⟨y254, hy254⟩ : ∃ y_ : List Int, y_ = (bytesOf a0) := ⟨_, rfl⟩; have hy_ := hy254; replace H : (if y254.length < 140737488355328 then (spec_Sum.l0 k a0 (y254 ++ [128])) else (none)) = some r := hyE; clear hy_; have Ny254 := aM hy254; clear hy254; by_cases c3 : y254.length < 140737488355328
  ·
   rw [if_pos c3] at H; have LMc3 := aM c3; clear c3; obtain ⟨y257, hy257⟩ : ∃ y_ : List Int, y_ = (y254 ++ [128]) := ⟨_, rfl⟩; have hy_ := hy257; replace H : (spec_Sum.l0 k a0 y257) = some r := hyE; clear hy_; have Ny257 := aM hy257; clear hy257; have H' := aM H; clear H; go_enter Tryd.func97, Tryd.ntmps97
   go_wp2_with (first | ((with_reducible refine gD 10 rfl ?_); refine Kd.R_bytes _ 5 rfl (N := 10) rfl 9 40 _ rfl a0 rfl Tryd.underlying9 Tryd.underlying40 Tryd.underlying5 rfl (ok := fun _ => True) trivial (of_decide_eq_true zq11) (Below.refl _ _) (Nat.le_refl _) ?_; intro v255 w4 ho5 hb hg_ hnew_; clear hg_ hnew_; (first | rw [← Ny254.out] at ho5 | (simp only [Int.reduceToNat] at ho5; rw [← Ny254.out] at ho5)); have HO256 := aM (Kd.R_lower ho5 (below_size zq2)); replace HB := sB zq2 hb; clear hb ho5) | ((with_reducible refine gate_builtin (b := .append) (xs := #[.tmp 10, .tmp 11]) rfl ?_); at_builtin; refine Kd.R_append (Kd.int .u8) (w0 := w) w.heap.size rfl (.tmp 10) (.tmp 11) 40 5 (.int .u8 0) 1 rfl Tryd.underlying40 info5 rfl (by decide) (by omega) v255 y254 128 [.int .u8 128] (fun _ => True) (fun _ => False) rfl rfl ?aP (fun _ hk => hk.elim) ?aF ?aO ?aB ?aS ?aL ?_; (case aP => exact rfl); (case aB => exact zq2); (case aF => exact zq35); (case aO => exact (by refine dR ?_; exact HO256.out)); (case aS => exact zq103); (case aL => have := LMc3.out; omega); intro v258 w6 ho hb hg hat; rw [← Ny257.out] at ho; have n0_ := aM (hb); have n1_ := aM (ho); clear HB; clear HO256; have HB := n0_; have HO259 := n1_; clear n0_ n1_; clear ho hb hg hat))
   go_loopg [3] k (fun kq v3 w' => ∃ (x3_1 : List Int), Aside0 (spec_Sum.l0 kq a0 x3_1 = some r) ∧ Aside0 (kq ≤ k) ∧ Aside0 (Kd.R (Kd.int .u8) 5 w' w.heap.size (fun _ => True) v3 x3_1) ∧ Aside0 (Below w.heap.size w w'))
   case atStart => exact ⟨(y257), H', ⟨Nat.le_refl _⟩, ⟨by refine dR ?_; exact HO259.out⟩, ⟨zq2⟩⟩
   case round =>
    clear H'; (try clear c2); (try clear c2b0); (try clear c2b1); (try clear p2); (try clear c3); obtain ⟨x3_1, HA, HK1, HO_3, HB⟩ := hrel
    cases gk with
    | zero => exact absurd HA.out (by simp [spec_Sum.l0])
    | succ k1 =>
     have H := HA.out; clear HA; simp only [spec_Sum.l0] at H; by_cases c7 : ((x3_1.length : Int) % 64) = 56
     ·
      rw [if_pos c7] at H; have c7b0 : (((x3_1.length : Int) % 64) == 56) = true := beq_iff_eq.mpr c7; have c7b1 : (((x3_1.length : Int) % 64) != 56) = false := bne_eq_false_iff_eq.mpr c7; clear c7; have H' := aM H; clear H; obtain ⟨Ao8, co8, eo8⟩ := Kd.R_slice HO_3.out; subst eo8; go_wp2
      go_loopg [3, 5] k1 (fun kq v3 v5 w' => ∃ (x3_2 : List Int) (x5_2 : Int), v5 = .int .i64 x5_2 ∧ Aside0 (spec_Sum.l1 kq x3_2 (IntKind.u64.wrap ((IntKind.u64.wrap ((a0.size : Int))) * 8)) x5_2 = some r) ∧ Aside0 (kq ≤ k1) ∧ Aside0 (Kd.R (Kd.int .u8) 5 w' w.heap.size (fun _ => True) v3 x3_2) ∧ Aside0 (Below w.heap.size w w'))
      case atStart => exact ⟨(x3_1), (7), zq6, H', ⟨Nat.le_refl _⟩, ⟨zq36⟩, ⟨zq2⟩⟩
      case round =>
       clear H'; (try clear c2); (try clear c2b0); (try clear c2b1); (try clear p2); (try clear c3); (try clear c7); (try clear c7b0); (try clear c7b1); (try clear p2); obtain ⟨x3_2, x5_2, rfl, HA, HK2, HO_3, HB⟩ := hrel
       cases gk with
       | zero => exact absurd HA.out (by simp [spec_Sum.l1])
       | succ k2 =>
        have H := HA.out; clear HA; simp only [spec_Sum.l1] at H; by_cases c9 : x5_2 ≥ 0
        ·
         rw [if_pos c9] at H; have c9b0 : decide (0 ≤ x5_2) = true := decide_eq_true c9; clear c9; obtain ⟨ji10, hji10⟩ : ∃ j_ : Int, (IntKind.u64.wrap (wrap64 (8 * x5_2))) = j_ := ⟨_, rfl⟩; replace H : (if 0 ≤ (ji10) then (if x3_2.length < 140737488355328 then (spec_Sum.l1 k2 (x3_2 ++ [(shr .u64 (IntKind.u64.wrap ((IntKind.u64.wrap ((a0.size : Int))) * 8)) (ji10)) % 256]) (IntKind.u64.wrap ((IntKind.u64.wrap ((a0.size : Int))) * 8)) (wrap64 (x5_2 - 1))) else (none)) else (none)) = some r := by first | (rw [hji10] at H; exact H) | (simp only [hji10] at H ⊢; exact H)
         by_cases c11 : 0 ≤ (ji10)
         ·
          rw [if_pos c11] at H; have c11b0 := eq_true c11; have c11b1 := decide_eq_true c11; clear c11; obtain ⟨ji12, hji12⟩ : ∃ j_ : Int, (shr .u64 (IntKind.u64.wrap ((IntKind.u64.wrap ((a0.size : Int))) * 8)) (ji10)) = j_ := ⟨_, rfl⟩; replace H : (if x3_2.length < 140737488355328 then (spec_Sum.l1 k2 (x3_2 ++ [(ji12) % 256]) (IntKind.u64.wrap ((IntKind.u64.wrap ((a0.size : Int))) * 8)) (wrap64 (x5_2 - 1))) else (none)) = some r := by first | (rw [hji12] at H; exact H) | (simp only [hji12] at H ⊢; exact H)
          have hji12_ : ((IntKind.u64.wrap ((IntKind.u64.wrap ((a0.size : Int))) * 8)) / 2 ^ min (ji10).toNat 64) = ji12 := hji12; have hji12z : (ji10) ≤ 64 → ((IntKind.u64.wrap ((IntKind.u64.wrap ((a0.size : Int))) * 8)) / 2 ^ (ji10).toNat) = ji12 := shr_small hji12; by_cases c13 : x3_2.length < 140737488355328
          ·
           rw [if_pos c13] at H; have LMc13 := aM c13; clear c13; obtain ⟨y263, hy263⟩ : ∃ y_ : List Int, y_ = (x3_2 ++ [(ji12) % 256]) := ⟨_, rfl⟩; have hy_ := hy263; replace H : (spec_Sum.l1 k2 y263 (IntKind.u64.wrap ((IntKind.u64.wrap ((a0.size : Int))) * 8)) (wrap64 (x5_2 - 1))) = some r := hyE; clear hy_; have Ny263 := aM hy263; clear hy263; have H' := aM H; clear H
           go_wp2_with (first | ((with_reducible refine gate_builtin (b := .append) (xs := #[.tmp 28, .tmp 35]) rfl ?_); at_builtin; refine Kd.R_append (Kd.int .u8) (w0 := w) w.heap.size rfl (.tmp 28) (.tmp 35) 40 5 (.int .u8 0) 1 rfl Tryd.underlying40 info5 rfl (by decide) (by omega) u3 x3_2 ((ji12) % 256) [.int .u8 ((ji12) % 256)] (fun _ => True) (fun _ => False) rfl rfl ?aP (fun _ hk => hk.elim) ?aF ?aO ?aB ?aS ?aL ?_; (case aP => exact rfl); (case aB => exact zq2); (case aF => exact zq35); (case aO => exact zq36); (case aS => exact zq103); (case aL => have := LMc13.out; omega); intro v264 w14 ho hb hg hat; rw [← Ny263.out] at ho; have n0_ := aM (hb); have n1_ := aM (ho); clear HB; clear HO_3; have HB := n0_; have HO265 := n1_; clear n0_ n1_; clear ho hb hg hat))
           go_roundg k2
           case measure => have := HK1.out; have := HK2.out; omega
           case rel => exact ⟨(y263), (wrap64 (x5_2 - 1)), zq6, H', ⟨by have := HK1.out; have := HK2.out; omega⟩, ⟨by refine dR ?_; exact HO265.out⟩, ⟨zq2⟩⟩
          exact zq135
         exact zq136
        rw [if_neg c9] at H; have c9b0 : decide (0 ≤ x5_2) = false := decide_eq_false c9; clear c9; replace H := Option.bind_eq_some_iff.mp H; obtain ⟨t266, A150, H⟩ := H; (try dsimp only at H); have A15 := aM A150; clear A150; obtain ⟨y269, hy269⟩ : ∃ y_ : List Int, y_ = (([1779033703, 3144134277, 1013904242, 2773480762, 1359893119, 2600822924, 528734635, 1541459225] : List Int)) := ⟨_, rfl⟩; have hy_ := hy269; replace H : (spec_Sum.l2 k2 x3_2 t266 y269 0) = some r := hyE; clear hy_; have Ny269 := aM hy269; clear hy269; have H' := aM H; clear H
        go_wp2_with (first | ((with_reducible refine gC 105 rfl ?_); refine gL 37 Tryd.func105 #[] ?_; (with_reducible refine (spec_l1K.calls  t266 _ A15.out).mono ?_); rintro e w16 ⟨v267, rfl, ho0, hb⟩; refine ⟨_, rfl, ?_⟩; replace HO_3 := rG HO_3 hb; have HO268 := aM (Kd.R_lower ho0 (below_size zq2)); replace HB := sB zq2 hb; clear hb; (try clear ho0)) | ((with_reducible refine gD 38 rfl ?_); refine Kd.R_lit (Kd.int .u32) _ 94 ?hg (N := 38) ?hd (xs := ([1779033703, 3144134277, 1013904242, 2773480762, 1359893119, 2600822924, 528734635, 1541459225] : List Int)) (inner := [.int .u32 1779033703, .int .u32 3144134277, .int .u32 1013904242, .int .u32 2773480762, .int .u32 1359893119, .int .u32 2600822924, .int .u32 528734635, .int .u32 1541459225]) (ok := fun _ => True) (okp := fun _ => True) ?hr ?hp (fun _ hk => hk) trivial (Below.refl _ _) (Nat.le_refl _) (by simp) ?_; (case hd => rfl); (case hg => rfl); (case hr => exact zq25); (case hp => exact (Reps.one (show Kd.M (Kd.int .u32) _ _ _ 1779033703 [.int .u32 1779033703] from rfl) (Reps.one (show Kd.M (Kd.int .u32) _ _ _ 3144134277 [.int .u32 3144134277] from rfl) (Reps.one (show Kd.M (Kd.int .u32) _ _ _ 1013904242 [.int .u32 1013904242] from rfl) (Reps.one (show Kd.M (Kd.int .u32) _ _ _ 2773480762 [.int .u32 2773480762] from rfl) (Reps.one (show Kd.M (Kd.int .u32) _ _ _ 1359893119 [.int .u32 1359893119] from rfl) (Reps.one (show Kd.M (Kd.int .u32) _ _ _ 2600822924 [.int .u32 2600822924] from rfl) (Reps.one (show Kd.M (Kd.int .u32) _ _ _ 528734635 [.int .u32 528734635] from rfl) (Reps.one (show Kd.M (Kd.int .u32) _ _ _ 1541459225 [.int .u32 1541459225] from rfl) (Reps.none _ _)))))))))); intro v270 w17 ho18 hb hg_ hnew_; clear hg_ hnew_; (first | rw [← Ny269.out] at ho18 | (simp only [Int.reduceToNat] at ho18; rw [← Ny269.out] at ho18)); replace HO_3 := rG HO_3 hb; have HO271 := aM (Kd.R_lower (Kd.R_new' ho18 (Kd.R_lt zq37)) (below_size zq2)); replace HO268 := aM (Kd.R_elder' zq37 (Kd.R_base ho18) hb); replace HB := sB zq2 hb; clear hb ho18))
        go_loopg [7, 8] k2 (fun kq v7 v8 w' => ∃ (x7_3 : List Int) (x8_3 : Int), v8 = .int .i64 x8_3 ∧ Aside0 (spec_Sum.l2 kq x3_2 t266 x7_3 x8_3 = some r) ∧ Aside0 (kq ≤ k2) ∧ Aside0 (Kd.R (Kd.int .u8) 5 w' w.heap.size (fun _ => True) u3 x3_2) ∧ Aside0 (Kd.R (Kd.int .u32) 94 w' w.heap.size (fun k_ => some k_ ≠ (v7 : Value).ownBlock) v267 t266) ∧ Aside0 (Kd.R (Kd.int .u32) 94 w' w.heap.size (fun k_ => some k_ ≠ (v267 : Value).ownBlock) v7 x7_3) ∧ Aside0 (Below w.heap.size w w'))
        case atStart => exact ⟨(y269), (0), zq6, H', ⟨Nat.le_refl _⟩, ⟨zq36⟩, ⟨by refine dR ?_; first | exact Kd.R_mono HO268.out (fun _ hk => hk.2) | (have h_ := Kd.R_mono HO268.out (fun _ hk => hk.2); simp only [Int.emod_add_emod, Int.add_emod_emod] at h_ ⊢; exact h_)⟩, ⟨by refine dR ?_; first | exact Kd.R_mono HO271.out (fun _ hk => hk.2) | (have h_ := Kd.R_mono HO271.out (fun _ hk => hk.2); simp only [Int.emod_add_emod, Int.add_emod_emod] at h_ ⊢; exact h_)⟩, ⟨zq2⟩⟩
        case round =>
         clear H'; (try clear c1); (try clear c2); (try clear c2b0); (try clear c2b1); (try clear p2); (try clear c3); (try clear p6); (try clear c7); (try clear c7b0); (try clear c7b1); (try clear c9); (try clear c9b0); (try clear c10); (try clear c11); (try clear c11b0); (try clear c11b1); (try clear c13); (try clear p2); obtain ⟨x7_3, x8_3, rfl, HA, HK3, HO_3, HO_6, HO_7, HB⟩ := hrel
         cases gk with
         | zero => exact absurd HA.out (by simp [spec_Sum.l2])
         | succ k3 =>
          have H := HA.out; clear HA; simp only [spec_Sum.l2] at H; by_cases c19 : x8_3 < (x3_2.length : Int)
          ·
           rw [if_pos c19] at H; have c19b0 := decide_eq_true c19; clear c19; by_cases c20 : 0 ≤ x8_3
           ·
            rw [if_pos c20] at H; have c20b0 := eq_true c20; have c20b1 := decide_eq_true c20; clear c20; by_cases c21 : x8_3 ≤ (wrap64 (x8_3 + 64))
            ·
             rw [if_pos c21] at H; have c21b0 := eq_true c21; have c21b1 := decide_eq_true c21; by_cases c22 : (wrap64 (x8_3 + 64)) ≤ (x3_2.length : Int)
             ·
              rw [if_pos c22] at H; have c22b0 := eq_true c22; have c22b1 := decide_eq_true c22; obtain ⟨y272, hy272⟩ : ∃ y_ : List Int, y_ = ((x3_2.take ((wrap64 (x8_3 + 64)) : Int).toNat).drop (x8_3 : Int).toNat) := ⟨_, rfl⟩; have hy_ := hy272; replace H : ((spec_l1Block.f k3 x7_3 t266 y272).bind fun t276 => (spec_Sum.l2 k3 x3_2 t266 t276 (wrap64 (x8_3 + 64)))) = some r := hyE; clear hy_; have Ny272 := aM hy272; clear hy272; replace H := Option.bind_eq_some_iff.mp H; obtain ⟨t276, A230, H⟩ := H; (try dsimp only at H); have A23 := aM A230; clear A230; have H' := aM H; clear H; obtain ⟨Ao24, co24, eo24⟩ := Kd.R_slice HO_3.out; subst eo24; have q25 : ((wrap64 (x8_3 + 64)) : Int) ≤ ((x3_2.length : Int) : Int) := of_decide_eq_true zq11; obtain ⟨i025, hi025, _, hsz25, _⟩ := info_parts info5; have hroom25 : x3_2.length ≤ co24 := (Kd.R_reads' HO_3.out).2.1; have hC25 : Kd.C (Kd.int .u8) _ Ao24 x3_2.length x3_2 := (Kd.R_reads' HO_3.out).2.2; have ql25 : (x8_3 : Int) ≤ ((wrap64 (x8_3 + 64)) : Int) := of_decide_eq_true zq11; have q025 : (0 : Int) ≤ (x8_3 : Int) := of_decide_eq_true zq11; have hcut25 := cut_mid (P := Tryd.prog) 40 5 .i64 .i64 Tryd.underlying40 hi025 1 hsz25 Ao24 x3_2.length co24 x8_3 (wrap64 (x8_3 + 64)) q025 ql25 q25 hroom25; have hr25 := Kd.C_mid (lo := (x8_3 : Int).toNat) (hi := ((wrap64 (x8_3 + 64)) : Int).toNat) (c := co24) hC25 (by omega) (by omega) hroom25
              obtain ⟨A25, hA25⟩ : ∃ A1, A1 = (if co24 = (x8_3 : Int).toNat then Ao24 else (Ao24 : Option Addr).map (·.add ((x8_3 : Int).toNat * 1))) := ⟨_, rfl⟩; obtain ⟨c25, hc25⟩ : ∃ c1, c1 = co24 - (x8_3 : Int).toNat := ⟨_, rfl⟩; have hy25 : y272.length = ((wrap64 (x8_3 + 64)) : Int).toNat - (x8_3 : Int).toNat := (by rw [Ny272.out, List.length_drop, List.length_take] <;> omega); rw [show ((x3_2).take ((wrap64 (x8_3 + 64)) : Int).toNat).drop (x8_3 : Int).toNat = y272 from Ny272.out.symm] at hr25; replace hr25 : Kd.C (Kd.int .u8) _ A25 y272.length y272 := (by rw [hA25]; exact hr25); rw [← hy25, ← hA25, ← hc25] at hcut25; have HR275 := aM hr25; have HC275 := aM (show y272.length ≤ c25 from by rw [hy25, hc25]; exact Nat.sub_le_sub_right (Nat.le_trans (by omega) hroom25) _); clear hr25 hC25 hroom25 hi025 hsz25 hc25; have KY25 := aM hy25; have KA25 := aM hA25; clear hy25 hA25; have KL25 := aM (show ((wrap64 (x8_3 + 64)) : Int).toNat ≤ x3_2.length from by omega); have KM25 := aM (show (x8_3 : Int).toNat ≤ ((wrap64 (x8_3 + 64)) : Int).toNat from by omega); replace q25 := eq_true q25; obtain ⟨Ao26, co26, eo26⟩ := Kd.R_slice HO_7.out; subst eo26; obtain ⟨Ao27, co27, eo27⟩ := Kd.R_slice HO_6.out; subst eo27
              go_wp2_with (first | ((with_reducible refine gC 106 rfl ?_); refine gL 52 Tryd.func106 #[.slice Ao26 x7_3.length co26, .slice Ao27 t266.length co27, .slice A25 y272.length c25] ?_; (with_reducible refine (spec_l1Block.calls k3 _ _ x7_3 _ _ t266 _ _ y272 t276 _ ?side1 ?_ ?side3 ?_ ?side5 ?_ A23.out).mono ?_); (case side1 => repeat (first | exact (Kd.R_reads' HO_7.out).2.2 | (with_reducible refine Kd.C_alloc ?_ _) | (with_reducible refine Kd.C_drewN ?_ _) | (with_reducible refine Kd.C_drew ?_))); exact (Kd.R_reads' HO_7.out).2.1; (case side3 => repeat (first | exact (Kd.R_reads' HO_6.out).2.2 | (with_reducible refine Kd.C_alloc ?_ _) | (with_reducible refine Kd.C_drewN ?_ _) | (with_reducible refine Kd.C_drew ?_))); exact (Kd.R_reads' HO_6.out).2.1; (case side5 => repeat (first | exact zq38 | (with_reducible refine Kd.C_alloc ?_ _) | (with_reducible refine Kd.C_drewN ?_ _) | (with_reducible refine Kd.C_drew ?_))); exact HC275.out; rintro e w28 ⟨v277, rfl, ho0, hb⟩; refine ⟨_, rfl, ?_⟩; replace HO_3 := rG HO_3 hb; have HO278 := aM (Kd.R_lower (Kd.R_new' (Kd.R_new' ho0 (Kd.R_lt zq39)) (Kd.R_lt zq28)) (below_size zq2)); replace HO_6 := aM (Kd.R_elder' zq39 (Kd.R_base ho0) hb); replace HO_7 := aM (Kd.R_elder' zq28 (Kd.R_base ho0) hb); replace HR275 := aM (Kd.C_below zq38 hb); replace HB := sB zq2 hb; clear hb; (try clear ho0)))
              go_roundg k3
              case measure => have := HK1.out; have := HK2.out; have := HK3.out; omega
              case rel => exact ⟨(t276), (wrap64 (x8_3 + 64)), zq6, H', ⟨by have := HK1.out; have := HK2.out; have := HK3.out; omega⟩, ⟨zq36⟩, ⟨by refine dR ?_; first | exact Kd.R_mono HO_6.out (fun _ hk => hk.2) | (have h_ := Kd.R_mono HO_6.out (fun _ hk => hk.2); simp only [Int.emod_add_emod, Int.add_emod_emod] at h_ ⊢; exact h_)⟩, ⟨by refine dR ?_; first | exact Kd.R_mono HO278.out (fun _ hk => hk.1.2) | (have h_ := Kd.R_mono HO278.out (fun _ hk => hk.1.2); simp only [Int.emod_add_emod, Int.add_emod_emod] at h_ ⊢; exact h_)⟩, ⟨zq2⟩⟩
             exact zq124
            rw [if_neg c21] at H; exact absurd H (by simp)
           rw [if_neg c20] at H; exact absurd H (by simp)
          rw [if_neg c19] at H; have c19b0 := decide_eq_false c19; clear c19; obtain rfl := Option.some.inj H; obtain ⟨Ao29, co29, eo29⟩ := Kd.R_slice HO_3.out; subst eo29; go_wp2; go_ret; exact ⟨_, zq19, by refine dR ?_; first | exact Kd.R_mono HO_7.out (fun _ hk => trivial) | (have h_ := Kd.R_mono HO_7.out (fun _ hk => trivial); simp only [Int.emod_add_emod, Int.add_emod_emod] at h_ ⊢; exact h_), zq2⟩
     rw [if_neg c7] at H; have c7b0 : (((x3_1.length : Int) % 64) == 56) = false := beq_eq_false_iff_ne.mpr c7; have c7b1 : (((x3_1.length : Int) % 64) != 56) = true := bne_iff_ne.mpr c7; by_cases c30 : x3_1.length < 140737488355328
     ·
      rw [if_pos c30] at H; have LMc30 := aM c30; clear c30; obtain ⟨y260, hy260⟩ : ∃ y_ : List Int, y_ = (x3_1 ++ [0]) := ⟨_, rfl⟩; have hy_ := hy260; replace H : (spec_Sum.l0 k1 a0 y260) = some r := hyE; clear hy_; have Ny260 := aM hy260; clear hy260; have H' := aM H; clear H; obtain ⟨Ao31, co31, eo31⟩ := Kd.R_slice HO_3.out; subst eo31
      go_wp2_with (first | ((with_reducible refine gate_builtin (b := .append) (xs := #[.tmp 17, .tmp 18]) rfl ?_); at_builtin; refine Kd.R_append (Kd.int .u8) (w0 := w) w.heap.size rfl (.tmp 17) (.tmp 18) 40 5 (.int .u8 0) 1 rfl Tryd.underlying40 info5 rfl (by decide) (by omega) (.slice Ao31 x3_1.length co31) x3_1 0 [.int .u8 0] (fun _ => True) (fun _ => False) rfl rfl ?aP (fun _ hk => hk.elim) ?aF ?aO ?aB ?aS ?aL ?_; (case aP => exact rfl); (case aB => exact zq2); (case aF => exact zq35); (case aO => exact zq36); (case aS => exact zq103); (case aL => have := LMc30.out; omega); intro v261 w32 ho hb hg hat; rw [← Ny260.out] at ho; have n0_ := aM (hb); have n1_ := aM (ho); clear HB; clear HO_3; have HB := n0_; have HO262 := n1_; clear n0_ n1_; clear ho hb hg hat))
      go_roundg k1
      case measure => have := HK1.out; omega
      case rel => exact ⟨(y260), H', ⟨zq26⟩, ⟨by refine dR ?_; exact HO262.out⟩, ⟨zq2⟩⟩
     rw [if_neg c30] at H; exact absurd H (by simp)
  exact zq130
 rw [if_neg c2] at H; exact absurd H (by simp)

/-! ### spec_l1Hex: function 98 -/
def spec_l1Hex.l0 : Nat → Int → List Int → Int → Option (ByteArray)
 | 0, _, _, _ => none
 | k + 1, x0, x3, x4 => if x4 ≥ 0 then (if 0 ≤ (IntKind.u64.wrap (wrap64 (4 * x4))) then (if 0 ≤ (Go.bits .and .u32 (shr .u32 x0 (IntKind.u64.wrap (wrap64 (4 * x4)))) 15) then (if (Go.bits .and .u32 (shr .u32 x0 (IntKind.u64.wrap (wrap64 (4 * x4)))) 15) < 16 then (if x3.length < 140737488355328 then (spec_l1Hex.l0 k x0 (x3 ++ [bt (⟨#[48, 49, 50, 51, 52, 53, 54, 55, 56, 57, 97, 98, 99, 100, 101, 102]⟩ : ByteArray) (Go.bits .and .u32 (shr .u32 x0 (IntKind.u64.wrap (wrap64 (4 * x4)))) 15)]) (wrap64 (x4 - 1))) else (none)) else (none)) else (none)) else (none)) else (some (strOfNums x3))
def spec_l1Hex.f (k : Nat) (a0 : Int) : Option (ByteArray) := spec_l1Hex.l0 k a0 (([] : List Int)) 7
theorem spec_l1Hex.mono_l : ∀ k, (∀ y0 y1 y2, LeO (spec_l1Hex.l0 k y0 y1 y2) (spec_l1Hex.l0 (k + 1) y0 y1 y2))
 | 0 => fun _ _ _ r h => by simp [spec_l1Hex.l0] at h
 | k + 1 => by
  have ih0 := spec_l1Hex.mono_l k
  ·
   intro y0 y1 y2; unfold spec_l1Hex.l0
   repeat' first
   | (with_reducible apply ih0)
   | (with_reducible exact LeO.refl _)
   | (with_reducible exact LeO.none _)
   | (with_reducible refine LeO.ite ?_ ?_)
   | (with_reducible refine LeO.bind ?_ (fun _ => ?_))
   | exact LeO.none _
   | refine LeO.ite ?_ ?_
   | refine LeO.bind ?_ (fun _ => ?_)
theorem spec_l1Hex.mono : ∀ a0 k, LeO (spec_l1Hex.f k a0) (spec_l1Hex.f (k + 1) a0) := by
 intro a0 k; have ih0 := spec_l1Hex.mono_l k; unfold spec_l1Hex.f
 repeat' first
   | (with_reducible apply ih0)
   | (with_reducible exact LeO.refl _)
   | (with_reducible exact LeO.none _)
   | (with_reducible refine LeO.ite ?_ ?_)
   | (with_reducible refine LeO.bind ?_ (fun _ => ?_))
   | exact LeO.none _
   | refine LeO.ite ?_ ?_
   | refine LeO.bind ?_ (fun _ => ?_)
set_option maxHeartbeats 8000000 in
set_option maxRecDepth 100000 in
theorem spec_l1Hex.calls (k : Nat) (a0 : Int) (r : ByteArray) (w : World) (h : spec_l1Hex.f k a0 = some r) :
  Calls Tryd.prog 98 #[.int .u32 a0] w fun e w' => e = .returned (.string r) ∧ Below w.heap.size w w' := by
 have HB := aM (Below.refl w.heap.size w); unfold spec_l1Hex.f at h; have H := h; clear h; obtain ⟨y279, hy279⟩ : ∃ y_ : List Int, y_ = (([] : List Int)) := ⟨_, rfl⟩; have hy_ := hy279; replace H : (spec_l1Hex.l0 k a0 y279 7) = some r := hyE; clear hy_; have Ny279 := aM hy279; clear hy279; have H' := aM H; clear H; go_enter Tryd.func98, Tryd.ntmps98
 go_wp2_with (first | ((with_reducible refine gD 5 rfl ?_); refine Kd.R_lit (Kd.int .u8) _ 5 ?hg (N := 5) ?hd (xs := ([] : List Int)) (inner := []) (ok := fun _ => True) (okp := fun _ => True) ?hr ?hp (fun _ hk => hk) trivial (Below.refl _ _) (Nat.le_refl _) (by simp) ?_; (case hd => rfl); (case hg => rfl); (case hr => exact zq1); (case hp => exact zq30); intro v280 w2 ho3 hb hg_ hnew_; clear hg_ hnew_; (first | rw [← Ny279.out] at ho3 | (simp only [Int.reduceToNat] at ho3; rw [← Ny279.out] at ho3)); have HO281 := aM (Kd.R_lower ho3 (below_size zq2)); replace HB := sB zq2 hb; clear hb ho3))
 go_loopg [3, 4] k (fun kq v3 v4 w' => ∃ (x3_1 : List Int) (x4_1 : Int), v4 = .int .i64 x4_1 ∧ Aside0 (spec_l1Hex.l0 kq a0 x3_1 x4_1 = some r) ∧ Aside0 (kq ≤ k) ∧ Aside0 (Kd.R (Kd.int .u8) 5 w' w.heap.size (fun _ => True) v3 x3_1) ∧ Aside0 (Below w.heap.size w w'))
 case atStart => exact ⟨(y279), (7), zq6, H', ⟨Nat.le_refl _⟩, ⟨by refine dR ?_; exact HO281.out⟩, ⟨zq2⟩⟩
 case round =>
  clear H'; (try clear p2); obtain ⟨x3_1, x4_1, rfl, HA, HK1, HO_3, HB⟩ := hrel
  cases gk with
  | zero => exact absurd HA.out (by simp [spec_l1Hex.l0])
  | succ k1 =>
   have H := HA.out; clear HA; simp only [spec_l1Hex.l0] at H; by_cases c4 : x4_1 ≥ 0
   ·
    rw [if_pos c4] at H; have c4b0 : decide (0 ≤ x4_1) = true := decide_eq_true c4; clear c4; obtain ⟨ji5, hji5⟩ : ∃ j_ : Int, (IntKind.u64.wrap (wrap64 (4 * x4_1))) = j_ := ⟨_, rfl⟩; replace H : (if 0 ≤ (ji5) then (if 0 ≤ (Go.bits .and .u32 (shr .u32 a0 (ji5)) 15) then (if (Go.bits .and .u32 (shr .u32 a0 (ji5)) 15) < 16 then (if x3_1.length < 140737488355328 then (spec_l1Hex.l0 k1 a0 (x3_1 ++ [bt (⟨#[48, 49, 50, 51, 52, 53, 54, 55, 56, 57, 97, 98, 99, 100, 101, 102]⟩ : ByteArray) (Go.bits .and .u32 (shr .u32 a0 (ji5)) 15)]) (wrap64 (x4_1 - 1))) else (none)) else (none)) else (none)) else (none)) = some r := by first | (rw [hji5] at H; exact H) | (simp only [hji5] at H ⊢; exact H)
    by_cases c6 : 0 ≤ (ji5)
    ·
     rw [if_pos c6] at H; have c6b0 := eq_true c6; have c6b1 := decide_eq_true c6; clear c6; obtain ⟨ji7, hji7⟩ : ∃ j_ : Int, (shr .u32 a0 (ji5)) = j_ := ⟨_, rfl⟩; replace H : (if 0 ≤ (Go.bits .and .u32 (ji7) 15) then (if (Go.bits .and .u32 (ji7) 15) < 16 then (if x3_1.length < 140737488355328 then (spec_l1Hex.l0 k1 a0 (x3_1 ++ [bt (⟨#[48, 49, 50, 51, 52, 53, 54, 55, 56, 57, 97, 98, 99, 100, 101, 102]⟩ : ByteArray) (Go.bits .and .u32 (ji7) 15)]) (wrap64 (x4_1 - 1))) else (none)) else (none)) else (none)) = some r := by first | (rw [hji7] at H; exact H) | (simp only [hji7] at H ⊢; exact H)
     have hji7_ : (a0 / 2 ^ min (ji5).toNat 32) = ji7 := hji7; have hji7z : (ji5) ≤ 32 → (a0 / 2 ^ (ji5).toNat) = ji7 := shr_small hji7; by_cases c8 : 0 ≤ (Go.bits .and .u32 (ji7) 15)
     ·
      rw [if_pos c8] at H; have c8b0 := decide_eq_true c8; clear c8; by_cases c9 : (Go.bits .and .u32 (ji7) 15) < 16
      ·
       rw [if_pos c9] at H; have c9b0 := decide_eq_true c9; clear c9; by_cases c11 : x3_1.length < 140737488355328
       ·
        rw [if_pos c11] at H; have LMc11 := aM c11; clear c11; obtain ⟨y282, hy282⟩ : ∃ y_ : List Int, y_ = (x3_1 ++ [bt (⟨#[48, 49, 50, 51, 52, 53, 54, 55, 56, 57, 97, 98, 99, 100, 101, 102]⟩ : ByteArray) (Go.bits .and .u32 (ji7) 15)]) := ⟨_, rfl⟩; have hy_ := hy282; replace H : (spec_l1Hex.l0 k1 a0 y282 (wrap64 (x4_1 - 1))) = some r := hyE; clear hy_; have Ny282 := aM hy282; clear hy282; have H' := aM H; clear H; have p10 : 0 ≤ ((Go.bits .and .u32 (ji7) 15) : Int) := of_decide_eq_true zq11; have q10 : (Go.bits .and .u32 (ji7) 15) < (16 : Int) := of_decide_eq_true zq11; have hx10 := bt_at (⟨#[48, 49, 50, 51, 52, 53, 54, 55, 56, 57, 97, 98, 99, 100, 101, 102]⟩ : ByteArray) (Go.bits .and .u32 (ji7) 15); replace p10 := eq_true p10; replace q10 := eq_true q10
        go_wp2_with (first | ((with_reducible refine gate_builtin (b := .append) (xs := #[.tmp 10, .tmp 18]) rfl ?_); at_builtin; refine Kd.R_append (Kd.int .u8) (w0 := w) w.heap.size rfl (.tmp 10) (.tmp 18) 40 5 (.int .u8 0) 1 rfl Tryd.underlying40 info5 rfl (by decide) (by omega) u3 x3_1 (bt (⟨#[48, 49, 50, 51, 52, 53, 54, 55, 56, 57, 97, 98, 99, 100, 101, 102]⟩ : ByteArray) (Go.bits .and .u32 (ji7) 15)) [.int .u8 (bt (⟨#[48, 49, 50, 51, 52, 53, 54, 55, 56, 57, 97, 98, 99, 100, 101, 102]⟩ : ByteArray) (Go.bits .and .u32 (ji7) 15))] (fun _ => True) (fun _ => False) rfl rfl ?aP (fun _ hk => hk.elim) ?aF ?aO ?aB ?aS ?aL ?_; (case aP => exact rfl); (case aB => exact zq2); (case aF => exact zq35); (case aO => exact zq36); (case aS => exact zq103); (case aL => have := LMc11.out; omega); intro v283 w12 ho hb hg hat; rw [← Ny282.out] at ho; have n0_ := aM (hb); have n1_ := aM (ho); clear HB; clear HO_3; have HB := n0_; have HO284 := n1_; clear n0_ n1_; clear ho hb hg hat))
        go_roundg k1
        case measure => have := HK1.out; omega
        case rel => exact ⟨(y282), (wrap64 (x4_1 - 1)), zq6, H', ⟨zq26⟩, ⟨by refine dR ?_; exact HO284.out⟩, ⟨zq2⟩⟩
       exact zq136
      exact zq140
     exact zq125
    exact zq127
   rw [if_neg c4] at H; have c4b0 : decide (0 ≤ x4_1) = false := decide_eq_false c4; clear c4; obtain rfl := Option.some.inj H; have hcv13 := own_string (P := Tryd.prog) Tryd.underlying40 Tryd.underlying5 Tryd.underlying9 (Kd.own_of_R HO_3.out); go_wp2; go_ret; exact ⟨zq19, zq2⟩

/-! ### spec_Digest: function 84 -/
def spec_Digest.l0 : Nat → List Int → ByteArray → Int → Option (ByteArray)
 | 0, _, _, _ => none
 | k + 1, x3, x4, x5 => if x5 < 8 then (if 0 ≤ x5 then (if x5 < (x3.length : Int) then ((spec_l1Hex.f k (rd x3 x5)).bind fun t289 => (if x4.size + t289.size ≤ 9223372036854775807 then (spec_Digest.l0 k x3 (x4 ++ t289) (wrap64 (x5 + 1))) else (none))) else (none)) else (none)) else (some x4)
def spec_Digest.f (k : Nat) (a0 : ByteArray) : Option (ByteArray) := (spec_Sum.f k a0).bind fun t285 => (spec_Digest.l0 k t285 (⟨#[115, 104, 97, 50, 53, 54, 58]⟩ : ByteArray) 0)
theorem spec_Digest.mono_l : ∀ k, (∀ y0 y1 y2, LeO (spec_Digest.l0 k y0 y1 y2) (spec_Digest.l0 (k + 1) y0 y1 y2))
 | 0 => fun _ _ _ r h => by simp [spec_Digest.l0] at h
 | k + 1 => by
  have ih0 := spec_Digest.mono_l k
  ·
   intro y0 y1 y2; unfold spec_Digest.l0
   repeat' first
   | (with_reducible apply ih0)
   | (with_reducible apply spec_Sum.mono)
   | (with_reducible apply spec_l1Hex.mono)
   | (with_reducible exact LeO.refl _)
   | (with_reducible exact LeO.none _)
   | (with_reducible refine LeO.ite ?_ ?_)
   | (with_reducible refine LeO.bind ?_ (fun _ => ?_))
   | exact LeO.none _
   | refine LeO.ite ?_ ?_
   | refine LeO.bind ?_ (fun _ => ?_)
theorem spec_Digest.mono : ∀ a0 k, LeO (spec_Digest.f k a0) (spec_Digest.f (k + 1) a0) := by
 intro a0 k; have ih0 := spec_Digest.mono_l k; unfold spec_Digest.f
 repeat' first
   | (with_reducible apply ih0)
   | (with_reducible apply spec_Sum.mono)
   | (with_reducible apply spec_l1Hex.mono)
   | (with_reducible exact LeO.refl _)
   | (with_reducible exact LeO.none _)
   | (with_reducible refine LeO.ite ?_ ?_)
   | (with_reducible refine LeO.bind ?_ (fun _ => ?_))
   | exact LeO.none _
   | refine LeO.ite ?_ ?_
   | refine LeO.bind ?_ (fun _ => ?_)
set_option maxHeartbeats 8000000 in
set_option maxRecDepth 100000 in
theorem spec_Digest.calls (k : Nat) (a0 : ByteArray) (r : ByteArray) (w : World) (h : spec_Digest.f k a0 = some r) :
  Calls Tryd.prog 84 #[.string a0] w fun e w' => e = .returned (.string r) ∧ Below w.heap.size w w' := by
 have HB := aM (Below.refl w.heap.size w); unfold spec_Digest.f at h; have H := h; clear h; replace H := Option.bind_eq_some_iff.mp H; obtain ⟨t285, A20, H⟩ := H; (try dsimp only at H); have A2 := aM A20; clear A20; have H' := aM H; clear H; go_enter Tryd.func84, Tryd.ntmps84
 go_wp2_with (first | ((with_reducible refine gC 97 rfl ?_); refine gL 7 Tryd.func97 #[.string a0] ?_; (with_reducible refine (spec_Sum.calls k a0 t285 _ A2.out).mono ?_); rintro e w3 ⟨v286, rfl, ho0, hb⟩; refine ⟨_, rfl, ?_⟩; have HO287 := aM (Kd.R_lower ho0 (below_size zq2)); replace HB := sB zq2 hb; clear hb; (try clear ho0)))
 go_loopg [4, 5] k (fun kq v4 v5 w' => ∃ (x4_1 : ByteArray) (x5_1 : Int), v4 = .string x4_1 ∧ v5 = .int .i64 x5_1 ∧ Aside0 (spec_Digest.l0 kq t285 x4_1 x5_1 = some r) ∧ Aside0 (kq ≤ k) ∧ Aside0 (Kd.R (Kd.int .u32) 94 w' w.heap.size (fun _ => True) v286 t285) ∧ Aside0 (Below w.heap.size w w'))
 case atStart => exact ⟨((⟨#[115, 104, 97, 50, 53, 54, 58]⟩ : ByteArray)), (0), zq6, zq6, H', ⟨Nat.le_refl _⟩, ⟨by refine dR ?_; first | exact HO287.out | (have h_ := HO287.out; simp only [Int.emod_add_emod, Int.add_emod_emod] at h_ ⊢; exact h_)⟩, ⟨zq2⟩⟩
 case round =>
  clear H'; (try clear p2); obtain ⟨x4_1, x5_1, rfl, rfl, HA, HK1, HO_3, HB⟩ := hrel
  cases gk with
  | zero => exact absurd HA.out (by simp [spec_Digest.l0])
  | succ k1 =>
   have H := HA.out; clear HA; simp only [spec_Digest.l0] at H; by_cases c4 : x5_1 < 8
   ·
    rw [if_pos c4] at H; have c4b0 := decide_eq_true c4; clear c4; by_cases c5 : 0 ≤ x5_1
    ·
     rw [if_pos c5] at H; have c5b0 := decide_eq_true c5; clear c5; by_cases c6 : x5_1 < (t285.length : Int)
     ·
      rw [if_pos c6] at H; have c6b0 := decide_eq_true c6; clear c6; replace H := Option.bind_eq_some_iff.mp H; obtain ⟨t289, A70, H⟩ := H; (try dsimp only at H); have A7 := aM A70; clear A70; by_cases c8 : x4_1.size + t289.size ≤ 9223372036854775807
      ·
       rw [if_pos c8] at H; have c8b0 := eq_true c8; have c8b1 := decide_eq_true c8
       try have c8b2 : (9223372036854775807 < x4_1.size + t289.size) = False := eq_false (Nat.not_lt.2 c8)
       have H' := aM H; clear H; obtain ⟨Ao9, co9, eo9⟩ := Kd.R_slice HO_3.out; subst eo9; have p288 : 0 ≤ (x5_1 : Int) := of_decide_eq_true zq11; have q288 : x5_1 < (t285.length : Int) := of_decide_eq_true zq11; obtain ⟨ad288, e288, hx288_0⟩ := Kd.at_int (Kd.R_reads' HO_3.out).2.2 x5_1 p288 q288; cases e288; replace p288 := eq_true p288; replace q288 := eq_true q288
       go_wp2_with (first | ((with_reducible refine gC 98 rfl ?_); refine gL 17 Tryd.func98 #[.int .u32 (rd t285 x5_1)] ?_; (with_reducible refine (spec_l1Hex.calls k1 (rd t285 x5_1) t289 _ A7.out).mono ?_); rintro e w10 ⟨rfl, hb⟩; refine ⟨_, rfl, ?_⟩; replace HO_3 := rB zq40 hb; replace HB := sB zq2 hb; clear hb))
       go_roundg k1
       case measure => have := HK1.out; omega
       case rel => exact ⟨(x4_1 ++ t289), (wrap64 (x5_1 + 1)), zq6, zq6, H', ⟨zq26⟩, ⟨zq40⟩, ⟨zq2⟩⟩
      exact zq125
     exact zq127
    exact zq128
   rw [if_neg c4] at H; have c4b0 := decide_eq_false c4; clear c4; obtain rfl := Option.some.inj H; go_wp2; go_ret; exact ⟨zq19, zq2⟩

/-! ### spec_l1Rd_data: function 85 -/
def spec_l1Rd_data.f (s0_0 : List Int) (s0_1 : Int) : Option (ByteArray × Int) := (some (([(⟨#[]⟩ : ByteArray), (⟨#[97]⟩ : ByteArray), (⟨#[98]⟩ : ByteArray), (⟨#[97, 98, 99]⟩ : ByteArray), (⟨#[108, 97, 121, 101, 114]⟩ : ByteArray), (⟨#[99, 111, 110, 102, 105, 103]⟩ : ByteArray), (⟨#[122, 122, 57]⟩ : ByteArray), (⟨#[48]⟩ : ByteArray)] : List ByteArray) : List ByteArray)).bind fun y290 => ((spec_l1Rd_below.f s0_0 s0_1 8).bind fun bt293 => (if 0 ≤ bt293.1 then (if bt293.1 < (y290.length : Int) then (some (rdOf ByteArray.empty y290 bt293.1, bt293.2)) else (none)) else (none)))
set_option maxHeartbeats 8000000 in
set_option maxRecDepth 100000 in
theorem spec_l1Rd_data.calls (g : Nat) (s0_0 : List Int) (s0_1 : Int) (r1 : ByteArray) (r2 : Int) (w0 w : World) (hI : IsS73 w0 w g s0_0 s0_1) (hB : Below w0.heap.size w0 w) (h : spec_l1Rd_data.f s0_0 s0_1 = some (r1, r2)) :
  Calls Tryd.prog 85 #[.pointer (some ⟨g, 0, none⟩)] w fun e w' => e = .returned (.string r1) ∧ IsS73 w0 w' g s0_0 r2 ∧ Below w0.heap.size w0 w' ∧ KeepBut w w' g none := by
 have HI0 := aM hI; have HK := aM (KeepBut.refl w g none); have HL := aM hB.size; clear hI; have HW0 := aM hB.size; have HB := aM hB; clear hB; unfold spec_l1Rd_data.f at h; have H := h; clear h; obtain ⟨y290, hy290⟩ : ∃ y_ : List ByteArray, y_ = (([(⟨#[]⟩ : ByteArray), (⟨#[97]⟩ : ByteArray), (⟨#[98]⟩ : ByteArray), (⟨#[97, 98, 99]⟩ : ByteArray), (⟨#[108, 97, 121, 101, 114]⟩ : ByteArray), (⟨#[99, 111, 110, 102, 105, 103]⟩ : ByteArray), (⟨#[122, 122, 57]⟩ : ByteArray), (⟨#[48]⟩ : ByteArray)] : List ByteArray)) := ⟨_, rfl⟩; have hy_ := hy290; replace H : ((spec_l1Rd_below.f s0_0 s0_1 8).bind fun bt293 => (if 0 ≤ bt293.1 then (if bt293.1 < (y290.length : Int) then (some (rdOf ByteArray.empty y290 bt293.1, bt293.2)) else (none)) else (none))) = some (r1, r2) := hyE; clear hy_; have Ny290 := aM hy290; clear hy290; replace H := Option.bind_eq_some_iff.mp H; obtain ⟨⟨t293, t294⟩, A20, H⟩ := H; (try dsimp only at H); have A2 := aM A20; clear A20; by_cases c3 : 0 ≤ t293
 ·
  rw [if_pos c3] at H; have c3b0 := decide_eq_true c3; clear c3; by_cases c4 : t293 < (y290.length : Int)
  ·
   rw [if_pos c4] at H; have c4b0 := decide_eq_true c4; clear c4; simp only [Option.some.injEq, Prod.mk.injEq] at H; obtain ⟨rfl, rfl⟩ := H; go_enter Tryd.func85, Tryd.ntmps85
   go_wp2_with (first | ((with_reducible refine gD 3 rfl ?_); refine Kd.R_lit Kd.string _ 9 ?hg (N := 3) ?hd (xs := ([(⟨#[]⟩ : ByteArray), (⟨#[97]⟩ : ByteArray), (⟨#[98]⟩ : ByteArray), (⟨#[97, 98, 99]⟩ : ByteArray), (⟨#[108, 97, 121, 101, 114]⟩ : ByteArray), (⟨#[99, 111, 110, 102, 105, 103]⟩ : ByteArray), (⟨#[122, 122, 57]⟩ : ByteArray), (⟨#[48]⟩ : ByteArray)] : List ByteArray)) (inner := [.string (⟨#[]⟩ : ByteArray), .string (⟨#[97]⟩ : ByteArray), .string (⟨#[98]⟩ : ByteArray), .string (⟨#[97, 98, 99]⟩ : ByteArray), .string (⟨#[108, 97, 121, 101, 114]⟩ : ByteArray), .string (⟨#[99, 111, 110, 102, 105, 103]⟩ : ByteArray), .string (⟨#[122, 122, 57]⟩ : ByteArray), .string (⟨#[48]⟩ : ByteArray)]) (ok := fun _ => True) (okp := fun _ => True) ?hr ?hp (fun _ hk => hk) trivial (Below.refl _ _) (Nat.le_refl _) (by simp) ?_; (case hd => rfl); (case hg => rfl); (case hr => exact zq1); (case hp => exact (Reps.one (show Kd.M Kd.string _ _ _ (⟨#[]⟩ : ByteArray) [.string (⟨#[]⟩ : ByteArray)] from rfl) (Reps.one (show Kd.M Kd.string _ _ _ (⟨#[97]⟩ : ByteArray) [.string (⟨#[97]⟩ : ByteArray)] from rfl) (Reps.one (show Kd.M Kd.string _ _ _ (⟨#[98]⟩ : ByteArray) [.string (⟨#[98]⟩ : ByteArray)] from rfl) (Reps.one (show Kd.M Kd.string _ _ _ (⟨#[97, 98, 99]⟩ : ByteArray) [.string (⟨#[97, 98, 99]⟩ : ByteArray)] from rfl) (Reps.one (show Kd.M Kd.string _ _ _ (⟨#[108, 97, 121, 101, 114]⟩ : ByteArray) [.string (⟨#[108, 97, 121, 101, 114]⟩ : ByteArray)] from rfl) (Reps.one (show Kd.M Kd.string _ _ _ (⟨#[99, 111, 110, 102, 105, 103]⟩ : ByteArray) [.string (⟨#[99, 111, 110, 102, 105, 103]⟩ : ByteArray)] from rfl) (Reps.one (show Kd.M Kd.string _ _ _ (⟨#[122, 122, 57]⟩ : ByteArray) [.string (⟨#[122, 122, 57]⟩ : ByteArray)] from rfl) (Reps.one (show Kd.M Kd.string _ _ _ (⟨#[48]⟩ : ByteArray) [.string (⟨#[48]⟩ : ByteArray)] from rfl) (Reps.none _ _)))))))))); intro v291 w5 ho6 hb hg_ hnew_; clear hg_ hnew_; (first | rw [← Ny290.out] at ho6 | (simp only [Int.reduceToNat] at ho6; rw [← Ny290.out] at ho6)); have HO292 := aM (Kd.R_lower ho6 (keep_size (w := w) (g := g) (row := none) zq24)); replace HK := aM (KeepBut.trans zq24 (KeepBut.of_below hb g none) (.inl rfl)); replace HB := sB zq23 hb; replace HI0 := aM (IsS73.below zq22 hb); clear hb ho6) | ((with_reducible refine gC 44 rfl ?_); refine gL 5 Tryd.func44 #[.pointer (some ⟨g, 0, none⟩), .int .i64 8] ?_; (with_reducible refine (spec_l1Rd_below.calls g s0_0 s0_1 8 t293 t294 w0 _ ?_ ?_ A2.out).mono ?_); exact zq22; exact zq23; rintro e w7 ⟨rfl, hi, hb, hk⟩; refine ⟨_, rfl, ?_⟩; replace HO292 := aM (Kd.R_mono (Kd.R_keep (IsS73.apart (show IsS73 w0 _ g s0_0 s0_1 from by repeat (first | (with_reducible first | exact HI0.out | apply IsS73.alloc | apply IsS73.drewN | apply IsS73.drew | apply IsS73.set_1) | exact HI0.out)) (by refine dR ?_; exact HO292.out) (by decide)) hk (fun _ h => h.2)) (fun _ h => h.1)); replace HK := aM (KeepBut.trans zq24 hk (.inl rfl)); replace HB := aM hb; replace HI0 := aM hi; clear hb; (try clear hk); (try clear hi); obtain ⟨Ao8, co8, eo8⟩ := Kd.R_slice HO292.out; subst eo8; have p295 : 0 ≤ (t293 : Int) := of_decide_eq_true zq11; have q295 : t293 < (y290.length : Int) := of_decide_eq_true zq11; obtain ⟨ad295, e295, hx295_0⟩ := Kd.at_string (Kd.R_reads' HO292.out).2.2 t293 p295 q295; cases e295; replace p295 := eq_true p295; replace q295 := eq_true q295))
   go_ret; exact ⟨zq19, zq22, zq23, zq24⟩
  exact zq129
 exact zq130

/-! ### spec_l1Rd_digest: function 65 -/
def spec_l1Rd_digest.f (k : Nat) (s0_0 : List Int) (s0_1 : Int) : Option (ByteArray × Int) := (spec_l1Rd_data.f s0_0 s0_1).bind fun bt296 => ((spec_Digest.f k bt296.1).bind fun t298 => (some (t298, bt296.2)))
theorem spec_l1Rd_digest.mono : ∀ a0 a1 k, LeO (spec_l1Rd_digest.f k a0 a1) (spec_l1Rd_digest.f (k + 1) a0 a1) := by
 intro a0 a1 k; unfold spec_l1Rd_digest.f
 repeat' first
   | (with_reducible apply spec_Digest.mono)
   | (with_reducible exact LeO.refl _)
   | (with_reducible exact LeO.none _)
   | (with_reducible refine LeO.ite ?_ ?_)
   | (with_reducible refine LeO.bind ?_ (fun _ => ?_))
   | exact LeO.none _
   | refine LeO.ite ?_ ?_
   | refine LeO.bind ?_ (fun _ => ?_)
set_option maxHeartbeats 8000000 in
set_option maxRecDepth 100000 in
theorem spec_l1Rd_digest.calls (k : Nat) (g : Nat) (s0_0 : List Int) (s0_1 : Int) (r1 : ByteArray) (r2 : Int) (w0 w : World) (hI : IsS73 w0 w g s0_0 s0_1) (hB : Below w0.heap.size w0 w) (h : spec_l1Rd_digest.f k s0_0 s0_1 = some (r1, r2)) :
  Calls Tryd.prog 65 #[.pointer (some ⟨g, 0, none⟩)] w fun e w' => e = .returned (.string r1) ∧ IsS73 w0 w' g s0_0 r2 ∧ Below w0.heap.size w0 w' ∧ KeepBut w w' g none := by
 have HI0 := aM hI; have HK := aM (KeepBut.refl w g none); have HL := aM hB.size; clear hI; have HW0 := aM hB.size; have HB := aM hB; clear hB; unfold spec_l1Rd_digest.f at h; have H := h; clear h; replace H := Option.bind_eq_some_iff.mp H; obtain ⟨⟨t296, t297⟩, A20, H⟩ := H; (try dsimp only at H); have A2 := aM A20; clear A20; replace H := Option.bind_eq_some_iff.mp H; obtain ⟨t298, A30, H⟩ := H; replace H : (some (t298, t297)) = some (r1, r2) := H; have A3 := aM A30; clear A30; simp only [Option.some.injEq, Prod.mk.injEq] at H; obtain ⟨rfl, rfl⟩ := H; go_enter Tryd.func65, Tryd.ntmps65
 go_wp2_with (first | ((with_reducible refine gC 85 rfl ?_); refine gL 4 Tryd.func85 #[.pointer (some ⟨g, 0, none⟩)] ?_; (with_reducible refine (spec_l1Rd_data.calls g s0_0 s0_1 t296 t297 w0 _ ?_ ?_ A2.out).mono ?_); exact zq22; exact zq23; rintro e w4 ⟨rfl, hi, hb, hk⟩; refine ⟨_, rfl, ?_⟩; replace HK := aM (KeepBut.trans zq24 hk (.inl rfl)); replace HB := aM hb; replace HI0 := aM hi; clear hb; (try clear hk); (try clear hi)) | ((with_reducible refine gC 84 rfl ?_); refine gL 5 Tryd.func84 #[.string t296] ?_; (with_reducible refine (spec_Digest.calls k t296 t298 _ A3.out).mono ?_); rintro e w5 ⟨rfl, hb⟩; refine ⟨_, rfl, ?_⟩; replace HK := aM (KeepBut.trans zq24 (KeepBut.of_below hb g none) (.inl rfl)); replace HB := sB zq23 hb; replace HI0 := aM (IsS73.below zq22 hb); clear hb))
 go_ret; exact ⟨zq19, zq22, zq23, zq24⟩

/-! ### spec_l1Rd_ref: function 43 -/
def spec_l1Rd_ref.j0 : Nat → List Int → Int → ByteArray → ByteArray → ByteArray → Option (ByteArray × ByteArray × ByteArray × Int)
 | 0, _, _, _, _, _ => none
 | k + 1, x1000, x1001, x303000, x303001, x303002 => (spec_l1Rd_once.f x1000 x1001 2).bind fun bt307 => (if bt307.1 = true then ((spec_l1Rd_digest.f k x1000 bt307.2).bind fun bt309 => (some (x303000, x303001, bt309.1, bt309.2))) else (some (x303000, x303001, x303002, bt307.2)))
def spec_l1Rd_ref.f (k : Nat) (s0_0 : List Int) (s0_1 : Int) : Option (ByteArray × ByteArray × ByteArray × Int) := (spec_l1Rd_repo.f s0_0 s0_1).bind fun bt300 => ((spec_l1Rd_once.f s0_0 bt300.2 2).bind fun bt303 => (if bt303.1 = true then ((spec_l1Rd_tag.f s0_0 bt303.2).bind fun bt305 => (spec_l1Rd_ref.j0 k s0_0 bt305.2 bt300.1 bt305.1 (⟨#[]⟩ : ByteArray))) else (spec_l1Rd_ref.j0 k s0_0 bt303.2 bt300.1 (⟨#[]⟩ : ByteArray) (⟨#[]⟩ : ByteArray))))
theorem spec_l1Rd_ref.mono_l : ∀ k, (∀ y0 y1 y2 y3 y4, LeO (spec_l1Rd_ref.j0 k y0 y1 y2 y3 y4) (spec_l1Rd_ref.j0 (k + 1) y0 y1 y2 y3 y4))
 | 0 => fun _ _ _ _ _ r h => by simp [spec_l1Rd_ref.j0] at h
 | k + 1 => by
  have ih0 := spec_l1Rd_ref.mono_l k
  ·
   intro y0 y1 y2 y3 y4; unfold spec_l1Rd_ref.j0
   repeat' first
   | (with_reducible apply ih0)
   | (with_reducible apply spec_l1Rd_digest.mono)
   | (with_reducible exact LeO.refl _)
   | (with_reducible exact LeO.none _)
   | (with_reducible refine LeO.ite ?_ ?_)
   | (with_reducible refine LeO.bind ?_ (fun _ => ?_))
   | exact LeO.none _
   | refine LeO.ite ?_ ?_
   | refine LeO.bind ?_ (fun _ => ?_)
theorem spec_l1Rd_ref.mono : ∀ a0 a1 k, LeO (spec_l1Rd_ref.f k a0 a1) (spec_l1Rd_ref.f (k + 1) a0 a1) := by
 intro a0 a1 k; have ih0 := spec_l1Rd_ref.mono_l k; unfold spec_l1Rd_ref.f
 repeat' first
   | (with_reducible apply ih0)
   | (with_reducible apply spec_l1Rd_digest.mono)
   | (with_reducible exact LeO.refl _)
   | (with_reducible exact LeO.none _)
   | (with_reducible refine LeO.ite ?_ ?_)
   | (with_reducible refine LeO.bind ?_ (fun _ => ?_))
   | exact LeO.none _
   | refine LeO.ite ?_ ?_
   | refine LeO.bind ?_ (fun _ => ?_)
set_option maxHeartbeats 8000000 in
set_option maxRecDepth 100000 in
theorem spec_l1Rd_ref.calls (k : Nat) (g : Nat) (s0_0 : List Int) (s0_1 : Int) (r1 : ByteArray) (r2 : ByteArray) (r3 : ByteArray) (r4 : Int) (w0 w : World) (hI : IsS73 w0 w g s0_0 s0_1) (hB : Below w0.heap.size w0 w) (h : spec_l1Rd_ref.f k s0_0 s0_1 = some (r1, r2, r3, r4)) :
  Calls Tryd.prog 43 #[.pointer (some ⟨g, 0, none⟩)] w fun e w' => e = .returned (.agg #[.string r1, .string r2, .string r3]) ∧ IsS73 w0 w' g s0_0 r4 ∧ Below w0.heap.size w0 w' ∧ KeepBut w w' g none := by
 have hu27 := Tryd.underlying27; have HI0 := aM hI; have HK := aM (KeepBut.refl w g none); have HL := aM hB.size; clear hI; have HW0 := aM hB.size; have HB := aM hB; clear hB; unfold spec_l1Rd_ref.f at h; have H := h; clear h; replace H := Option.bind_eq_some_iff.mp H; obtain ⟨⟨t300, t301⟩, A20, H⟩ := H; (try dsimp only at H); have A2 := aM A20; clear A20; replace H := Option.bind_eq_some_iff.mp H; obtain ⟨⟨t303, t304⟩, A30, H⟩ := H; (try dsimp only at H); have A3 := aM A30; clear A30; have HC4 := aM H; clear H; go_enter Tryd.func43, Tryd.ntmps43
 go_upto_if 8 with (first | ((with_reducible refine gD 2 rfl ?_); refine bE 2 #[.string (⟨#[]⟩ : ByteArray), .string (⟨#[]⟩ : ByteArray), .string (⟨#[]⟩ : ByteArray)] 27 ?_; intro gb299 hg w5 hbox hb; replace HB := sB zq23 hb; have BK299 := aM hbox; have GW299 := aM (zq104 : w.heap.size ≤ gb299); have GE299 := aM (Nat.le_trans HW0.out (zq104 : w.heap.size ≤ gb299) : w0.heap.size ≤ gb299); replace HK := aM (KeepBut.trans zq24 (KeepBut.of_below hb g none) (.inl rfl)); have NB0_299 := aM (by rw [hg]; exact Nat.ne_of_lt (IsS73.lt (show IsS73 w0 _ g s0_0 s0_1 from by repeat (first | (with_reducible first | exact HI0.out | apply IsS73.alloc | apply IsS73.drewN | apply IsS73.drew | apply IsS73.set_1) | exact HI0.out))) : g ≠ gb299); have NB299_0 := aM (by rw [hg]; exact Nat.ne_of_gt (IsS73.lt (show IsS73 w0 _ g s0_0 s0_1 from by repeat (first | (with_reducible first | exact HI0.out | apply IsS73.alloc | apply IsS73.drewN | apply IsS73.drew | apply IsS73.set_1) | exact HI0.out))) : gb299 ≠ g); replace HI0 := aM (IsS73.below zq22 hb); clear hb hbox hg) | ((with_reducible refine gC 63 rfl ?_); refine gL 5 Tryd.func63 #[.pointer (some ⟨g, 0, none⟩)] ?_; (with_reducible refine (spec_l1Rd_repo.calls g s0_0 s0_1 t300 t301 w0 _ ?_ ?_ A2.out).mono ?_); exact zq41; exact zq42; rintro e w6 ⟨rfl, hi, hb, hk⟩; refine ⟨_, rfl, ?_⟩; replace BK299 := aM (KeepBut.blk hk (g' := gb299) (o := .cells #[.string (⟨#[]⟩ : ByteArray), .string (⟨#[]⟩ : ByteArray), .string (⟨#[]⟩ : ByteArray)] 27 (0, 0)) zq43 NB299_0.out (by simp)); replace HK := aM (KeepBut.trans zq44 hk (.inl rfl)); replace HB := aM hb; replace HI0 := aM hi; clear hb; (try clear hk); (try clear hi)) | ((with_reducible refine gD 3 rfl ?_); refine bE 3 #[.string (⟨#[]⟩ : ByteArray), .string (⟨#[]⟩ : ByteArray), .string (⟨#[]⟩ : ByteArray)] 27 ?_; intro gb302 hg w7 hbox hb; replace HB := sB zq42 hb; have BK302 := aM hbox; have GW302 := aM (zq105 : w.heap.size ≤ gb302); have GE302 := aM (Nat.le_trans HW0.out (zq105 : w.heap.size ≤ gb302) : w0.heap.size ≤ gb302); replace HK := aM (KeepBut.trans zq44 (KeepBut.of_below hb g none) (.inl rfl)); have NB299_302 := aM (by rw [hg]; exact Nat.ne_of_lt (blk_lt (g := gb299) (o := .cells #[.string (⟨#[]⟩ : ByteArray), .string (⟨#[]⟩ : ByteArray), .string (⟨#[]⟩ : ByteArray)] 27 (0, 0)) zq43) : gb299 ≠ gb302); have NB302_299 := aM (by rw [hg]; exact Nat.ne_of_gt (blk_lt (g := gb299) (o := .cells #[.string (⟨#[]⟩ : ByteArray), .string (⟨#[]⟩ : ByteArray), .string (⟨#[]⟩ : ByteArray)] 27 (0, 0)) zq43) : gb302 ≠ gb299); replace BK299 := bG BK299 hb; have NB0_302 := aM (by rw [hg]; exact Nat.ne_of_lt (IsS73.lt (show IsS73 w0 _ g s0_0 t301 from by repeat (first | (with_reducible first | exact HI0.out | apply IsS73.alloc | apply IsS73.drewN | apply IsS73.drew | apply IsS73.set_1 | refine IsS73.far ?_ NB0_299.out _) | exact HI0.out))) : g ≠ gb302); have NB302_0 := aM (by rw [hg]; exact Nat.ne_of_gt (IsS73.lt (show IsS73 w0 _ g s0_0 t301 from by repeat (first | (with_reducible first | exact HI0.out | apply IsS73.alloc | apply IsS73.drewN | apply IsS73.drew | apply IsS73.set_1 | refine IsS73.far ?_ NB0_299.out _) | exact HI0.out))) : gb302 ≠ g); replace HI0 := aM (IsS73.below zq41 hb); clear hb hbox hg; have hnb8 := NB302_299.out; have hnc8 := NB299_302.out; have hnb9 := NB302_0.out; have hnc9 := NB0_302.out; obtain ⟨hcz10_0, hcz10_1, hcz10_2, hfz10_0, hfz10_1, hfz10_2⟩ := cells3_ (w := w7) BK302) | ((with_reducible refine gC 46 rfl ?_); refine gL 8 Tryd.func46 #[.pointer (some ⟨g, 0, none⟩), .int .i64 2] ?_; (with_reducible refine (spec_l1Rd_once.calls g s0_0 t301 2 t303 t304 w0 _ ?_ ?_ A3.out).mono ?_); exact zq45; exact zq46; rintro e w11 ⟨rfl, hi, hb, hk⟩; refine ⟨_, rfl, ?_⟩; replace BK299 := aM (KeepBut.blk hk (g' := gb299) (o := .cells #[.string (⟨#[]⟩ : ByteArray), .string (⟨#[]⟩ : ByteArray), .string (⟨#[]⟩ : ByteArray)] 27 (0, 0)) (by refine dW ?_; refine blk_far ?_ NB299_302.out _; refine dW ?_; refine blk_far ?_ NB299_302.out _; refine dW ?_; refine blk_far ?_ NB299_302.out _; refine dW ?_; exact BK299.out) NB299_0.out (by simp)); replace BK302 := aM (KeepBut.blk hk (g' := gb302) (o := .cells #[.string t300, .string (⟨#[]⟩ : ByteArray), .string (⟨#[]⟩ : ByteArray)] 27 (0, 0)) (by refine dW ?_; refine blk_put (cs := #[.string t300, .string (⟨#[]⟩ : ByteArray), .string (⟨#[]⟩ : ByteArray)]) ?_ 2 _ rfl; refine dW ?_; refine blk_put (cs := #[.string t300, .string (⟨#[]⟩ : ByteArray), .string (⟨#[]⟩ : ByteArray)]) ?_ 1 _ rfl; refine dW ?_; refine blk_put (cs := #[.string (⟨#[]⟩ : ByteArray), .string (⟨#[]⟩ : ByteArray), .string (⟨#[]⟩ : ByteArray)]) ?_ 0 _ rfl; refine dW ?_; exact BK302.out) NB302_0.out (by simp)); replace HK := aM (KeepBut.trans zq47 hk (.inl rfl)); replace HB := aM hb; replace HI0 := aM hi; clear hb; (try clear hk); (try clear hi)))
 (try simp only [Act.put, List.setIfInBounds_toArray, List.set_cons_zero, List.set_cons_succ])
 go_cut [] (fun wc => ∃ (kq : Nat) (x1001_3 : Int) (x303001_3 : ByteArray), Aside0 (spec_l1Rd_ref.j0 kq s0_0 x1001_3 t300 x303001_3 (⟨#[]⟩ : ByteArray) = some (r1, r2, r3, r4)) ∧ Aside0 (kq ≤ k) ∧ Aside0 (wc.heap[gb299]? = some (.cells #[.string (⟨#[]⟩ : ByteArray), .string (⟨#[]⟩ : ByteArray), .string (⟨#[]⟩ : ByteArray)] 27 (0, 0))) ∧ Aside0 (wc.heap[gb302]? = some (.cells #[.string t300, .string x303001_3, .string (⟨#[]⟩ : ByteArray)] 27 (0, 0))) ∧ Aside0 (IsS73 w0 wc g s0_0 x1001_3) ∧ Aside0 (KeepBut w wc g none) ∧ Aside0 (Below w0.heap.size w0 wc))
 case first =>
  have H := HC4.out; clear HC4; by_cases c12 : t303 = true
  ·
   subst c12; rw [if_pos rfl] at H; replace H := Option.bind_eq_some_iff.mp H; obtain ⟨⟨t305, t306⟩, A130, H⟩ := H; (try dsimp only at H); have A13 := aM A130; clear A130; have H' := aM H; clear H
   go_wp2_with (first | ((with_reducible refine gC 64 rfl ?_); refine gL 10 Tryd.func64 #[.pointer (some ⟨g, 0, none⟩)] ?_; (with_reducible refine (spec_l1Rd_tag.calls g s0_0 t304 t305 t306 w0 _ ?_ ?_ A13.out).mono ?_); exact zq45; exact zq46; rintro e w14 ⟨rfl, hi, hb, hk⟩; refine ⟨_, rfl, ?_⟩; replace BK299 := aM (KeepBut.blk hk (g' := gb299) (o := .cells #[.string (⟨#[]⟩ : ByteArray), .string (⟨#[]⟩ : ByteArray), .string (⟨#[]⟩ : ByteArray)] 27 (0, 0)) zq43 NB299_0.out (by simp)); replace BK302 := aM (KeepBut.blk hk (g' := gb302) (o := .cells #[.string t300, .string (⟨#[]⟩ : ByteArray), .string (⟨#[]⟩ : ByteArray)] 27 (0, 0)) zq48 NB302_0.out (by simp)); replace HK := aM (KeepBut.trans zq47 hk (.inl rfl)); replace HB := aM hb; replace HI0 := aM hi; clear hb; (try clear hk); (try clear hi); have hnb15 := NB302_299.out; have hnc15 := NB299_302.out; have hnb16 := NB302_0.out; have hnc16 := NB0_302.out; obtain ⟨hcz17_0, hcz17_1, hcz17_2, hfz17_0, hfz17_1, hfz17_2⟩ := cells3_ (w := w14) BK302))
   go_meet
   case rel => exact ⟨_, (t306), (t305), H', ⟨zq7⟩, ⟨by refine dW ?_; refine blk_far ?_ NB299_302.out _; refine dW ?_; exact BK299.out⟩, ⟨by refine dW ?_; refine blk_put (cs := #[.string t300, .string (⟨#[]⟩ : ByteArray), .string (⟨#[]⟩ : ByteArray)]) ?_ 1 _ rfl; refine dW ?_; exact BK302.out⟩, ⟨zq45⟩, ⟨zq47⟩, ⟨zq46⟩⟩
  replace c12 := Bool.eq_false_iff.mpr c12; subst c12; rw [if_neg (show ¬ (false = true) by decide)] at H; have H' := aM H; clear H; go_wp2
  go_meet
  case rel => exact ⟨_, (t304), ((⟨#[]⟩ : ByteArray)), H', ⟨zq7⟩, ⟨zq43⟩, ⟨zq48⟩, ⟨zq45⟩, ⟨zq47⟩, ⟨zq46⟩⟩
 case rest =>
  clear HC4; (try clear c1); (try clear p2); (try clear c4); (try clear c6); (try clear c8); (try clear c9); (try clear c12); (try clear c15); (try clear c16); (try clear hcz10_0); (try clear hcz10_1); (try clear hcz10_2); (try clear hcz17_0); (try clear hcz17_1); (try clear hcz17_2); (try clear hfz10_0); (try clear hfz10_1); (try clear hfz10_2); (try clear hfz17_0); (try clear hfz17_1); (try clear hfz17_2); obtain ⟨kq, x1001_3, x303001_3, HA, HJ3, BK299, BK302, HI0, HK, HB⟩ := hcut
  cases kq with
  | zero => exact absurd HA.out (by simp [spec_l1Rd_ref.j0])
  | succ kj3 =>
   have H := HA.out; clear HA; simp only [spec_l1Rd_ref.j0] at H; replace H := Option.bind_eq_some_iff.mp H; obtain ⟨⟨t307, t308⟩, A180, H⟩ := H; (try dsimp only at H); have A18 := aM A180; clear A180; by_cases c19 : t307 = true
   ·
    subst c19; rw [if_pos rfl] at H; replace H := Option.bind_eq_some_iff.mp H; obtain ⟨⟨t309, t310⟩, A200, H⟩ := H; (try dsimp only at H); have A20 := aM A200; clear A200; simp only [Option.some.injEq, Prod.mk.injEq] at H; obtain ⟨rfl, rfl, rfl, rfl⟩ := H
    go_wp2_with (first | ((with_reducible refine gC 46 rfl ?_); refine gL 13 Tryd.func46 #[.pointer (some ⟨g, 0, none⟩), .int .i64 2] ?_; (with_reducible refine (spec_l1Rd_once.calls g s0_0 x1001_3 2 true t308 w0 _ ?_ ?_ A18.out).mono ?_); exact zq45; exact zq46; rintro e w21 ⟨rfl, hi, hb, hk⟩; refine ⟨_, rfl, ?_⟩; replace BK299 := aM (KeepBut.blk hk (g' := gb299) (o := .cells #[.string (⟨#[]⟩ : ByteArray), .string (⟨#[]⟩ : ByteArray), .string (⟨#[]⟩ : ByteArray)] 27 (0, 0)) zq43 NB299_0.out (by simp)); replace BK302 := aM (KeepBut.blk hk (g' := gb302) (o := .cells #[.string t300, .string x303001_3, .string (⟨#[]⟩ : ByteArray)] 27 (0, 0)) zq48 NB302_0.out (by simp)); replace HK := aM (KeepBut.trans zq47 hk (.inl rfl)); replace HB := aM hb; replace HI0 := aM hi; clear hb; (try clear hk); (try clear hi)) | ((with_reducible refine gC 65 rfl ?_); refine gL 15 Tryd.func65 #[.pointer (some ⟨g, 0, none⟩)] ?_; (with_reducible refine (spec_l1Rd_digest.calls kj3 g s0_0 t308 t309 t310 w0 _ ?_ ?_ A20.out).mono ?_); exact zq45; exact zq46; rintro e w22 ⟨rfl, hi, hb, hk⟩; refine ⟨_, rfl, ?_⟩; replace BK299 := aM (KeepBut.blk hk (g' := gb299) (o := .cells #[.string (⟨#[]⟩ : ByteArray), .string (⟨#[]⟩ : ByteArray), .string (⟨#[]⟩ : ByteArray)] 27 (0, 0)) zq43 NB299_0.out (by simp)); replace BK302 := aM (KeepBut.blk hk (g' := gb302) (o := .cells #[.string t300, .string x303001_3, .string (⟨#[]⟩ : ByteArray)] 27 (0, 0)) zq48 NB302_0.out (by simp)); replace HK := aM (KeepBut.trans zq47 hk (.inl rfl)); replace HB := aM hb; replace HI0 := aM hi; clear hb; (try clear hk); (try clear hi); have hnb23 := NB302_299.out; have hnc23 := NB299_302.out; have hnb24 := NB302_0.out; have hnc24 := NB0_302.out; obtain ⟨hcz25_0, hcz25_1, hcz25_2, hfz25_0, hfz25_1, hfz25_2⟩ := cells3_ (w := w22) BK302; have hnb26 := NB299_0.out; have hnc26 := NB0_299.out; obtain ⟨hcz27_0, hcz27_1, hcz27_2, hfz27_0, hfz27_1, hfz27_2⟩ := cells3_ (w := w22) BK299))
    refine bodyPost_ret (results_cell_row rfl _ _ gb299 27 #[.string t300, .string x303001_3, .string t309] (0, 0) _ rfl (by refine dW ?_; refine blk_put (cs := #[.string t300, .string x303001_3, .string (⟨#[]⟩ : ByteArray)]) ?_ 2 _ rfl; refine dW ?_; refine blk_put (cs := #[.string t300, .string (⟨#[]⟩ : ByteArray), .string (⟨#[]⟩ : ByteArray)]) ?_ 1 _ rfl; refine dW ?_; refine blk_put (cs := #[.string (⟨#[]⟩ : ByteArray), .string (⟨#[]⟩ : ByteArray), .string (⟨#[]⟩ : ByteArray)]) ?_ 0 _ rfl; refine dW ?_; refine blk_far ?_ NB299_302.out _; refine dW ?_; exact BK299.out) Tryd.underlying27 rfl (by kernel_rfl)) rfl ?_; exact ⟨zq19, zq45, zq46, zq47⟩
   replace c19 := Bool.eq_false_iff.mpr c19; subst c19; rw [if_neg (show ¬ (false = true) by decide)] at H; simp only [Option.some.injEq, Prod.mk.injEq] at H; obtain ⟨rfl, rfl, rfl, rfl⟩ := H
   go_wp2_with (first | ((with_reducible refine gC 46 rfl ?_); refine gL 13 Tryd.func46 #[.pointer (some ⟨g, 0, none⟩), .int .i64 2] ?_; (with_reducible refine (spec_l1Rd_once.calls g s0_0 x1001_3 2 false t308 w0 _ ?_ ?_ A18.out).mono ?_); exact zq45; exact zq46; rintro e w28 ⟨rfl, hi, hb, hk⟩; refine ⟨_, rfl, ?_⟩; replace BK299 := aM (KeepBut.blk hk (g' := gb299) (o := .cells #[.string (⟨#[]⟩ : ByteArray), .string (⟨#[]⟩ : ByteArray), .string (⟨#[]⟩ : ByteArray)] 27 (0, 0)) zq43 NB299_0.out (by simp)); replace BK302 := aM (KeepBut.blk hk (g' := gb302) (o := .cells #[.string t300, .string x303001_3, .string (⟨#[]⟩ : ByteArray)] 27 (0, 0)) zq48 NB302_0.out (by simp)); replace HK := aM (KeepBut.trans zq47 hk (.inl rfl)); replace HB := aM hb; replace HI0 := aM hi; clear hb; (try clear hk); (try clear hi); have hnb29 := NB302_299.out; have hnc29 := NB299_302.out; have hnb30 := NB302_0.out; have hnc30 := NB0_302.out; obtain ⟨hcz31_0, hcz31_1, hcz31_2, hfz31_0, hfz31_1, hfz31_2⟩ := cells3_ (w := w28) BK302; have hnb32 := NB299_0.out; have hnc32 := NB0_299.out; obtain ⟨hcz33_0, hcz33_1, hcz33_2, hfz33_0, hfz33_1, hfz33_2⟩ := cells3_ (w := w28) BK299))
   refine bodyPost_ret (results_cell_row rfl _ _ gb299 27 #[.string t300, .string x303001_3, .string (⟨#[]⟩ : ByteArray)] (0, 0) _ rfl (by refine dW ?_; refine blk_put (cs := #[.string t300, .string x303001_3, .string (⟨#[]⟩ : ByteArray)]) ?_ 2 _ rfl; refine dW ?_; refine blk_put (cs := #[.string t300, .string (⟨#[]⟩ : ByteArray), .string (⟨#[]⟩ : ByteArray)]) ?_ 1 _ rfl; refine dW ?_; refine blk_put (cs := #[.string (⟨#[]⟩ : ByteArray), .string (⟨#[]⟩ : ByteArray), .string (⟨#[]⟩ : ByteArray)]) ?_ 0 _ rfl; refine dW ?_; exact BK299.out) Tryd.underlying27 rfl (by kernel_rfl)) rfl ?_; exact ⟨zq19, zq45, zq46, zq47⟩

end Go.Proofs.YtldpdaifajjaeaaDoor.QFnRefs
