/- Written by wip/myprint.py of this repo (the kit's print, with additions of this session). -/
import Derived.Test.YtoeomljkhabifaaDoorQFnDiffx0
import Derived.Test.YtoeomljkhabifaaDoorQFnDiffx4
import Derived.Test.YtoeomljkhabifaaDoorQFnDiffx5
set_option maxRecDepth 100000
namespace Go.Proofs.YtoeomljkhabifaaDoor.QFnDiff
open Go.RowKit Go.Proofs.YtoeomljkhabifaaDoorW.PrintWords Go.Proofs.YtoeomljkhabifaaDoorW.PrintLast Go.Proofs.YtoeomljkhabifaaDoorW.PrintMore
attribute [local go_sem] max2_int min2_int max_two min_two max_three min_three max_four min_four   -- for this text's walks alone
set_option linter.unusedVariables false
set_option linter.unusedSimpArgs false

/-! ### spec_Sum: function 54 -/
mutual
def spec_Sum.l0 : Nat → ByteArray → List Int → Option (List Int)
 | 0, _, _ => none
 | k + 1, x0, x3 => if ((x3.length : Int) % 64) = 56 then (spec_Sum.l1 k x3 (IntKind.u64.wrap ((IntKind.u64.wrap ((x0.size : Int))) * 8)) 7) else (if x3.length < 140737488355328 then (spec_Sum.l0 k x0 (x3 ++ [0])) else (none))
def spec_Sum.l1 : Nat → List Int → Int → Int → Option (List Int)
 | 0, _, _, _ => none
 | k + 1, x3, x4, x5 => if x5 ≥ 0 then (if 0 ≤ (IntKind.u64.wrap (wrap64 (8 * x5))) then (if x3.length < 140737488355328 then (spec_Sum.l1 k (x3 ++ [(shr .u64 x4 (IntKind.u64.wrap (wrap64 (8 * x5)))) % 256]) x4 (wrap64 (x5 - 1))) else (none)) else (none)) else ((spec_l1K.f).bind fun t239 => (spec_Sum.l2 k x3 t239 (([1779033703, 3144134277, 1013904242, 2773480762, 1359893119, 2600822924, 528734635, 1541459225] : List Int)) 0))
def spec_Sum.l2 : Nat → List Int → List Int → List Int → Int → Option (List Int)
 | 0, _, _, _, _ => none
 | k + 1, x3, x6, x7, x8 => if x8 < (x3.length : Int) then (if 0 ≤ x8 then (if x8 ≤ (wrap64 (x8 + 64)) then (if (wrap64 (x8 + 64)) ≤ (x3.length : Int) then ((spec_l1Block.f k x7 x6 ((x3.take ((wrap64 (x8 + 64)) : Int).toNat).drop (x8 : Int).toNat)).bind fun t249 => (spec_Sum.l2 k x3 x6 t249 (wrap64 (x8 + 64)))) else (none)) else (none)) else (none)) else (some x7)
end
def spec_Sum.f (k : Nat) (a0 : ByteArray) : Option (List Int) := if (a0.size : Int) ≤ 140737488351232 then ((some (bytesOf a0 : List Int)).bind fun y227 => (if y227.length < 140737488355328 then (spec_Sum.l0 k a0 (y227 ++ [128])) else (none))) else (none)
theorem spec_Sum.mono_l : ∀ k, (∀ y0 y1, LeO (spec_Sum.l0 k y0 y1) (spec_Sum.l0 (k + 1) y0 y1)) ∧ (∀ y0 y1 y2, LeO (spec_Sum.l1 k y0 y1 y2) (spec_Sum.l1 (k + 1) y0 y1 y2)) ∧ (∀ y0 y1 y2 y3, LeO (spec_Sum.l2 k y0 y1 y2 y3) (spec_Sum.l2 (k + 1) y0 y1 y2 y3))
 | 0 => ⟨fun _ _ r h => by simp [spec_Sum.l0] at h, fun _ _ _ r h => by simp [spec_Sum.l1] at h, fun _ _ _ _ r h => by simp [spec_Sum.l2] at h⟩
 | k + 1 => by
  obtain ⟨ih0, ih1, ih2⟩ := spec_Sum.mono_l k; refine ⟨?_, ?_, ?_⟩
  ·
   intro y0 y1; unfold spec_Sum.l0
   repeat' first
   | (with_reducible apply ih0)
   | (with_reducible apply ih1)
   | (with_reducible apply ih2)
   | (with_reducible apply spec_l1Block.mono)
   | (with_reducible exact LeO.refl _)
   | (with_reducible exact LeO.none _)
   | (with_reducible refine LeO.ite ?_ ?_)
   | (with_reducible refine LeO.bind ?_ (fun _ => ?_))
   | exact LeO.none _
   | refine LeO.ite ?_ ?_
   | refine LeO.bind ?_ (fun _ => ?_)
  ·
   intro y0 y1 y2; unfold spec_Sum.l1
   repeat' first
   | (with_reducible apply ih0)
   | (with_reducible apply ih1)
   | (with_reducible apply ih2)
   | (with_reducible apply spec_l1Block.mono)
   | (with_reducible exact LeO.refl _)
   | (with_reducible exact LeO.none _)
   | (with_reducible refine LeO.ite ?_ ?_)
   | (with_reducible refine LeO.bind ?_ (fun _ => ?_))
   | exact LeO.none _
   | refine LeO.ite ?_ ?_
   | refine LeO.bind ?_ (fun _ => ?_)
  intro y0 y1 y2 y3; unfold spec_Sum.l2
  repeat' first
  | (with_reducible apply ih0)
  | (with_reducible apply ih1)
  | (with_reducible apply ih2)
  | (with_reducible apply spec_l1Block.mono)
  | (with_reducible exact LeO.refl _)
  | (with_reducible exact LeO.none _)
  | (with_reducible refine LeO.ite ?_ ?_)
  | (with_reducible refine LeO.bind ?_ (fun _ => ?_))
  | exact LeO.none _
  | refine LeO.ite ?_ ?_
  | refine LeO.bind ?_ (fun _ => ?_)
theorem spec_Sum.mono : ∀ a0 k, LeO (spec_Sum.f k a0) (spec_Sum.f (k + 1) a0) := by
 intro a0 k; obtain ⟨ih0, ih1, ih2⟩ := spec_Sum.mono_l k; unfold spec_Sum.f
 repeat' first
   | (with_reducible apply ih0)
   | (with_reducible apply ih1)
   | (with_reducible apply ih2)
   | (with_reducible apply spec_l1Block.mono)
   | (with_reducible exact LeO.refl _)
   | (with_reducible exact LeO.none _)
   | (with_reducible refine LeO.ite ?_ ?_)
   | (with_reducible refine LeO.bind ?_ (fun _ => ?_))
   | exact LeO.none _
   | refine LeO.ite ?_ ?_
   | refine LeO.bind ?_ (fun _ => ?_)
set_option maxHeartbeats 8000000 in
set_option maxRecDepth 100000 in
theorem spec_Sum.calls (k : Nat) (a0 : ByteArray) (r : List Int) (w : World) (h : spec_Sum.f k a0 = some r) :
  Calls Tryd.prog 54 #[.string a0] w fun e w' => ∃ v0_ : Value, e = .returned (v0_) ∧ Kd.R (Kd.int .u32) 59 w' w.heap.size (fun _ => True) v0_ r ∧ Below w.heap.size w w' := by
 have HB := aM (Below.refl w.heap.size w); unfold spec_Sum.f at h; have H := h; clear h; by_cases c2 : (a0.size : Int) ≤ 140737488351232
 ·
  rw [if_pos c2] at H; have c2b0 := eq_true c2; have c2b1 := decide_eq_true c2; clear c2; obtain ⟨y227, hy227⟩ : ∃ y_ : List Int, y_ = (bytesOf a0) := ⟨_, rfl⟩; have hy_ := hy227; replace H : (if y227.length < 140737488355328 then (spec_Sum.l0 k a0 (y227 ++ [128])) else (none)) = some r := hyE; clear hy_; have Ny227 := aM hy227; clear hy227; by_cases c3 : y227.length < 140737488355328
  ·
   rw [if_pos c3] at H; have LMc3 := aM c3; clear c3; obtain ⟨y230, hy230⟩ : ∃ y_ : List Int, y_ = (y227 ++ [128]) := ⟨_, rfl⟩; have hy_ := hy230; replace H : (spec_Sum.l0 k a0 y230) = some r := hyE; clear hy_; have Ny230 := aM hy230; clear hy230; have H' := aM H; clear H; go_enter Tryd.func54, Tryd.ntmps54
   go_wp2_with (first | ((with_reducible refine gD 10 rfl ?_); refine Kd.R_bytes _ 5 rfl (N := 10) rfl 9 31 _ rfl a0 rfl Tryd.underlying9 Tryd.underlying31 Tryd.underlying5 rfl (ok := fun _ => True) trivial (of_decide_eq_true zq6) (Below.refl _ _) (Nat.le_refl _) ?_; intro v228 w4 ho5 hb hg_ hnew_; clear hg_ hnew_; (first | rw [← Ny227.out] at ho5 | (simp only [Int.reduceToNat] at ho5; rw [← Ny227.out] at ho5)); have HO229 := aM (Kd.R_lower ho5 (below_size zq4)); replace HB := sB zq4 hb; clear hb ho5) | ((with_reducible refine gate_builtin (b := .append) (xs := #[.tmp 10, .tmp 11]) rfl ?_); at_builtin; refine Kd.R_append (Kd.int .u8) (w0 := w) w.heap.size rfl (.tmp 10) (.tmp 11) 31 5 (.int .u8 0) 1 rfl Tryd.underlying31 info5 rfl (by decide) (by omega) v228 y227 128 [.int .u8 128] (fun _ => True) (fun _ => False) rfl rfl ?aP (fun _ hk => hk.elim) ?aF ?aO ?aB ?aS ?aL ?_; (case aP => exact rfl); (case aB => exact zq4); (case aF => exact zq10); (case aO => exact (by refine dR ?_; exact HO229.out)); (case aS => exact zq123); (case aL => have := LMc3.out; omega); intro v231 w6 ho hb hg hat; rw [← Ny230.out] at ho; have n0_ := aM (hb); have n1_ := aM (ho); clear HB; clear HO229; have HB := n0_; have HO232 := n1_; clear n0_ n1_; clear ho hb hg hat))
   go_loopg [3] k (fun kq v3 w' => ∃ (x3_1 : List Int), Aside0 (spec_Sum.l0 kq a0 x3_1 = some r) ∧ Aside0 (kq ≤ k) ∧ Aside0 (Kd.R (Kd.int .u8) 5 w' w.heap.size (fun _ => True) v3 x3_1) ∧ Aside0 (Below w.heap.size w w'))
   case atStart => exact ⟨(y230), H', ⟨Nat.le_refl _⟩, ⟨by refine dR ?_; exact HO232.out⟩, ⟨zq4⟩⟩
   case round =>
    clear H'; (try clear c2); (try clear c2b0); (try clear c2b1); (try clear p2); (try clear c3); (try clear c5); obtain ⟨x3_1, HA, HK1, HO_3, HB⟩ := hrel
    cases gk with
    | zero => exact absurd HA.out (by simp [spec_Sum.l0])
    | succ k1 =>
     have H := HA.out; clear HA; simp only [spec_Sum.l0] at H; by_cases c7 : ((x3_1.length : Int) % 64) = 56
     ·
      rw [if_pos c7] at H; have c7b0 : (((x3_1.length : Int) % 64) == 56) = true := beq_iff_eq.mpr c7; have c7b1 : (((x3_1.length : Int) % 64) != 56) = false := bne_eq_false_iff_eq.mpr c7; clear c7; have H' := aM H; clear H; obtain ⟨Ao8, co8, eo8⟩ := Kd.R_slice HO_3.out; subst eo8; go_wp2
      go_loopg [3, 5] k1 (fun kq v3 v5 w' => ∃ (x3_2 : List Int) (x5_2 : Int), v5 = .int .i64 x5_2 ∧ Aside0 (spec_Sum.l1 kq x3_2 (IntKind.u64.wrap ((IntKind.u64.wrap ((a0.size : Int))) * 8)) x5_2 = some r) ∧ Aside0 (kq ≤ k1) ∧ Aside0 (Kd.R (Kd.int .u8) 5 w' w.heap.size (fun _ => True) v3 x3_2) ∧ Aside0 (Below w.heap.size w w'))
      case atStart => exact ⟨(x3_1), (7), zq1, H', ⟨Nat.le_refl _⟩, ⟨zq23⟩, ⟨zq4⟩⟩
      case round =>
       clear H'; (try clear c2); (try clear c2b0); (try clear c2b1); (try clear p2); (try clear c3); (try clear c5); (try clear c7); (try clear c7b0); (try clear c7b1); (try clear p2); obtain ⟨x3_2, x5_2, rfl, HA, HK2, HO_3, HB⟩ := hrel
       cases gk with
       | zero => exact absurd HA.out (by simp [spec_Sum.l1])
       | succ k2 =>
        have H := HA.out; clear HA; simp only [spec_Sum.l1] at H; by_cases c9 : x5_2 ≥ 0
        ·
         rw [if_pos c9] at H; have c9b0 : decide (0 ≤ x5_2) = true := decide_eq_true c9; clear c9; obtain ⟨ji10, hji10⟩ : ∃ j_ : Int, (IntKind.u64.wrap (wrap64 (8 * x5_2))) = j_ := ⟨_, rfl⟩; replace H : (if 0 ≤ (ji10) then (if x3_2.length < 140737488355328 then (spec_Sum.l1 k2 (x3_2 ++ [(shr .u64 (IntKind.u64.wrap ((IntKind.u64.wrap ((a0.size : Int))) * 8)) (ji10)) % 256]) (IntKind.u64.wrap ((IntKind.u64.wrap ((a0.size : Int))) * 8)) (wrap64 (x5_2 - 1))) else (none)) else (none)) = some r := by first | (rw [hji10] at H; exact H) | (simp only [hji10] at H ⊢; exact H)
         by_cases c11 : 0 ≤ (ji10)
         ·
          rw [if_pos c11] at H; have c11b0 := eq_true c11; have c11b1 := decide_eq_true c11; clear c11; obtain ⟨ji12, hji12⟩ : ∃ j_ : Int, (shr .u64 (IntKind.u64.wrap ((IntKind.u64.wrap ((a0.size : Int))) * 8)) (ji10)) = j_ := ⟨_, rfl⟩; replace H : (if x3_2.length < 140737488355328 then (spec_Sum.l1 k2 (x3_2 ++ [(ji12) % 256]) (IntKind.u64.wrap ((IntKind.u64.wrap ((a0.size : Int))) * 8)) (wrap64 (x5_2 - 1))) else (none)) = some r := by first | (rw [hji12] at H; exact H) | (simp only [hji12] at H ⊢; exact H)
          have hji12_ : ((IntKind.u64.wrap ((IntKind.u64.wrap ((a0.size : Int))) * 8)) / 2 ^ min (ji10).toNat 64) = ji12 := hji12; have hji12z : (ji10) ≤ 64 → ((IntKind.u64.wrap ((IntKind.u64.wrap ((a0.size : Int))) * 8)) / 2 ^ (ji10).toNat) = ji12 := shr_small hji12; by_cases c13 : x3_2.length < 140737488355328
          ·
           rw [if_pos c13] at H; have LMc13 := aM c13; clear c13; obtain ⟨y236, hy236⟩ : ∃ y_ : List Int, y_ = (x3_2 ++ [(ji12) % 256]) := ⟨_, rfl⟩; have hy_ := hy236; replace H : (spec_Sum.l1 k2 y236 (IntKind.u64.wrap ((IntKind.u64.wrap ((a0.size : Int))) * 8)) (wrap64 (x5_2 - 1))) = some r := hyE; clear hy_; have Ny236 := aM hy236; clear hy236; have H' := aM H; clear H
           go_wp2_with (first | ((with_reducible refine gate_builtin (b := .append) (xs := #[.tmp 28, .tmp 35]) rfl ?_); at_builtin; refine Kd.R_append (Kd.int .u8) (w0 := w) w.heap.size rfl (.tmp 28) (.tmp 35) 31 5 (.int .u8 0) 1 rfl Tryd.underlying31 info5 rfl (by decide) (by omega) u3 x3_2 ((ji12) % 256) [.int .u8 ((ji12) % 256)] (fun _ => True) (fun _ => False) rfl rfl ?aP (fun _ hk => hk.elim) ?aF ?aO ?aB ?aS ?aL ?_; (case aP => exact rfl); (case aB => exact zq4); (case aF => exact zq10); (case aO => exact zq23); (case aS => exact zq123); (case aL => have := LMc13.out; omega); intro v237 w14 ho hb hg hat; rw [← Ny236.out] at ho; have n0_ := aM (hb); have n1_ := aM (ho); clear HB; clear HO_3; have HB := n0_; have HO238 := n1_; clear n0_ n1_; clear ho hb hg hat))
           go_roundg k2
           case measure => have := HK1.out; have := HK2.out; omega
           case rel => exact ⟨(y236), (wrap64 (x5_2 - 1)), zq1, H', ⟨zq50⟩, ⟨by refine dR ?_; exact HO238.out⟩, ⟨zq4⟩⟩
          exact zq143
         exact zq136
        rw [if_neg c9] at H; have c9b0 : decide (0 ≤ x5_2) = false := decide_eq_false c9; clear c9; replace H := Option.bind_eq_some_iff.mp H; obtain ⟨t239, A150, H⟩ := H; (try dsimp only at H); have A15 := aM A150; clear A150; obtain ⟨y242, hy242⟩ : ∃ y_ : List Int, y_ = (([1779033703, 3144134277, 1013904242, 2773480762, 1359893119, 2600822924, 528734635, 1541459225] : List Int)) := ⟨_, rfl⟩; have hy_ := hy242; replace H : (spec_Sum.l2 k2 x3_2 t239 y242 0) = some r := hyE; clear hy_; have Ny242 := aM hy242; clear hy242; have H' := aM H; clear H
        go_wp2_with (first | ((with_reducible refine gC 72 rfl ?_); refine gL 37 Tryd.func72 #[] ?_; (with_reducible refine (spec_l1K.calls  t239 _ A15.out).mono ?_); rintro e w16 ⟨v240, rfl, ho0, hb⟩; refine ⟨_, rfl, ?_⟩; replace HO_3 := rG HO_3 hb; have HO241 := aM (Kd.R_lower ho0 (below_size zq4)); replace HB := sB zq4 hb; clear hb; (try clear ho0)) | ((with_reducible refine gD 38 rfl ?_); refine Kd.R_lit (Kd.int .u32) _ 59 ?hg (N := 38) ?hd (xs := ([1779033703, 3144134277, 1013904242, 2773480762, 1359893119, 2600822924, 528734635, 1541459225] : List Int)) (inner := [.int .u32 1779033703, .int .u32 3144134277, .int .u32 1013904242, .int .u32 2773480762, .int .u32 1359893119, .int .u32 2600822924, .int .u32 528734635, .int .u32 1541459225]) (ok := fun _ => True) (okp := fun _ => True) ?hr ?hp (fun _ hk => hk) trivial (Below.refl _ _) (Nat.le_refl _) (by simp) ?_; (case hd => rfl); (case hg => rfl); (case hr => exact zq87); (case hp => exact (Reps.one (show Kd.M (Kd.int .u32) _ _ _ 1779033703 [.int .u32 1779033703] from rfl) (Reps.one (show Kd.M (Kd.int .u32) _ _ _ 3144134277 [.int .u32 3144134277] from rfl) (Reps.one (show Kd.M (Kd.int .u32) _ _ _ 1013904242 [.int .u32 1013904242] from rfl) (Reps.one (show Kd.M (Kd.int .u32) _ _ _ 2773480762 [.int .u32 2773480762] from rfl) (Reps.one (show Kd.M (Kd.int .u32) _ _ _ 1359893119 [.int .u32 1359893119] from rfl) (Reps.one (show Kd.M (Kd.int .u32) _ _ _ 2600822924 [.int .u32 2600822924] from rfl) (Reps.one (show Kd.M (Kd.int .u32) _ _ _ 528734635 [.int .u32 528734635] from rfl) (Reps.one (show Kd.M (Kd.int .u32) _ _ _ 1541459225 [.int .u32 1541459225] from rfl) (Reps.none _ _)))))))))); intro v243 w17 ho18 hb hg_ hnew_; clear hg_ hnew_; (first | rw [← Ny242.out] at ho18 | (simp only [Int.reduceToNat] at ho18; rw [← Ny242.out] at ho18)); replace HO_3 := rG HO_3 hb; have HO244 := aM (Kd.R_lower (Kd.R_new' ho18 (Kd.R_lt zq94)) (below_size zq4)); replace HO241 := aM (Kd.R_elder' zq94 (Kd.R_base ho18) hb); replace HB := sB zq4 hb; clear hb ho18))
        go_loopg [7, 8] k2 (fun kq v7 v8 w' => ∃ (x7_3 : List Int) (x8_3 : Int), v8 = .int .i64 x8_3 ∧ Aside0 (spec_Sum.l2 kq x3_2 t239 x7_3 x8_3 = some r) ∧ Aside0 (kq ≤ k2) ∧ Aside0 (Kd.R (Kd.int .u8) 5 w' w.heap.size (fun _ => True) u3 x3_2) ∧ Aside0 (Kd.R (Kd.int .u32) 59 w' w.heap.size (fun k_ => some k_ ≠ (v7 : Value).ownBlock) v240 t239) ∧ Aside0 (Kd.R (Kd.int .u32) 59 w' w.heap.size (fun k_ => some k_ ≠ (v240 : Value).ownBlock) v7 x7_3) ∧ Aside0 (Below w.heap.size w w'))
        case atStart => exact ⟨(y242), (0), zq1, H', ⟨Nat.le_refl _⟩, ⟨zq23⟩, ⟨by refine dR ?_; first | exact Kd.R_mono HO241.out (fun _ hk => hk.2) | (have h_ := Kd.R_mono HO241.out (fun _ hk => hk.2); simp only [Int.emod_add_emod, Int.add_emod_emod] at h_ ⊢; exact h_)⟩, ⟨by refine dR ?_; first | exact Kd.R_mono HO244.out (fun _ hk => hk.2) | (have h_ := Kd.R_mono HO244.out (fun _ hk => hk.2); simp only [Int.emod_add_emod, Int.add_emod_emod] at h_ ⊢; exact h_)⟩, ⟨zq4⟩⟩
        case round =>
         clear H'; (try clear c1); (try clear c2); (try clear c2b0); (try clear c2b1); (try clear p2); (try clear c3); (try clear c5); (try clear p6); (try clear c7); (try clear c7b0); (try clear c7b1); (try clear c9); (try clear c9b0); (try clear c11); (try clear c11b0); (try clear c11b1); (try clear c13); (try clear p2); obtain ⟨x7_3, x8_3, rfl, HA, HK3, HO_3, HO_6, HO_7, HB⟩ := hrel
         cases gk with
         | zero => exact absurd HA.out (by simp [spec_Sum.l2])
         | succ k3 =>
          have H := HA.out; clear HA; simp only [spec_Sum.l2] at H; by_cases c19 : x8_3 < (x3_2.length : Int)
          ·
           rw [if_pos c19] at H; have c19b0 := decide_eq_true c19; clear c19; by_cases c20 : 0 ≤ x8_3
           ·
            rw [if_pos c20] at H; have c20b0 := eq_true c20; have c20b1 := decide_eq_true c20; clear c20; by_cases c21 : x8_3 ≤ (wrap64 (x8_3 + 64))
            ·
             rw [if_pos c21] at H; have c21b0 := eq_true c21; have c21b1 := decide_eq_true c21; by_cases c22 : (wrap64 (x8_3 + 64)) ≤ (x3_2.length : Int)
             ·
              rw [if_pos c22] at H; have c22b0 := eq_true c22; have c22b1 := decide_eq_true c22; obtain ⟨y245, hy245⟩ : ∃ y_ : List Int, y_ = ((x3_2.take ((wrap64 (x8_3 + 64)) : Int).toNat).drop (x8_3 : Int).toNat) := ⟨_, rfl⟩; have hy_ := hy245; replace H : ((spec_l1Block.f k3 x7_3 t239 y245).bind fun t249 => (spec_Sum.l2 k3 x3_2 t239 t249 (wrap64 (x8_3 + 64)))) = some r := hyE; clear hy_; have Ny245 := aM hy245; clear hy245; replace H := Option.bind_eq_some_iff.mp H; obtain ⟨t249, A230, H⟩ := H; (try dsimp only at H); have A23 := aM A230; clear A230; have H' := aM H; clear H; obtain ⟨Ao24, co24, eo24⟩ := Kd.R_slice HO_3.out; subst eo24; have q25 : ((wrap64 (x8_3 + 64)) : Int) ≤ ((x3_2.length : Int) : Int) := of_decide_eq_true zq6; obtain ⟨i025, hi025, _, hsz25, _⟩ := info_parts info5; have hroom25 : x3_2.length ≤ co24 := (Kd.R_reads' HO_3.out).2.1; have hC25 : Kd.C (Kd.int .u8) _ Ao24 x3_2.length x3_2 := (Kd.R_reads' HO_3.out).2.2; have ql25 : (x8_3 : Int) ≤ ((wrap64 (x8_3 + 64)) : Int) := of_decide_eq_true zq6; have q025 : (0 : Int) ≤ (x8_3 : Int) := of_decide_eq_true zq6; have hcut25 := cut_mid (P := Tryd.prog) 31 5 .i64 .i64 Tryd.underlying31 hi025 1 hsz25 Ao24 x3_2.length co24 x8_3 (wrap64 (x8_3 + 64)) q025 ql25 q25 hroom25; have hr25 := Kd.C_mid (lo := (x8_3 : Int).toNat) (hi := ((wrap64 (x8_3 + 64)) : Int).toNat) (c := co24) hC25 (by omega) (by omega) hroom25
              obtain ⟨A25, hA25⟩ : ∃ A1, A1 = (if co24 = (x8_3 : Int).toNat then Ao24 else (Ao24 : Option Addr).map (·.add ((x8_3 : Int).toNat * 1))) := ⟨_, rfl⟩; obtain ⟨c25, hc25⟩ : ∃ c1, c1 = co24 - (x8_3 : Int).toNat := ⟨_, rfl⟩; have hy25 : y245.length = ((wrap64 (x8_3 + 64)) : Int).toNat - (x8_3 : Int).toNat := (by rw [Ny245.out, List.length_drop, List.length_take] <;> omega); rw [show ((x3_2).take ((wrap64 (x8_3 + 64)) : Int).toNat).drop (x8_3 : Int).toNat = y245 from Ny245.out.symm] at hr25; replace hr25 : Kd.C (Kd.int .u8) _ A25 y245.length y245 := (by rw [hA25]; exact hr25); rw [← hy25, ← hA25, ← hc25] at hcut25; have HR248 := aM hr25; have HC248 := aM (show y245.length ≤ c25 from by rw [hy25, hc25]; exact Nat.sub_le_sub_right (Nat.le_trans (by omega) hroom25) _); clear hr25 hC25 hroom25 hi025 hsz25 hc25; have KY25 := aM hy25; have KA25 := aM hA25; clear hy25 hA25; have KL25 := aM (show ((wrap64 (x8_3 + 64)) : Int).toNat ≤ x3_2.length from by omega); have KM25 := aM (show (x8_3 : Int).toNat ≤ ((wrap64 (x8_3 + 64)) : Int).toNat from by omega); replace q25 := eq_true q25; obtain ⟨Ao26, co26, eo26⟩ := Kd.R_slice HO_7.out; subst eo26; obtain ⟨Ao27, co27, eo27⟩ := Kd.R_slice HO_6.out; subst eo27
              go_wp2_with (first | ((with_reducible refine gC 73 rfl ?_); refine gL 52 Tryd.func73 #[.slice Ao26 x7_3.length co26, .slice Ao27 t239.length co27, .slice A25 y245.length c25] ?_; (with_reducible refine (spec_l1Block.calls k3 _ _ x7_3 _ _ t239 _ _ y245 t249 _ ?side1 ?_ ?side3 ?_ ?side5 ?_ A23.out).mono ?_); (case side1 => repeat (first | exact (Kd.R_reads' HO_7.out).2.2 | (with_reducible refine Kd.C_alloc ?_ _) | (with_reducible refine Kd.C_drewN ?_ _) | (with_reducible refine Kd.C_drew ?_))); exact (Kd.R_reads' HO_7.out).2.1; (case side3 => repeat (first | exact (Kd.R_reads' HO_6.out).2.2 | (with_reducible refine Kd.C_alloc ?_ _) | (with_reducible refine Kd.C_drewN ?_ _) | (with_reducible refine Kd.C_drew ?_))); exact (Kd.R_reads' HO_6.out).2.1; (case side5 => repeat (first | exact zq95 | (with_reducible refine Kd.C_alloc ?_ _) | (with_reducible refine Kd.C_drewN ?_ _) | (with_reducible refine Kd.C_drew ?_))); exact HC248.out; rintro e w28 ⟨v250, rfl, ho0, hb⟩; refine ⟨_, rfl, ?_⟩; replace HO_3 := rG HO_3 hb; have HO251 := aM (Kd.R_lower (Kd.R_new' (Kd.R_new' ho0 (Kd.R_lt zq96)) (Kd.R_lt zq89)) (below_size zq4)); replace HO_6 := aM (Kd.R_elder' zq96 (Kd.R_base ho0) hb); replace HO_7 := aM (Kd.R_elder' zq89 (Kd.R_base ho0) hb); replace HR248 := aM (Kd.C_below zq95 hb); replace HB := sB zq4 hb; clear hb; (try clear ho0)))
              go_roundg k3
              case measure => have := HK1.out; have := HK2.out; have := HK3.out; omega
              case rel => exact ⟨(t249), (wrap64 (x8_3 + 64)), zq1, H', ⟨by have := HK1.out; have := HK2.out; have := HK3.out; omega⟩, ⟨zq23⟩, ⟨by refine dR ?_; first | exact Kd.R_mono HO_6.out (fun _ hk => hk.2) | (have h_ := Kd.R_mono HO_6.out (fun _ hk => hk.2); simp only [Int.emod_add_emod, Int.add_emod_emod] at h_ ⊢; exact h_)⟩, ⟨by refine dR ?_; first | exact Kd.R_mono HO251.out (fun _ hk => hk.1.2) | (have h_ := Kd.R_mono HO251.out (fun _ hk => hk.1.2); simp only [Int.emod_add_emod, Int.add_emod_emod] at h_ ⊢; exact h_)⟩, ⟨zq4⟩⟩
             rw [if_neg c22] at H; exact absurd H (by simp)
            rw [if_neg c21] at H; exact absurd H (by simp)
           exact zq141
          rw [if_neg c19] at H; have c19b0 := decide_eq_false c19; clear c19; obtain rfl := Option.some.inj H; obtain ⟨Ao29, co29, eo29⟩ := Kd.R_slice HO_3.out; subst eo29; go_wp2; go_ret; exact ⟨_, zq5, by refine dR ?_; first | exact Kd.R_mono HO_7.out (fun _ hk => trivial) | (have h_ := Kd.R_mono HO_7.out (fun _ hk => trivial); simp only [Int.emod_add_emod, Int.add_emod_emod] at h_ ⊢; exact h_), zq4⟩
     rw [if_neg c7] at H; have c7b0 : (((x3_1.length : Int) % 64) == 56) = false := beq_eq_false_iff_ne.mpr c7; have c7b1 : (((x3_1.length : Int) % 64) != 56) = true := bne_iff_ne.mpr c7; by_cases c30 : x3_1.length < 140737488355328
     ·
      rw [if_pos c30] at H; have LMc30 := aM c30; clear c30; obtain ⟨y233, hy233⟩ : ∃ y_ : List Int, y_ = (x3_1 ++ [0]) := ⟨_, rfl⟩; have hy_ := hy233; replace H : (spec_Sum.l0 k1 a0 y233) = some r := hyE; clear hy_; have Ny233 := aM hy233; clear hy233; have H' := aM H; clear H; obtain ⟨Ao31, co31, eo31⟩ := Kd.R_slice HO_3.out; subst eo31
      go_wp2_with (first | ((with_reducible refine gate_builtin (b := .append) (xs := #[.tmp 17, .tmp 18]) rfl ?_); at_builtin; refine Kd.R_append (Kd.int .u8) (w0 := w) w.heap.size rfl (.tmp 17) (.tmp 18) 31 5 (.int .u8 0) 1 rfl Tryd.underlying31 info5 rfl (by decide) (by omega) (.slice Ao31 x3_1.length co31) x3_1 0 [.int .u8 0] (fun _ => True) (fun _ => False) rfl rfl ?aP (fun _ hk => hk.elim) ?aF ?aO ?aB ?aS ?aL ?_; (case aP => exact rfl); (case aB => exact zq4); (case aF => exact zq10); (case aO => exact zq23); (case aS => exact zq123); (case aL => have := LMc30.out; omega); intro v234 w32 ho hb hg hat; rw [← Ny233.out] at ho; have n0_ := aM (hb); have n1_ := aM (ho); clear HB; clear HO_3; have HB := n0_; have HO235 := n1_; clear n0_ n1_; clear ho hb hg hat))
      go_roundg k1
      case measure => have := HK1.out; omega
      case rel => exact ⟨(y233), H', ⟨zq7⟩, ⟨by refine dR ?_; exact HO235.out⟩, ⟨zq4⟩⟩
     rw [if_neg c30] at H; exact absurd H (by simp)
  exact zq135
 rw [if_neg c2] at H; exact absurd H (by simp)

/-! ### spec_l1Hex: function 55 -/
def spec_l1Hex.l0 : Nat → Int → List Int → Int → Option (ByteArray)
 | 0, _, _, _ => none
 | k + 1, x0, x3, x4 => if x4 ≥ 0 then (if 0 ≤ (IntKind.u64.wrap (wrap64 (4 * x4))) then (if 0 ≤ (Go.bits .and .u32 (shr .u32 x0 (IntKind.u64.wrap (wrap64 (4 * x4)))) 15) then (if (Go.bits .and .u32 (shr .u32 x0 (IntKind.u64.wrap (wrap64 (4 * x4)))) 15) < 16 then (if x3.length < 140737488355328 then (spec_l1Hex.l0 k x0 (x3 ++ [bt (⟨#[48, 49, 50, 51, 52, 53, 54, 55, 56, 57, 97, 98, 99, 100, 101, 102]⟩ : ByteArray) (Go.bits .and .u32 (shr .u32 x0 (IntKind.u64.wrap (wrap64 (4 * x4)))) 15)]) (wrap64 (x4 - 1))) else (none)) else (none)) else (none)) else (none)) else (some (strOfNums x3))
def spec_l1Hex.f (k : Nat) (a0 : Int) : Option (ByteArray) := spec_l1Hex.l0 k a0 (([] : List Int)) 7
theorem spec_l1Hex.mono_l : ∀ k, (∀ y0 y1 y2, LeO (spec_l1Hex.l0 k y0 y1 y2) (spec_l1Hex.l0 (k + 1) y0 y1 y2))
 | 0 => fun _ _ _ r h => by simp [spec_l1Hex.l0] at h
 | k + 1 => by
  have ih0 := spec_l1Hex.mono_l k
  ·
   intro y0 y1 y2; unfold spec_l1Hex.l0
   repeat' first
   | (with_reducible apply ih0)
   | (with_reducible exact LeO.refl _)
   | (with_reducible exact LeO.none _)
   | (with_reducible refine LeO.ite ?_ ?_)
   | (with_reducible refine LeO.bind ?_ (fun _ => ?_))
   | exact LeO.none _
   | refine LeO.ite ?_ ?_
   | refine LeO.bind ?_ (fun _ => ?_)
theorem spec_l1Hex.mono : ∀ a0 k, LeO (spec_l1Hex.f k a0) (spec_l1Hex.f (k + 1) a0) := by
 intro a0 k; have ih0 := spec_l1Hex.mono_l k; unfold spec_l1Hex.f
 repeat' first
   | (with_reducible apply ih0)
   | (with_reducible exact LeO.refl _)
   | (with_reducible exact LeO.none _)
   | (with_reducible refine LeO.ite ?_ ?_)
   | (with_reducible refine LeO.bind ?_ (fun _ => ?_))
   | exact LeO.none _
   | refine LeO.ite ?_ ?_
   | refine LeO.bind ?_ (fun _ => ?_)
set_option maxHeartbeats 8000000 in
set_option maxRecDepth 100000 in
theorem spec_l1Hex.calls (k : Nat) (a0 : Int) (r : ByteArray) (w : World) (h : spec_l1Hex.f k a0 = some r) :
  Calls Tryd.prog 55 #[.int .u32 a0] w fun e w' => e = .returned (.string r) ∧ Below w.heap.size w w' := by
 have HB := aM (Below.refl w.heap.size w); unfold spec_l1Hex.f at h; have H := h; clear h; obtain ⟨y252, hy252⟩ : ∃ y_ : List Int, y_ = (([] : List Int)) := ⟨_, rfl⟩; have hy_ := hy252; replace H : (spec_l1Hex.l0 k a0 y252 7) = some r := hyE; clear hy_; have Ny252 := aM hy252; clear hy252; have H' := aM H; clear H; go_enter Tryd.func55, Tryd.ntmps55
 go_wp2_with (first | ((with_reducible refine gD 5 rfl ?_); refine Kd.R_lit (Kd.int .u8) _ 5 ?hg (N := 5) ?hd (xs := ([] : List Int)) (inner := []) (ok := fun _ => True) (okp := fun _ => True) ?hr ?hp (fun _ hk => hk) trivial (Below.refl _ _) (Nat.le_refl _) (by simp) ?_; (case hd => rfl); (case hg => rfl); (case hr => exact zq8); (case hp => exact zq9); intro v253 w2 ho3 hb hg_ hnew_; clear hg_ hnew_; (first | rw [← Ny252.out] at ho3 | (simp only [Int.reduceToNat] at ho3; rw [← Ny252.out] at ho3)); have HO254 := aM (Kd.R_lower ho3 (below_size zq4)); replace HB := sB zq4 hb; clear hb ho3))
 go_loopg [3, 4] k (fun kq v3 v4 w' => ∃ (x3_1 : List Int) (x4_1 : Int), v4 = .int .i64 x4_1 ∧ Aside0 (spec_l1Hex.l0 kq a0 x3_1 x4_1 = some r) ∧ Aside0 (kq ≤ k) ∧ Aside0 (Kd.R (Kd.int .u8) 5 w' w.heap.size (fun _ => True) v3 x3_1) ∧ Aside0 (Below w.heap.size w w'))
 case atStart => exact ⟨(y252), (7), zq1, H', ⟨Nat.le_refl _⟩, ⟨by refine dR ?_; exact HO254.out⟩, ⟨zq4⟩⟩
 case round =>
  clear H'; (try clear p2); obtain ⟨x3_1, x4_1, rfl, HA, HK1, HO_3, HB⟩ := hrel
  cases gk with
  | zero => exact absurd HA.out (by simp [spec_l1Hex.l0])
  | succ k1 =>
   have H := HA.out; clear HA; simp only [spec_l1Hex.l0] at H; by_cases c4 : x4_1 ≥ 0
   ·
    rw [if_pos c4] at H; have c4b0 : decide (0 ≤ x4_1) = true := decide_eq_true c4; clear c4; obtain ⟨ji5, hji5⟩ : ∃ j_ : Int, (IntKind.u64.wrap (wrap64 (4 * x4_1))) = j_ := ⟨_, rfl⟩; replace H : (if 0 ≤ (ji5) then (if 0 ≤ (Go.bits .and .u32 (shr .u32 a0 (ji5)) 15) then (if (Go.bits .and .u32 (shr .u32 a0 (ji5)) 15) < 16 then (if x3_1.length < 140737488355328 then (spec_l1Hex.l0 k1 a0 (x3_1 ++ [bt (⟨#[48, 49, 50, 51, 52, 53, 54, 55, 56, 57, 97, 98, 99, 100, 101, 102]⟩ : ByteArray) (Go.bits .and .u32 (shr .u32 a0 (ji5)) 15)]) (wrap64 (x4_1 - 1))) else (none)) else (none)) else (none)) else (none)) = some r := by first | (rw [hji5] at H; exact H) | (simp only [hji5] at H ⊢; exact H)
    by_cases c6 : 0 ≤ (ji5)
    ·
     rw [if_pos c6] at H; have c6b0 := eq_true c6; have c6b1 := decide_eq_true c6; clear c6; obtain ⟨ji7, hji7⟩ : ∃ j_ : Int, (shr .u32 a0 (ji5)) = j_ := ⟨_, rfl⟩; replace H : (if 0 ≤ (Go.bits .and .u32 (ji7) 15) then (if (Go.bits .and .u32 (ji7) 15) < 16 then (if x3_1.length < 140737488355328 then (spec_l1Hex.l0 k1 a0 (x3_1 ++ [bt (⟨#[48, 49, 50, 51, 52, 53, 54, 55, 56, 57, 97, 98, 99, 100, 101, 102]⟩ : ByteArray) (Go.bits .and .u32 (ji7) 15)]) (wrap64 (x4_1 - 1))) else (none)) else (none)) else (none)) = some r := by first | (rw [hji7] at H; exact H) | (simp only [hji7] at H ⊢; exact H)
     have hji7_ : (a0 / 2 ^ min (ji5).toNat 32) = ji7 := hji7; have hji7z : (ji5) ≤ 32 → (a0 / 2 ^ (ji5).toNat) = ji7 := shr_small hji7; by_cases c8 : 0 ≤ (Go.bits .and .u32 (ji7) 15)
     ·
      rw [if_pos c8] at H; have c8b0 := decide_eq_true c8; clear c8; by_cases c9 : (Go.bits .and .u32 (ji7) 15) < 16
      ·
       rw [if_pos c9] at H; have c9b0 := decide_eq_true c9; clear c9; by_cases c11 : x3_1.length < 140737488355328
       ·
        rw [if_pos c11] at H; have LMc11 := aM c11; clear c11; obtain ⟨y255, hy255⟩ : ∃ y_ : List Int, y_ = (x3_1 ++ [bt (⟨#[48, 49, 50, 51, 52, 53, 54, 55, 56, 57, 97, 98, 99, 100, 101, 102]⟩ : ByteArray) (Go.bits .and .u32 (ji7) 15)]) := ⟨_, rfl⟩; have hy_ := hy255; replace H : (spec_l1Hex.l0 k1 a0 y255 (wrap64 (x4_1 - 1))) = some r := hyE; clear hy_; have Ny255 := aM hy255; clear hy255; have H' := aM H; clear H; have p10 : 0 ≤ ((Go.bits .and .u32 (ji7) 15) : Int) := of_decide_eq_true zq6; have q10 : (Go.bits .and .u32 (ji7) 15) < (16 : Int) := of_decide_eq_true zq6; have hx10 := bt_at (⟨#[48, 49, 50, 51, 52, 53, 54, 55, 56, 57, 97, 98, 99, 100, 101, 102]⟩ : ByteArray) (Go.bits .and .u32 (ji7) 15); replace p10 := eq_true p10; replace q10 := eq_true q10
        go_wp2_with (first | ((with_reducible refine gate_builtin (b := .append) (xs := #[.tmp 10, .tmp 18]) rfl ?_); at_builtin; refine Kd.R_append (Kd.int .u8) (w0 := w) w.heap.size rfl (.tmp 10) (.tmp 18) 31 5 (.int .u8 0) 1 rfl Tryd.underlying31 info5 rfl (by decide) (by omega) u3 x3_1 (bt (⟨#[48, 49, 50, 51, 52, 53, 54, 55, 56, 57, 97, 98, 99, 100, 101, 102]⟩ : ByteArray) (Go.bits .and .u32 (ji7) 15)) [.int .u8 (bt (⟨#[48, 49, 50, 51, 52, 53, 54, 55, 56, 57, 97, 98, 99, 100, 101, 102]⟩ : ByteArray) (Go.bits .and .u32 (ji7) 15))] (fun _ => True) (fun _ => False) rfl rfl ?aP (fun _ hk => hk.elim) ?aF ?aO ?aB ?aS ?aL ?_; (case aP => exact rfl); (case aB => exact zq4); (case aF => exact zq10); (case aO => exact zq23); (case aS => exact zq123); (case aL => have := LMc11.out; omega); intro v256 w12 ho hb hg hat; rw [← Ny255.out] at ho; have n0_ := aM (hb); have n1_ := aM (ho); clear HB; clear HO_3; have HB := n0_; have HO257 := n1_; clear n0_ n1_; clear ho hb hg hat))
        go_roundg k1
        case measure => have := HK1.out; omega
        case rel => exact ⟨(y255), (wrap64 (x4_1 - 1)), zq1, H', ⟨zq7⟩, ⟨by refine dR ?_; exact HO257.out⟩, ⟨zq4⟩⟩
       exact zq136
      exact zq134
     exact zq137
    exact zq132
   rw [if_neg c4] at H; have c4b0 : decide (0 ≤ x4_1) = false := decide_eq_false c4; clear c4; obtain rfl := Option.some.inj H; have hcv13 := own_string (P := Tryd.prog) Tryd.underlying31 Tryd.underlying5 Tryd.underlying9 (Kd.own_of_R HO_3.out); go_wp2; go_ret; exact ⟨zq5, zq4⟩

/-! ### spec_Digest: function 40 -/
def spec_Digest.l0 : Nat → List Int → ByteArray → Int → Option (ByteArray)
 | 0, _, _, _ => none
 | k + 1, x3, x4, x5 => if x5 < 8 then (if 0 ≤ x5 then (if x5 < (x3.length : Int) then ((spec_l1Hex.f k (rd x3 x5)).bind fun t262 => (if x4.size + t262.size ≤ 9223372036854775807 then (spec_Digest.l0 k x3 (x4 ++ t262) (wrap64 (x5 + 1))) else (none))) else (none)) else (none)) else (some x4)
def spec_Digest.f (k : Nat) (a0 : ByteArray) : Option (ByteArray) := (spec_Sum.f k a0).bind fun t258 => (spec_Digest.l0 k t258 (⟨#[115, 104, 97, 50, 53, 54, 58]⟩ : ByteArray) 0)
theorem spec_Digest.mono_l : ∀ k, (∀ y0 y1 y2, LeO (spec_Digest.l0 k y0 y1 y2) (spec_Digest.l0 (k + 1) y0 y1 y2))
 | 0 => fun _ _ _ r h => by simp [spec_Digest.l0] at h
 | k + 1 => by
  have ih0 := spec_Digest.mono_l k
  ·
   intro y0 y1 y2; unfold spec_Digest.l0
   repeat' first
   | (with_reducible apply ih0)
   | (with_reducible apply spec_Sum.mono)
   | (with_reducible apply spec_l1Hex.mono)
   | (with_reducible exact LeO.refl _)
   | (with_reducible exact LeO.none _)
   | (with_reducible refine LeO.ite ?_ ?_)
   | (with_reducible refine LeO.bind ?_ (fun _ => ?_))
   | exact LeO.none _
   | refine LeO.ite ?_ ?_
   | refine LeO.bind ?_ (fun _ => ?_)
theorem spec_Digest.mono : ∀ a0 k, LeO (spec_Digest.f k a0) (spec_Digest.f (k + 1) a0) := by
 intro a0 k; have ih0 := spec_Digest.mono_l k; unfold spec_Digest.f
 repeat' first
   | (with_reducible apply ih0)
   | (with_reducible apply spec_Sum.mono)
   | (with_reducible apply spec_l1Hex.mono)
   | (with_reducible exact LeO.refl _)
   | (with_reducible exact LeO.none _)
   | (with_reducible refine LeO.ite ?_ ?_)
   | (with_reducible refine LeO.bind ?_ (fun _ => ?_))
   | exact LeO.none _
   | refine LeO.ite ?_ ?_
   | refine LeO.bind ?_ (fun _ => ?_)
set_option maxHeartbeats 8000000 in
set_option maxRecDepth 100000 in
theorem spec_Digest.calls (k : Nat) (a0 : ByteArray) (r : ByteArray) (w : World) (h : spec_Digest.f k a0 = some r) :
  Calls Tryd.prog 40 #[.string a0] w fun e w' => e = .returned (.string r) ∧ Below w.heap.size w w' := by
 have HB := aM (Below.refl w.heap.size w); unfold spec_Digest.f at h; have H := h; clear h; replace H := Option.bind_eq_some_iff.mp H; obtain ⟨t258, A20, H⟩ := H; (try dsimp only at H); have A2 := aM A20; clear A20; have H' := aM H; clear H; go_enter Tryd.func40, Tryd.ntmps40
 go_wp2_with (first | ((with_reducible refine gC 54 rfl ?_); refine gL 7 Tryd.func54 #[.string a0] ?_; (with_reducible refine (spec_Sum.calls k a0 t258 _ A2.out).mono ?_); rintro e w3 ⟨v259, rfl, ho0, hb⟩; refine ⟨_, rfl, ?_⟩; have HO260 := aM (Kd.R_lower ho0 (below_size zq4)); replace HB := sB zq4 hb; clear hb; (try clear ho0)))
 go_loopg [4, 5] k (fun kq v4 v5 w' => ∃ (x4_1 : ByteArray) (x5_1 : Int), v4 = .string x4_1 ∧ v5 = .int .i64 x5_1 ∧ Aside0 (spec_Digest.l0 kq t258 x4_1 x5_1 = some r) ∧ Aside0 (kq ≤ k) ∧ Aside0 (Kd.R (Kd.int .u32) 59 w' w.heap.size (fun _ => True) v259 t258) ∧ Aside0 (Below w.heap.size w w'))
 case atStart => exact ⟨((⟨#[115, 104, 97, 50, 53, 54, 58]⟩ : ByteArray)), (0), zq1, zq1, H', ⟨Nat.le_refl _⟩, ⟨by refine dR ?_; first | exact HO260.out | (have h_ := HO260.out; simp only [Int.emod_add_emod, Int.add_emod_emod] at h_ ⊢; exact h_)⟩, ⟨zq4⟩⟩
 case round =>
  clear H'; (try clear p2); obtain ⟨x4_1, x5_1, rfl, rfl, HA, HK1, HO_3, HB⟩ := hrel
  cases gk with
  | zero => exact absurd HA.out (by simp [spec_Digest.l0])
  | succ k1 =>
   have H := HA.out; clear HA; simp only [spec_Digest.l0] at H; by_cases c4 : x5_1 < 8
   ·
    rw [if_pos c4] at H; have c4b0 := decide_eq_true c4; clear c4; by_cases c5 : 0 ≤ x5_1
    ·
     rw [if_pos c5] at H; have c5b0 := decide_eq_true c5; clear c5; by_cases c6 : x5_1 < (t258.length : Int)
     ·
      rw [if_pos c6] at H; have c6b0 := decide_eq_true c6; clear c6; replace H := Option.bind_eq_some_iff.mp H; obtain ⟨t262, A70, H⟩ := H; (try dsimp only at H); have A7 := aM A70; clear A70; by_cases c8 : x4_1.size + t262.size ≤ 9223372036854775807
      ·
       rw [if_pos c8] at H; have c8b0 := eq_true c8; have c8b1 := decide_eq_true c8
       try have c8b2 : (9223372036854775807 < x4_1.size + t262.size) = False := eq_false (Nat.not_lt.2 c8)
       have H' := aM H; clear H; obtain ⟨Ao9, co9, eo9⟩ := Kd.R_slice HO_3.out; subst eo9; have p261 : 0 ≤ (x5_1 : Int) := of_decide_eq_true zq6; have q261 : x5_1 < (t258.length : Int) := of_decide_eq_true zq6; obtain ⟨ad261, e261, hx261_0⟩ := Kd.at_int (Kd.R_reads' HO_3.out).2.2 x5_1 p261 q261; cases e261; replace p261 := eq_true p261; replace q261 := eq_true q261
       go_wp2_with (first | ((with_reducible refine gC 55 rfl ?_); refine gL 17 Tryd.func55 #[.int .u32 (rd t258 x5_1)] ?_; (with_reducible refine (spec_l1Hex.calls k1 (rd t258 x5_1) t262 _ A7.out).mono ?_); rintro e w10 ⟨rfl, hb⟩; refine ⟨_, rfl, ?_⟩; replace HO_3 := rB zq97 hb; replace HB := sB zq4 hb; clear hb))
       go_roundg k1
       case measure => have := HK1.out; omega
       case rel => exact ⟨(x4_1 ++ t262), (wrap64 (x5_1 + 1)), zq1, zq1, H', ⟨zq7⟩, ⟨zq97⟩, ⟨zq4⟩⟩
      exact zq137
     exact zq132
    exact zq130
   rw [if_neg c4] at H; have c4b0 := decide_eq_false c4; clear c4; obtain rfl := Option.some.inj H; go_wp2; go_ret; exact ⟨zq5, zq4⟩

end Go.Proofs.YtoeomljkhabifaaDoor.QFnDiff
