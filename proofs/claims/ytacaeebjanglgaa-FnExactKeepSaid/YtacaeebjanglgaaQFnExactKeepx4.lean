/- Written by wip/myprint.py of this repo (the kit's print, with additions of this session). -/
import Derived.Test.YtacaeebjanglgaaQFnExactKeepx3
set_option maxRecDepth 100000
namespace Go.Proofs.Ytacaeebjanglgaa.QFnExactKeep
open Go.RowKit Go.Proofs.YtacaeebjanglgaaW.PrintWords Go.Proofs.YtacaeebjanglgaaW.PrintLast Go.Proofs.YtacaeebjanglgaaW.PrintMore
attribute [local go_sem] max2_int min2_int max_two min_two max_three min_three max_four min_four
set_option linter.unusedVariables false
set_option linter.unusedSimpArgs false
def laws_markUploadS.l0 : Nat → List (S68) → Int → Int → Option (Int × (List (S68)))
 | 0, _, _, _ => none
 | k + 1, x0, x1, x5 => if x5 < (x0.length : Int) then (if 0 ≤ x5 then ((some (x0.set (x5 : Int).toNat (⟨x1, (rd_T68 x0 x5).f1⟩ : S68) : List (S68))).bind fun y160 => ((laws_markText.f k (wrap64 (x1 + 1))).bind fun t161 => (laws_markUploadS.l0 k (y160.set (x5 : Int).toNat (⟨(rd_T68 y160 x5).f0, t161⟩ : S68)) (wrap64 ((wrap64 (x1 + 1)) + 1)) (wrap64 (x5 + 1))))) else (none)) else (some (x1, x0))
def laws_markUploadS.f (k : Nat) (l0 : List (S68)) (a1 : Int) : Option (Int × (List (S68))) := laws_markUploadS.l0 k l0 a1 0
theorem laws_markUploadS.mono_l : ∀ k, (∀ y0 y1 y2, LeO (laws_markUploadS.l0 k y0 y1 y2) (laws_markUploadS.l0 (k + 1) y0 y1 y2))
 | 0 => fun _ _ _ r h => by simp [laws_markUploadS.l0] at h
 | k + 1 => by
  have ih0 := laws_markUploadS.mono_l k
  ·
   intro y0 y1 y2; unfold laws_markUploadS.l0
   repeat' first
   | (with_reducible apply ih0)
   | (with_reducible apply laws_markText.mono)
   | (with_reducible exact LeO.refl _)
   | (with_reducible exact LeO.none _)
   | (with_reducible refine LeO.ite ?_ ?_)
   | (with_reducible refine LeO.bind ?_ (fun _ => ?_))
   | exact LeO.none _
   | refine LeO.ite ?_ ?_
   | refine LeO.bind ?_ (fun _ => ?_)
theorem laws_markUploadS.mono : ∀ a0 a1 k, LeO (laws_markUploadS.f k a0 a1) (laws_markUploadS.f (k + 1) a0 a1) := by
 intro a0 a1 k; have ih0 := laws_markUploadS.mono_l k; unfold laws_markUploadS.f
 repeat' first
   | (with_reducible apply ih0)
   | (with_reducible apply laws_markText.mono)
   | (with_reducible exact LeO.refl _)
   | (with_reducible exact LeO.none _)
   | (with_reducible refine LeO.ite ?_ ?_)
   | (with_reducible refine LeO.bind ?_ (fun _ => ?_))
   | exact LeO.none _
   | refine LeO.ite ?_ ?_
   | refine LeO.bind ?_ (fun _ => ?_)
set_option maxHeartbeats 8000000 in
set_option maxRecDepth 100000 in
theorem laws_markUploadS.calls (k : Nat) (P0_ : Nat → Prop) (u9000_ : Value) (l0 : List (S68)) (a1 : Int) (r1 : Int) (r2 : List (S68)) (w0 w : World) (hB : Below w0.heap.size w0 w) (ho0 : Kd.R k68 68 w w0.heap.size P0_ u9000_ l0) (h : laws_markUploadS.f k l0 a1 = some (r1, r2)) :
  Calls Try.prog 62 #[u9000_, .int .i64 a1] w fun e w' => e = .returned (.int .i64 r1) ∧ Kd.R k68 68 w' w0.heap.size (fun k_ => (P0_ k_ ∨ w.heap.size ≤ k_)) u9000_ r2 ∧ Below w0.heap.size w0 w' ∧ Kept w w' (fun k_ => P0_ k_) := by
 have HO0 := aM (show Kd.R k68 68 w w0.heap.size (fun k_ => (P0_ k_ ∨ w.heap.size ≤ k_)) u9000_ l0 from Kd.R_mono ho0 (fun k_ hk => (.inl hk))); have HK := aM (Kept.refl w (fun k_ => P0_ k_)); have HW0 := aM hB.size; have HB := aM hB; clear hB; unfold laws_markUploadS.f at h; have H := h; clear h; have H' := aM H; clear H; go_enter Try.func62, Try.ntmps62; go_wp2
 go_loopg [1, 5] k (fun kq v1 v5 w' => ∃ (x0_1 : List (S68)) (x1_1 : Int) (x5_1 : Int), v1 = .int .i64 x1_1 ∧ v5 = .int .i64 x5_1 ∧ Aside0 (laws_markUploadS.l0 kq x0_1 x1_1 x5_1 = some (r1, r2)) ∧ Aside0 (kq ≤ k) ∧ Aside0 (Kd.R k68 68 w' w0.heap.size (fun k_ => (P0_ k_ ∨ w.heap.size ≤ k_)) u9000_ x0_1) ∧ Aside0 (Kept w w' (fun k_ => P0_ k_)) ∧ Aside0 (Below w0.heap.size w0 w'))
 case atStart => exact ⟨(l0), (a1), (0), zq6, zq6, H', ⟨Nat.le_refl _⟩, ⟨zq274⟩, ⟨zq91⟩, ⟨zq3⟩⟩
 case round =>
  clear H'; (try clear p2); obtain ⟨x0_1, x1_1, x5_1, rfl, rfl, HA, HK1, HO_0, HK, HB⟩ := hrel
  cases gk with
  | zero => exact absurd HA.out (by simp [laws_markUploadS.l0])
  | succ k1 =>
   have H := HA.out; clear HA; simp only [laws_markUploadS.l0] at H; by_cases c3 : x5_1 < (x0_1.length : Int)
   ·
    rw [if_pos c3] at H; have c3b0 := decide_eq_true c3; clear c3; by_cases c4 : 0 ≤ x5_1
    ·
     rw [if_pos c4] at H; have c4b0 := decide_eq_true c4; clear c4; obtain ⟨y160, hy160⟩ : ∃ y_ : List (S68), y_ = (x0_1.set (x5_1 : Int).toNat (⟨x1_1, (rd_T68 x0_1 x5_1).f1⟩ : S68)) := ⟨_, rfl⟩; have hy_ := hy160; replace H : ((laws_markText.f k1 (wrap64 (x1_1 + 1))).bind fun t161 => (laws_markUploadS.l0 k1 (y160.set (x5_1 : Int).toNat (⟨(rd_T68 y160 x5_1).f0, t161⟩ : S68)) (wrap64 ((wrap64 (x1_1 + 1)) + 1)) (wrap64 (x5_1 + 1)))) = some (r1, r2) := hyE; clear hy_; have Ny160 := aM hy160; clear hy160; replace H := Option.bind_eq_some_iff.mp H; obtain ⟨t161, A60, H⟩ := H; (try dsimp only at H); have A6 := aM A60; clear A60; obtain ⟨y162, hy162⟩ : ∃ y_ : List (S68), y_ = (y160.set (x5_1 : Int).toNat (⟨(rd_T68 y160 x5_1).f0, t161⟩ : S68)) := ⟨_, rfl⟩; have hy_ := hy162; replace H : (laws_markUploadS.l0 k1 y162 (wrap64 ((wrap64 (x1_1 + 1)) + 1)) (wrap64 (x5_1 + 1))) = some (r1, r2) := hyE; clear hy_; have Ny162 := aM hy162; clear hy162; have H' := aM H; clear H; obtain ⟨Ao8, co8, eo8⟩ := Kd.R_slice HO_0.out; subst eo8; have p5 : 0 ≤ (x5_1 : Int) := of_decide_eq_true zq7; have q5 : (x5_1 : Int) < ((x0_1.length : Int) : Int) := of_decide_eq_true zq7; obtain ⟨go5, co5, eo5, gb5, gl5, cl5, HG5⟩ := Kd.R_form HO_0.out (by omega)
     (first | cases eo5 | (injection eo5 with ea_ en_ ec_; (first | subst ea_ | (injection ea_ with ea_; subst ea_)); subst ec_; clear en_))
     have GB5 := aM gb5; have GG5 := aM HG5; clear gb5 gl5 HG5; have HMgo5 := aM (show (P0_ go5 ∨ w.heap.size ≤ go5) from (HO_0.out.1 _ rfl)); obtain ⟨ce5, hcl5, hM5, hcc5, hfr5⟩ := Kd.R_elem HO_0.out z68 (x5_1 : Int) p5 q5; obtain rfl := k68_openM hM5; have hx5_0 : wr.cell? ⟨go5, (x5_1 : Int).toNat * 2, none⟩ = some (.int .i64 ((rd_T68 x0_1 x5_1).f0)) := hcc5 0 _ rfl; have hx5_1 : wr.cell? ⟨go5, (x5_1 : Int).toNat * 2 + 1, none⟩ = some (.string ((rd_T68 x0_1 x5_1).f1)) := hcc5 1 _ rfl; have hf5_0 : wr.frozen? ⟨go5, (x5_1 : Int).toNat * 2, none⟩ = false := (hfr5 0 (by decide)); have hf5_1 : wr.frozen? ⟨go5, (x5_1 : Int).toNat * 2 + 1, none⟩ = false := (hfr5 1 (by decide)); clear hcl5 hcc5 hfr5 hM5; replace p5 := eq_true p5; replace q5 := eq_true q5; have HX9 := aM (show Kd.R k68 68 wr w0.heap.size (fun k_ => (P0_ k_ ∨ w.heap.size ≤ k_)) (.slice (some ⟨go5, 0, none⟩) x0_1.length co8) x0_1 from zq275); obtain ⟨ce9, hcl9, hM9, hcc9, hfr9⟩ := Kd.R_elem HX9.out z68 (x5_1 : Int) (of_decide_eq_true zq7) zq375; obtain rfl := k68_openM hM9; have HP9 := Kd.R_seg HX9.out (x5_1 : Int) (of_decide_eq_true zq7) zq375 (seg := [.int .i64 x1_1]) (j := 0) hcl9 hcc9 (show 1 ≤ 2 from by decide) (x' := (⟨x1_1, (rd_T68 x0_1 x5_1).f1⟩ : S68)) (k68_mkM _ _ _ (⟨x1_1, (rd_T68 x0_1 x5_1).f1⟩ : S68) ) (fun _ hk => hk); have hx9_0 := hcc9 0 _ rfl
     (try simp only [show (k68).sz = 2 from rfl, Nat.mul_one, Nat.add_zero] at hx9_0)
     have hf9_0 := (hfr9 0 (by decide))
     (try simp only [show (k68).sz = 2 from rfl, Nat.mul_one, Nat.add_zero] at hf9_0)
     clear hcl9 hcc9 hfr9 hM9
     go_wp2_with (first | ((with_reducible refine gate_store (t := 2) (p := 16) rfl ?_); refine store_event (t := 2) (p := 16) (v := ?vo_w10) (w1 := (wr.setCell ⟨go5, (x5_1 : Int).toNat * 2, none⟩ (.int .i64 x1_1))) ?hg ?ho ?hn ?hr ?_; (case ho => rfl); (case hg => rfl); (case hn => rfl); (case hr => exact zq2); intro w10 hw; have hg : wr.grownBy w10 (some go5) := (by rw [hw]; exact HP9.2); have hp_ : Kd.R k68 68 w10 w0.heap.size (fun k_ => (P0_ k_ ∨ w.heap.size ≤ k_)) (.slice (some ⟨go5, 0, none⟩) x0_1.length co8) y160 := (by rw [hw, Ny160.out]; exact HP9.1); clear HP9; replace HB := aM (by rw [hw]; exact below_set (HB.out) GB5.out : Below w0.heap.size w0 w10); replace HK := aM (Kept.of_grown (S := (fun k_ => P0_ k_)) hg zq91 (fun k_ e_ => (HO_0.out.1 k_ e_))); replace HO_0 := aM hp_; clear hg hw hp_) | ((with_reducible refine gC 63 rfl ?_); refine gL 22 Try.func63 #[.int .i64 (wrap64 (x1_1 + 1))] ?_; (with_reducible refine (laws_markText.calls k1 (wrap64 (x1_1 + 1)) t161 _ A6.out).mono ?_); rintro e w11 ⟨rfl, hb⟩; refine ⟨_, rfl, ?_⟩; replace HO_0 := rG HO_0 hb; replace HK := aM (Kept.below (S := (fun k_ => P0_ k_)) zq91 hb); replace HB := sB zq3 hb; clear hb; have p7 : 0 ≤ (x5_1 : Int) := of_decide_eq_true zq7; have q7 : (x5_1 : Int) < ((x0_1.length : Int) : Int) := of_decide_eq_true zq7; obtain ⟨ce7, hcl7, hM7, hcc7, hfr7⟩ := Kd.R_elem HO_0.out z68 (x5_1 : Int) p7 q7; obtain rfl := k68_openM hM7; have hx7_0 : w11.cell? ⟨go5, (x5_1 : Int).toNat * 2, none⟩ = some (.int .i64 ((rd_T68 y160 x5_1).f0)) := hcc7 0 _ rfl; have hx7_1 : w11.cell? ⟨go5, (x5_1 : Int).toNat * 2 + 1, none⟩ = some (.string ((rd_T68 y160 x5_1).f1)) := hcc7 1 _ rfl; have hf7_0 : w11.frozen? ⟨go5, (x5_1 : Int).toNat * 2, none⟩ = false := (hfr7 0 (by decide)); have hf7_1 : w11.frozen? ⟨go5, (x5_1 : Int).toNat * 2 + 1, none⟩ = false := (hfr7 1 (by decide)); clear hcl7 hcc7 hfr7 hM7; replace p7 := eq_true p7; replace q7 := eq_true q7; have HX12 := aM (show Kd.R k68 68 w11 w0.heap.size (fun k_ => (P0_ k_ ∨ w.heap.size ≤ k_)) (.slice (some ⟨go5, 0, none⟩) x0_1.length co8) y160 from zq275); obtain ⟨ce12, hcl12, hM12, hcc12, hfr12⟩ := Kd.R_elem HX12.out z68 (x5_1 : Int) (of_decide_eq_true zq7) zq375; obtain rfl := k68_openM hM12; have HP12 := Kd.R_seg HX12.out (x5_1 : Int) (of_decide_eq_true zq7) zq375 (seg := [.string t161]) (j := 1) hcl12 hcc12 (show 2 ≤ 2 from by decide) (x' := (⟨(rd_T68 y160 x5_1).f0, t161⟩ : S68)) (k68_mkM _ _ _ (⟨(rd_T68 y160 x5_1).f0, t161⟩ : S68) ) (fun _ hk => hk); have hx12_1 := hcc12 1 _ rfl; (try simp only [show (k68).sz = 2 from rfl, Nat.mul_one, Nat.add_zero] at hx12_1); have hf12_1 := (hfr12 1 (by decide)); (try simp only [show (k68).sz = 2 from rfl, Nat.mul_one, Nat.add_zero] at hf12_1); clear hcl12 hcc12 hfr12 hM12) | ((with_reducible refine gate_store (t := 9) (p := 24) rfl ?_); refine store_event (t := 9) (p := 24) (v := ?vo_w13) (w1 := (w11.setCell ⟨go5, (x5_1 : Int).toNat * 2 + 1, none⟩ (.string t161))) ?hg ?ho ?hn ?hr ?_; (case ho => rfl); (case hg => rfl); (case hn => rfl); (case hr => exact zq2); intro w13 hw; have hg : w11.grownBy w13 (some go5) := (by rw [hw]; exact HP12.2); have hp_ : Kd.R k68 68 w13 w0.heap.size (fun k_ => (P0_ k_ ∨ w.heap.size ≤ k_)) (.slice (some ⟨go5, 0, none⟩) x0_1.length co8) y162 := (by rw [hw, Ny162.out]; exact HP12.1); clear HP12; replace HB := aM (by rw [hw]; exact below_set (HB.out) GB5.out : Below w0.heap.size w0 w13); replace HK := aM (Kept.of_grown (S := (fun k_ => P0_ k_)) hg zq91 (fun k_ e_ => (HO_0.out.1 k_ e_))); replace HO_0 := aM hp_; clear hg hw hp_))
     go_roundg k1
     case measure => have := HK1.out; omega
     case rel => exact ⟨(y162), (wrap64 ((wrap64 (x1_1 + 1)) + 1)), (wrap64 (x5_1 + 1)), zq6, zq6, H', ⟨zq9⟩, ⟨zq275⟩, ⟨zq91⟩, ⟨zq3⟩⟩
    exact zq398
   rw [if_neg c3] at H; have c3b0 := decide_eq_false c3; clear c3; simp only [Option.some.injEq, Prod.mk.injEq] at H; obtain ⟨rfl, rfl⟩ := H; obtain ⟨Ao14, co14, eo14⟩ := Kd.R_slice HO_0.out; subst eo14; go_wp2; go_ret; exact ⟨zq4, zq275, zq3, zq91⟩
def laws_markStore.f (k : Nat) (a0_0 : Int) (l0_1 : List (S66)) (l0_2 : List (S68)) (a0_3 : Int) (a1 : Int) : Option (Int × (List (S66)) × (List (S68))) := (laws_markBlobS.f k l0_1 a1).bind fun bt164 => ((laws_markUploadS.f k l0_2 bt164.1).bind fun bt166 => (some (bt166.1, bt164.2, bt166.2)))
theorem laws_markStore.mono : ∀ a0 a1 a2 a3 a4 k, LeO (laws_markStore.f k a0 a1 a2 a3 a4) (laws_markStore.f (k + 1) a0 a1 a2 a3 a4) := by
 intro a0 a1 a2 a3 a4 k; unfold laws_markStore.f
 repeat' first
   | (with_reducible apply laws_markBlobS.mono)
   | (with_reducible apply laws_markUploadS.mono)
   | (with_reducible exact LeO.refl _)
   | (with_reducible exact LeO.none _)
   | (with_reducible refine LeO.ite ?_ ?_)
   | (with_reducible refine LeO.bind ?_ (fun _ => ?_))
   | exact LeO.none _
   | refine LeO.ite ?_ ?_
   | refine LeO.bind ?_ (fun _ => ?_)
set_option maxHeartbeats 8000000 in
set_option maxRecDepth 100000 in
theorem laws_markStore.calls (k : Nat) (a0_0 : Int) (P0_1_ : Nat → Prop) (u9000_ : Value) (l0_1 : List (S66)) (P0_2_ : Nat → Prop) (u9001_ : Value) (l0_2 : List (S68)) (a0_3 : Int) (a1 : Int) (r1 : Int) (r2 : List (S66)) (r3 : List (S68)) (w0 w : World) (hB : Below w0.heap.size w0 w) (ho0_1 : Kd.R k66 66 w w0.heap.size P0_1_ u9000_ l0_1) (ho0_2 : Kd.R k68 68 w w0.heap.size P0_2_ u9001_ l0_2) (h : laws_markStore.f k a0_0 l0_1 l0_2 a0_3 a1 = some (r1, r2, r3)) :
  Calls Try.prog 27 #[.agg #[.int .i64 a0_0, u9000_, u9001_, .int .i64 a0_3], .int .i64 a1] w fun e w' => e = .returned (.int .i64 r1) ∧ Kd.R k66 66 w' w0.heap.size (fun k_ => ((P0_1_ k_ ∨ P0_2_ k_) ∨ w.heap.size ≤ k_)) u9000_ r2 ∧ Kd.R k68 68 w' w0.heap.size (fun k_ => ((P0_1_ k_ ∨ P0_2_ k_) ∨ w.heap.size ≤ k_)) u9001_ r3 ∧ Below w0.heap.size w0 w' ∧ Kept w w' (fun k_ => P0_1_ k_ ∨ P0_2_ k_) := by
 have hu31 := Try.underlying31; have HO0_1 := aM (show Kd.R k66 66 w w0.heap.size (fun k_ => ((P0_1_ k_ ∨ P0_2_ k_) ∨ w.heap.size ≤ k_)) u9000_ l0_1 from Kd.R_mono ho0_1 (fun k_ hk => (.inl (.inl hk)))); have HO0_2 := aM (show Kd.R k68 68 w w0.heap.size (fun k_ => ((P0_1_ k_ ∨ P0_2_ k_) ∨ w.heap.size ≤ k_)) u9001_ l0_2 from Kd.R_mono ho0_2 (fun k_ hk => (.inl (.inr hk)))); have HK := aM (Kept.refl w (fun k_ => P0_1_ k_ ∨ P0_2_ k_)); have HW0 := aM hB.size; have HB := aM hB; clear hB; unfold laws_markStore.f at h; have H := h; clear h; replace H := Option.bind_eq_some_iff.mp H; obtain ⟨⟨t164, t165⟩, A30, H⟩ := H; (try dsimp only at H); have A3 := aM A30; clear A30; replace H := Option.bind_eq_some_iff.mp H; obtain ⟨⟨t166, t167⟩, A40, H⟩ := H; (try dsimp only at H); have A4 := aM A40; clear A40; simp only [Option.some.injEq, Prod.mk.injEq] at H; obtain ⟨rfl, rfl, rfl⟩ := H; obtain ⟨Ao5, co5, eo5⟩ := Kd.R_slice HO0_1.out; subst eo5; obtain ⟨Ao6, co6, eo6⟩ := Kd.R_slice HO0_2.out; subst eo6; go_enter Try.func27, Try.ntmps27
 go_wp2_with (first | ((with_reducible refine gD 2 rfl ?_); refine bE 2 #[.int .i64 a0_0, .slice Ao5 l0_1.length co5, .slice Ao6 l0_2.length co6, .int .i64 a0_3] 31 ?_; intro gb163 hg w7 hbox hb; replace HO0_1 := rG HO0_1 hb; replace HO0_2 := rG HO0_2 hb; have BK163 := aM hbox; have GW163 := aM (by rw [hg]; exact (by first | exact HK.out.1 | exact (show Kept w _ (fun k_ => P0_1_ k_ ∨ P0_2_ k_) from by repeat (first | (with_reducible first | exact HK.out | apply Kept.alloc | apply Kept.drewN | apply Kept.drew) | exact HK.out)).1) : w.heap.size ≤ gb163); replace HK := aM (Kept.below (S := (fun k_ => P0_1_ k_ ∨ P0_2_ k_)) zq91 hb); have GE163 := aM (zq316 : w0.heap.size ≤ gb163); replace HB := sB zq3 hb; clear hb hbox hg; obtain ⟨hcz8_0, hcz8_1, hcz8_2, hcz8_3, hfz8_0, hfz8_1, hfz8_2, hfz8_3⟩ := cells4_ (w := w7) BK163) | ((with_reducible refine gC 61 rfl ?_); refine gL 8 Try.func61 #[.slice Ao5 l0_1.length co5, .int .i64 a1] ?_; (with_reducible refine (laws_markBlobS.calls k (fun k_ => some k_ = (.slice Ao5 l0_1.length co5 : Value).ownBlock) (.slice Ao5 l0_1.length co5) l0_1 a1 t164 t165 w0 _ ?_ ?_ A3.out).mono ?_); exact zq278; exact Kd.R_tight rfl HO0_1.out; rintro e w9 ⟨rfl, hy0, hb, hkp⟩; refine ⟨_, rfl, ?_⟩; replace HO0_2 := aM (Kd.R_mono (ok' := fun k_ => ((P0_1_ k_ ∨ P0_2_ k_) ∨ w.heap.size ≤ k_)) (Kd.R_keptB ((Kd.R_apart' HO0_2.out (Kd.R_typed HO0_1.out) (by decide))) hkp (fun k_ hk_ hs_ => by first | exact (hk_.2) hs_ | simp_all)) (fun k_ hk_ => by first | exact hk_.1.1 | simp_all)); replace BK163 := aM (blk_kept zq279 hkp (fun hs_ => (fun e_ => (Kd.R_ne HO0_1.out BK163.out (by decide)) e_) hs_)); replace HK := aM (Kept.then_ (S := (fun k_ => P0_1_ k_ ∨ P0_2_ k_)) zq280 hkp (fun k_ hs_ => (fun e_ => (HO0_1.out.1 k_ e_.symm)) hs_)); replace HO0_1 := aM (Kd.R_reok rfl hy0 (fun k_ e_ => HO0_1.out.1 k_ e_)); replace HB := aM hb; clear hb; (try clear hkp); (try clear hy0); obtain ⟨hcz10_0, hcz10_1, hcz10_2, hcz10_3, hfz10_0, hfz10_1, hfz10_2, hfz10_3⟩ := cells4_ (w := w9) BK163) | ((with_reducible refine gC 62 rfl ?_); refine gL 12 Try.func62 #[.slice Ao6 l0_2.length co6, .int .i64 t164] ?_; (with_reducible refine (laws_markUploadS.calls k (fun k_ => some k_ = (.slice Ao6 l0_2.length co6 : Value).ownBlock) (.slice Ao6 l0_2.length co6) l0_2 t164 t166 t167 w0 _ ?_ ?_ A4.out).mono ?_); exact zq278; exact Kd.R_tight rfl HO0_2.out; rintro e w11 ⟨rfl, hy0, hb, hkp⟩; refine ⟨_, rfl, ?_⟩; replace HO0_1 := aM (Kd.R_mono (ok' := fun k_ => ((P0_1_ k_ ∨ P0_2_ k_) ∨ w.heap.size ≤ k_)) (Kd.R_keptB ((Kd.R_apart' HO0_1.out (Kd.R_typed HO0_2.out) (by decide))) hkp (fun k_ hk_ hs_ => by first | exact (hk_.2) hs_ | simp_all)) (fun k_ hk_ => by first | exact hk_.1.1 | simp_all)); replace BK163 := aM (blk_kept zq279 hkp (fun hs_ => (fun e_ => (Kd.R_ne HO0_2.out BK163.out (by decide)) e_) hs_)); replace HK := aM (Kept.then_ (S := (fun k_ => P0_1_ k_ ∨ P0_2_ k_)) zq280 hkp (fun k_ hs_ => (fun e_ => (HO0_2.out.1 k_ e_.symm)) hs_)); replace HO0_2 := aM (Kd.R_reok rfl hy0 (fun k_ e_ => HO0_2.out.1 k_ e_)); replace HB := aM hb; clear hb; (try clear hkp); (try clear hy0)))
 go_ret; exact ⟨zq4, zq276, zq277, zq278, zq280⟩
def laws_heldBlobS.l0 : Nat → List (S66) → Int → Int → Option (Int)
 | 0, _, _, _ => none
 | k + 1, x0, x1, x5 => if x5 < (x0.length : Int) then (if 0 ≤ x5 then ((laws_markText.f k x1).bind fun t169 => (if ((rd_T66 x0 x5).f0).toList = t169.toList then ((laws_markText.f k (wrap64 (x1 + 1))).bind fun t171 => (if ((rd_T66 x0 x5).f1).toList = t171.toList then (laws_heldBlobS.l0 k x0 (wrap64 ((wrap64 (x1 + 1)) + 1)) (wrap64 (x5 + 1))) else (some (-1)))) else (some (-1)))) else (none)) else (some x1)
def laws_heldBlobS.f (k : Nat) (l0 : List (S66)) (a1 : Int) : Option (Int) := laws_heldBlobS.l0 k l0 a1 0
theorem laws_heldBlobS.mono_l : ∀ k, (∀ y0 y1 y2, LeO (laws_heldBlobS.l0 k y0 y1 y2) (laws_heldBlobS.l0 (k + 1) y0 y1 y2))
 | 0 => fun _ _ _ r h => by simp [laws_heldBlobS.l0] at h
 | k + 1 => by
  have ih0 := laws_heldBlobS.mono_l k
  ·
   intro y0 y1 y2; unfold laws_heldBlobS.l0
   repeat' first
   | (with_reducible apply ih0)
   | (with_reducible apply laws_markText.mono)
   | (with_reducible exact LeO.refl _)
   | (with_reducible exact LeO.none _)
   | (with_reducible refine LeO.ite ?_ ?_)
   | (with_reducible refine LeO.bind ?_ (fun _ => ?_))
   | exact LeO.none _
   | refine LeO.ite ?_ ?_
   | refine LeO.bind ?_ (fun _ => ?_)
theorem laws_heldBlobS.mono : ∀ a0 a1 k, LeO (laws_heldBlobS.f k a0 a1) (laws_heldBlobS.f (k + 1) a0 a1) := by
 intro a0 a1 k; have ih0 := laws_heldBlobS.mono_l k; unfold laws_heldBlobS.f
 repeat' first
   | (with_reducible apply ih0)
   | (with_reducible apply laws_markText.mono)
   | (with_reducible exact LeO.refl _)
   | (with_reducible exact LeO.none _)
   | (with_reducible refine LeO.ite ?_ ?_)
   | (with_reducible refine LeO.bind ?_ (fun _ => ?_))
   | exact LeO.none _
   | refine LeO.ite ?_ ?_
   | refine LeO.bind ?_ (fun _ => ?_)
def laws_heldBlobS.T4 : Bool × List (List Nat × List Nat) := (true, [([], []), ([], []), ([0, 1], [0, 1]), ([2], [2]), ([3], [3]), ([], []), ([5], [5]), ([4, 6], [4, 6])])
def laws_heldBlobS.B4 : List Nat := [0, 0, 3, 7, 15, 0, 32, 127]
theorem laws_heldBlobS.tab4 : rtab .any (opsOf Try.f66 4) = laws_heldBlobS.T4 := by kernel_rfl
theorem laws_heldBlobS.bits4 : waitsOk laws_heldBlobS.T4.2 laws_heldBlobS.B4 = true := by kernel_rfl
def laws_heldBlobS.T7 : Bool × List (List Nat × List Nat) := (true, [([], []), ([], []), ([0, 1], [0, 1]), ([2], [2]), ([3], [3]), ([], []), ([5], [5]), ([4, 6], [4, 6])])
def laws_heldBlobS.B7 : List Nat := [0, 0, 3, 7, 15, 0, 32, 127]
theorem laws_heldBlobS.tab7 : rtab .any (opsOf Try.f66 7) = laws_heldBlobS.T7 := by kernel_rfl
theorem laws_heldBlobS.bits7 : waitsOk laws_heldBlobS.T7.2 laws_heldBlobS.B7 = true := by kernel_rfl
set_option maxHeartbeats 8000000 in
set_option maxRecDepth 100000 in
theorem laws_heldBlobS.calls (k : Nat) (A0 : Option Addr) (c0 : Nat) (l0 : List (S66)) (a1 : Int) (r : Int) (w : World) (hr0 : Kd.C k66 w A0 l0.length l0) (hc0 : l0.length ≤ c0) (h : laws_heldBlobS.f k l0 a1 = some r) :
  Calls Try.prog 66 #[.slice A0 l0.length c0, .int .i64 a1] w fun e w' => e = .returned (.int .i64 r) ∧ Below w.heap.size w w' := by
 have HR0 := aM hr0; have HC0 := aM hc0; clear hr0 hc0; have HB := aM (Below.refl w.heap.size w); have H : (laws_heldBlobS.l0 k l0 a1 0) = some r := h; clear h; have H' := aM H; clear H; go_enter Try.func66, Try.ntmps66; go_wp2
 go_loopg [1, 5] k (fun kq v1 v5 w' => ∃ (x1_1 : Int) (x5_1 : Int), v1 = .int .i64 x1_1 ∧ v5 = .int .i64 x5_1 ∧ Aside0 (laws_heldBlobS.l0 kq l0 x1_1 x5_1 = some r) ∧ Aside0 (kq ≤ k) ∧ Aside0 (Below w.heap.size w w'))
 case atStart => exact ⟨(a1), (0), zq6, zq6, H', ⟨Nat.le_refl _⟩, ⟨zq3⟩⟩
 case round =>
  clear H'; (try clear p2); obtain ⟨x1_1, x5_1, rfl, rfl, HA, HK1, HB⟩ := hrel
  cases gk with
  | zero => exact absurd HA.out (by simp [laws_heldBlobS.l0])
  | succ k1 =>
   have H := HA.out; clear HA; simp only [laws_heldBlobS.l0] at H; by_cases c3 : x5_1 < (l0.length : Int)
   ·
    rw [if_pos c3] at H; have c3b0 := decide_eq_true c3; clear c3; by_cases c4 : 0 ≤ x5_1
    ·
     rw [if_pos c4] at H; have c4b0 := decide_eq_true c4; clear c4; replace H := Option.bind_eq_some_iff.mp H; obtain ⟨t169, A50, H⟩ := H; (try dsimp only at H); have A5 := aM A50; clear A50; by_cases c6 : ((rd_T66 l0 x5_1).f0).toList = t169.toList
     ·
      rw [if_pos c6] at H; have c6b0 : (((rd_T66 l0 x5_1).f0).toList == t169.toList) = true := beq_iff_eq.mpr c6; have c6b1 : (((rd_T66 l0 x5_1).f0).toList != t169.toList) = false := bne_eq_false_iff_eq.mpr c6; clear c6; replace H := Option.bind_eq_some_iff.mp H; obtain ⟨t171, A70, H⟩ := H; (try dsimp only at H); have A7 := aM A70; clear A70; by_cases c8 : ((rd_T66 l0 x5_1).f1).toList = t171.toList
      ·
       rw [if_pos c8] at H; have c8b0 : (((rd_T66 l0 x5_1).f1).toList == t171.toList) = true := beq_iff_eq.mpr c8; have c8b1 : (((rd_T66 l0 x5_1).f1).toList != t171.toList) = false := bne_eq_false_iff_eq.mpr c8; clear c8; have H' := aM H; clear H
       try go_wp2
       replace HB := aM (below_drew1 HB.out); have p168 : 0 ≤ (x5_1 : Int) := of_decide_eq_true zq7; have q168 : x5_1 < (l0.length : Int) := of_decide_eq_true zq7; obtain ⟨ad168, e168, hx168_0, hx168_1⟩ := at_T66 HR0.out x5_1 p168 q168; have hw168_1 := hx168_1; have hw168_0 := hx168_0; cases e168; replace hx168_0 := hxB HB hx168_0; replace hx168_1 := hxB HB hx168_1; replace p168 := eq_true p168; replace q168 := eq_true q168; refine start_ (n := 8) (S := fun w' => w'.cell? (ad168.add ((x5_1).toNat * 2)) = some (.string ((rd_T66 l0 x5_1).f0)) ∧ w'.cell? ⟨(ad168.add ((x5_1).toNat * 2)).block, (ad168.add ((x5_1).toNat * 2)).off + 1, none⟩ = some (.string ((rd_T66 l0 x5_1).f1))) (ds := []) (bA 8 0) (by kernel_rfl) rfl rfl ⟨(hxB HB hw168_0 : _), (hxB HB hw168_1 : _)⟩ (fun hHeld => ?_); refine with_tabW laws_heldBlobS.tab4 laws_heldBlobS.bits4 (fun HT_ HW_ => ?_)
       generalize wr.drew = w9 at HB hx168_0 hx168_1 hHeld ⊢; refine pV 0 12 8 1 ?_; refine pV 1 13 8 3 ?_; refine pV 2 14 8 7 ?_; refine pV 3 15 8 15 ?_; refine pV 5 17 8 47 ?_; refine tV 4 16 8 63 rfl zq399 ?_; refine oE 6 18 8 127 rfl (fun K hK => ?_); refine goes_ Try.func63 (by kernel_rfl) rfl #[.int .i64 x1_1] (by rfl) rfl rfl zq8 ?_
       with_reducible refine (laws_markText.calls k1 x1_1 t169 _ A5.out).mono ?_
       rintro e w10 ⟨rfl, hb⟩; refine ⟨_, rfl, ?_⟩; replace HB := sB zq3 hb; (try clear hb); (try clear hb2); (try clear hk); (try clear hi); refine hK.out _ _ ⟨(hxB HB hw168_0 : _), (hxB HB hw168_1 : _)⟩ (fun hHeld => ?_); clear hK K; refine norm_ (a' := ?_) ?_ ?_; rotate_left; exact zq409; refine pV 7 19 8 255 ?_; refine dE ?_
       try go_wp2
       replace HB := aM (below_drew1 HB.out); have p170 : 0 ≤ (x5_1 : Int) := of_decide_eq_true zq7; have q170 : x5_1 < (l0.length : Int) := of_decide_eq_true zq7; obtain ⟨ad170, e170, hx170_0, hx170_1⟩ := at_T66 HR0.out x5_1 p170 q170; have hw170_1 := hx170_1; have hw170_0 := hx170_0; obtain rfl : ad168 = ad170 := (by injection e170); replace hx170_0 := hxB HB hx170_0; replace hx170_1 := hxB HB hx170_1; replace p170 := eq_true p170; replace q170 := eq_true q170; refine start_ (n := 8) (S := fun w' => w'.cell? (ad168.add ((x5_1).toNat * 2)) = some (.string ((rd_T66 l0 x5_1).f0)) ∧ w'.cell? ⟨(ad168.add ((x5_1).toNat * 2)).block, (ad168.add ((x5_1).toNat * 2)).off + 1, none⟩ = some (.string ((rd_T66 l0 x5_1).f1))) (ds := []) (bA 8 0) (by kernel_rfl) rfl rfl ⟨(hxB HB hw170_0 : _), (hxB HB hw170_1 : _)⟩ (fun hHeld => ?_); refine with_tabW laws_heldBlobS.tab7 laws_heldBlobS.bits7 (fun HT_ HW_ => ?_)
       generalize w10.drew = w11 at HB hx170_0 hx170_1 hHeld ⊢; refine pV 0 22 8 1 ?_; refine pV 1 23 8 3 ?_; refine pV 2 24 8 7 ?_; refine pV 3 25 8 15 ?_; refine pV 5 27 8 47 ?_; refine tV 4 26 8 63 rfl zq399 ?_; refine oE 6 28 8 127 rfl (fun K hK => ?_); refine goes_ Try.func63 (by kernel_rfl) rfl #[.int .i64 (wrap64 (x1_1 + 1))] (by rfl) rfl rfl zq8 ?_
       with_reducible refine (laws_markText.calls k1 (wrap64 (x1_1 + 1)) t171 _ A7.out).mono ?_
       rintro e w12 ⟨rfl, hb⟩; refine ⟨_, rfl, ?_⟩; replace HB := sB zq3 hb; (try clear hb); (try clear hb2); (try clear hk); (try clear hi); refine hK.out _ _ ⟨(hxB HB hw170_0 : _), (hxB HB hw170_1 : _)⟩ (fun hHeld => ?_); clear hK K; refine norm_ (a' := ?_) ?_ ?_; rotate_left
       ·
        show Act.put _ (some 28) _ = _
        simp only [Act.put, List.setIfInBounds_toArray, List.set_cons_zero, List.set_cons_succ, i64_w, i32_w]
        rfl
       refine pV 7 29 8 255 ?_; refine dE ?_
       try go_wp2
       go_roundg k1
       case measure => have := HK1.out; omega
       case rel => exact ⟨(wrap64 ((wrap64 (x1_1 + 1)) + 1)), (wrap64 (x5_1 + 1)), zq6, zq6, H', ⟨zq9⟩, ⟨zq3⟩⟩
      rw [if_neg c8] at H; have c8b0 : (((rd_T66 l0 x5_1).f1).toList == t171.toList) = false := beq_eq_false_iff_ne.mpr c8; have c8b1 : (((rd_T66 l0 x5_1).f1).toList != t171.toList) = true := bne_iff_ne.mpr c8; obtain rfl := Option.some.inj H
      try go_wp2
      replace HB := aM (below_drew1 HB.out); have p168 : 0 ≤ (x5_1 : Int) := of_decide_eq_true zq7; have q168 : x5_1 < (l0.length : Int) := of_decide_eq_true zq7; obtain ⟨ad168, e168, hx168_0, hx168_1⟩ := at_T66 HR0.out x5_1 p168 q168; have hw168_1 := hx168_1; have hw168_0 := hx168_0; cases e168; replace hx168_0 := hxB HB hx168_0; replace hx168_1 := hxB HB hx168_1; replace p168 := eq_true p168; replace q168 := eq_true q168; refine start_ (n := 8) (S := fun w' => w'.cell? (ad168.add ((x5_1).toNat * 2)) = some (.string ((rd_T66 l0 x5_1).f0)) ∧ w'.cell? ⟨(ad168.add ((x5_1).toNat * 2)).block, (ad168.add ((x5_1).toNat * 2)).off + 1, none⟩ = some (.string ((rd_T66 l0 x5_1).f1))) (ds := []) (bA 8 0) (by kernel_rfl) rfl rfl ⟨(hxB HB hw168_0 : _), (hxB HB hw168_1 : _)⟩ (fun hHeld => ?_); refine with_tabW laws_heldBlobS.tab4 laws_heldBlobS.bits4 (fun HT_ HW_ => ?_)
      generalize wr.drew = w13 at HB hx168_0 hx168_1 hHeld ⊢; refine pV 0 12 8 1 ?_; refine pV 1 13 8 3 ?_; refine pV 2 14 8 7 ?_; refine pV 3 15 8 15 ?_; refine pV 5 17 8 47 ?_; refine tV 4 16 8 63 rfl zq399 ?_; refine oE 6 18 8 127 rfl (fun K hK => ?_); refine goes_ Try.func63 (by kernel_rfl) rfl #[.int .i64 x1_1] (by rfl) rfl rfl zq8 ?_
      with_reducible refine (laws_markText.calls k1 x1_1 t169 _ A5.out).mono ?_
      rintro e w14 ⟨rfl, hb⟩; refine ⟨_, rfl, ?_⟩; replace HB := sB zq3 hb; (try clear hb); (try clear hb2); (try clear hk); (try clear hi); refine hK.out _ _ ⟨(hxB HB hw168_0 : _), (hxB HB hw168_1 : _)⟩ (fun hHeld => ?_); clear hK K; refine norm_ (a' := ?_) ?_ ?_; rotate_left; exact zq409; refine pV 7 19 8 255 ?_; refine dE ?_
      try go_wp2
      replace HB := aM (below_drew1 HB.out); have p170 : 0 ≤ (x5_1 : Int) := of_decide_eq_true zq7; have q170 : x5_1 < (l0.length : Int) := of_decide_eq_true zq7; obtain ⟨ad170, e170, hx170_0, hx170_1⟩ := at_T66 HR0.out x5_1 p170 q170; have hw170_1 := hx170_1; have hw170_0 := hx170_0; obtain rfl : ad168 = ad170 := (by injection e170); replace hx170_0 := hxB HB hx170_0; replace hx170_1 := hxB HB hx170_1; replace p170 := eq_true p170; replace q170 := eq_true q170; refine start_ (n := 8) (S := fun w' => w'.cell? (ad168.add ((x5_1).toNat * 2)) = some (.string ((rd_T66 l0 x5_1).f0)) ∧ w'.cell? ⟨(ad168.add ((x5_1).toNat * 2)).block, (ad168.add ((x5_1).toNat * 2)).off + 1, none⟩ = some (.string ((rd_T66 l0 x5_1).f1))) (ds := []) (bA 8 0) (by kernel_rfl) rfl rfl ⟨(hxB HB hw170_0 : _), (hxB HB hw170_1 : _)⟩ (fun hHeld => ?_); refine with_tabW laws_heldBlobS.tab7 laws_heldBlobS.bits7 (fun HT_ HW_ => ?_)
      generalize w14.drew = w15 at HB hx170_0 hx170_1 hHeld ⊢; refine pV 0 22 8 1 ?_; refine pV 1 23 8 3 ?_; refine pV 2 24 8 7 ?_; refine pV 3 25 8 15 ?_; refine pV 5 27 8 47 ?_; refine tV 4 26 8 63 rfl zq399 ?_; refine oE 6 28 8 127 rfl (fun K hK => ?_); refine goes_ Try.func63 (by kernel_rfl) rfl #[.int .i64 (wrap64 (x1_1 + 1))] (by rfl) rfl rfl zq8 ?_
      with_reducible refine (laws_markText.calls k1 (wrap64 (x1_1 + 1)) t171 _ A7.out).mono ?_
      rintro e w16 ⟨rfl, hb⟩; refine ⟨_, rfl, ?_⟩; replace HB := sB zq3 hb; (try clear hb); (try clear hb2); (try clear hk); (try clear hi); refine hK.out _ _ ⟨(hxB HB hw170_0 : _), (hxB HB hw170_1 : _)⟩ (fun hHeld => ?_); clear hK K; refine norm_ (a' := ?_) ?_ ?_; rotate_left
      ·
       show Act.put _ (some 28) _ = _
       simp only [Act.put, List.setIfInBounds_toArray, List.set_cons_zero, List.set_cons_succ, i64_w, i32_w]
       rfl
      refine pV 7 29 8 255 ?_; refine dE ?_
      try go_wp2
      go_ret; exact ⟨zq4, zq3⟩
     rw [if_neg c6] at H; have c6b0 : (((rd_T66 l0 x5_1).f0).toList == t169.toList) = false := beq_eq_false_iff_ne.mpr c6; have c6b1 : (((rd_T66 l0 x5_1).f0).toList != t169.toList) = true := bne_iff_ne.mpr c6; obtain rfl := Option.some.inj H
     try go_wp2
     replace HB := aM (below_drew1 HB.out); have p168 : 0 ≤ (x5_1 : Int) := of_decide_eq_true zq7; have q168 : x5_1 < (l0.length : Int) := of_decide_eq_true zq7; obtain ⟨ad168, e168, hx168_0, hx168_1⟩ := at_T66 HR0.out x5_1 p168 q168; have hw168_1 := hx168_1; have hw168_0 := hx168_0; cases e168; replace hx168_0 := hxB HB hx168_0; replace hx168_1 := hxB HB hx168_1; replace p168 := eq_true p168; replace q168 := eq_true q168; refine start_ (n := 8) (S := fun w' => w'.cell? (ad168.add ((x5_1).toNat * 2)) = some (.string ((rd_T66 l0 x5_1).f0)) ∧ w'.cell? ⟨(ad168.add ((x5_1).toNat * 2)).block, (ad168.add ((x5_1).toNat * 2)).off + 1, none⟩ = some (.string ((rd_T66 l0 x5_1).f1))) (ds := []) (bA 8 0) (by kernel_rfl) rfl rfl ⟨(hxB HB hw168_0 : _), (hxB HB hw168_1 : _)⟩ (fun hHeld => ?_); refine with_tabW laws_heldBlobS.tab4 laws_heldBlobS.bits4 (fun HT_ HW_ => ?_)
     generalize wr.drew = w17 at HB hx168_0 hx168_1 hHeld ⊢; refine pV 0 12 8 1 ?_; refine pV 1 13 8 3 ?_; refine pV 2 14 8 7 ?_; refine pV 3 15 8 15 ?_; refine pV 5 17 8 47 ?_; refine tV 4 16 8 63 rfl zq399 ?_; refine oE 6 18 8 127 rfl (fun K hK => ?_); refine goes_ Try.func63 (by kernel_rfl) rfl #[.int .i64 x1_1] (by rfl) rfl rfl zq8 ?_
     with_reducible refine (laws_markText.calls k1 x1_1 t169 _ A5.out).mono ?_
     rintro e w18 ⟨rfl, hb⟩; refine ⟨_, rfl, ?_⟩; replace HB := sB zq3 hb; (try clear hb); (try clear hb2); (try clear hk); (try clear hi); refine hK.out _ _ ⟨(hxB HB hw168_0 : _), (hxB HB hw168_1 : _)⟩ (fun hHeld => ?_); clear hK K; refine norm_ (a' := ?_) ?_ ?_; rotate_left; exact zq409; refine pV 7 19 8 255 ?_; refine dE ?_
     try go_wp2
     go_ret; exact ⟨zq4, zq3⟩
    exact zq398
   rw [if_neg c3] at H; have c3b0 := decide_eq_false c3; clear c3; obtain rfl := Option.some.inj H; go_wp2; go_ret; exact ⟨zq4, zq3⟩
end Go.Proofs.Ytacaeebjanglgaa.QFnExactKeep
