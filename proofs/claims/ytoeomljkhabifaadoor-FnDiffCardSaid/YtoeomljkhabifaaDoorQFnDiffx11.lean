/- Written by wip/myprint.py of this repo (the kit's print, with additions of this session). -/
import Derived.Test.YtoeomljkhabifaaDoorQFnDiffx0
import Derived.Test.YtoeomljkhabifaaDoorQFnDiffx3
import Derived.Test.YtoeomljkhabifaaDoorQFnDiffx4
import Derived.Test.YtoeomljkhabifaaDoorQFnDiffx7
import Derived.Test.YtoeomljkhabifaaDoorQFnDiffx9
import Derived.Test.YtoeomljkhabifaaDoorQFnDiffx10
set_option maxRecDepth 100000
namespace Go.Proofs.YtoeomljkhabifaaDoor.QFnDiff
open Go.RowKit Go.Proofs.YtoeomljkhabifaaDoorW.PrintWords Go.Proofs.YtoeomljkhabifaaDoorW.PrintLast Go.Proofs.YtoeomljkhabifaaDoorW.PrintMore
attribute [local go_sem] max2_int min2_int max_two min_two max_three min_three max_four min_four   -- for this text's walks alone
set_option linter.unusedVariables false
set_option linter.unusedSimpArgs false

/-! ### spec_DrawSteps: function 16 -/
def spec_DrawSteps.f (k : Nat) (l0 : List Int) : Option (List ByteArray × List ByteArray) := (spec_l1Open.f l0).bind fun bt394 => ((spec_l1Rd_oddSet.f k bt394.1 bt394.2).bind fun bt397 => ((spec_l1Rd_once.f bt394.1 bt397.2 2).bind fun bt401 => (if bt401.1 = true then ((some (([] : List ByteArray) : List ByteArray)).bind fun y403 => (if y403.length + bt397.1.length < 8796093022208 then ((some (y403 ++ bt397.1 : List ByteArray)).bind fun y406 => (if (y406.length : Int) > 0 then ((spec_l1Rd_below.f bt394.1 bt401.2 (y406.length : Int)).bind fun bt409 => (if 0 ≤ bt409.1 then (if bt409.1 ≤ (y406.length : Int) then (if 0 ≤ (wrap64 (bt409.1 + 1)) then (if (wrap64 (bt409.1 + 1)) ≤ (y406.length : Int) then (some (bt397.1, (y406.eraseIdx (bt409.1 : Int).toNat))) else (none)) else (none)) else (none)) else (none))) else (some (bt397.1, y406)))) else (none))) else ((spec_l1Rd_oddSet.f k bt394.1 bt401.2).bind fun bt422 => (some (bt397.1, bt422.1))))))
theorem spec_DrawSteps.mono : ∀ a0 k, LeO (spec_DrawSteps.f k a0) (spec_DrawSteps.f (k + 1) a0) := by
 intro a0 k; unfold spec_DrawSteps.f
 repeat' first
   | (with_reducible apply spec_l1Rd_oddSet.mono)
   | (with_reducible exact LeO.refl _)
   | (with_reducible exact LeO.none _)
   | (with_reducible refine LeO.ite ?_ ?_)
   | (with_reducible refine LeO.bind ?_ (fun _ => ?_))
   | exact LeO.none _
   | refine LeO.ite ?_ ?_
   | refine LeO.bind ?_ (fun _ => ?_)
def spec_DrawSteps.T7 : Bool × List (List Nat × List Nat) := (true, [([], []), ([], []), ([0, 1], [0, 1]), ([], []), ([], []), ([4], [4]), ([3, 5], [3, 5]), ([2, 6], [2, 6]), ([7, 7, 0, 1, 2, 3, 4, 5, 6, 7], [0, 3, 7])])
def spec_DrawSteps.B7 : List Nat := [0, 0, 3, 0, 0, 16, 56, 127, 255]
theorem spec_DrawSteps.tab7 : rtab .any (opsOf Tryd.f16 7) = spec_DrawSteps.T7 := by kernel_rfl
theorem spec_DrawSteps.bits7 : waitsOk spec_DrawSteps.T7.2 spec_DrawSteps.B7 = true := by kernel_rfl
set_option maxHeartbeats 8000000 in
set_option maxRecDepth 100000 in
theorem spec_DrawSteps.calls (k : Nat) (A0 : Option Addr) (c0 : Nat) (l0 : List Int) (r1 : List ByteArray) (r2 : List ByteArray) (w : World) (hr0 : Kd.C (Kd.int .u8) w A0 l0.length l0) (hc0 : l0.length ≤ c0) (h : spec_DrawSteps.f k l0 = some (r1, r2)) :
  Calls Tryd.prog 16 #[.slice A0 l0.length c0] w fun e w' => ∃ v0_ v1_ : Value, e = .returned (.tuple #[v0_, v1_]) ∧ Kd.R Kd.string 9 w' w.heap.size (fun k_ => some k_ ≠ (v1_ : Value).ownBlock) v0_ r1 ∧ Kd.R Kd.string 9 w' w.heap.size (fun k_ => some k_ ≠ (v0_ : Value).ownBlock) v1_ r2 ∧ Below w.heap.size w w' := by
 have HR0 := aM hr0; have HC0 := aM hc0; clear hr0 hc0; have HB := aM (Below.refl w.heap.size w); unfold spec_DrawSteps.f at h; have H := h; clear h; replace H := Option.bind_eq_some_iff.mp H; obtain ⟨⟨t394, t395⟩, A20, H⟩ := H; (try dsimp only at H); have A2 := aM A20; clear A20; replace H := Option.bind_eq_some_iff.mp H; obtain ⟨⟨t397, t400⟩, A30, H⟩ := H; (try dsimp only at H); have A3 := aM A30; clear A30; replace H := Option.bind_eq_some_iff.mp H; obtain ⟨⟨t401, t402⟩, A40, H⟩ := H; (try dsimp only at H); have A4 := aM A40; clear A40; by_cases c5 : t401 = true
 ·
  subst c5; rw [if_pos rfl] at H; obtain ⟨y403, hy403⟩ : ∃ y_ : List ByteArray, y_ = (([] : List ByteArray)) := ⟨_, rfl⟩; have hy_ := hy403; replace H : (if y403.length + t397.length < 8796093022208 then ((some (y403 ++ t397 : List ByteArray)).bind fun y406 => (if (y406.length : Int) > 0 then ((spec_l1Rd_below.f t394 t402 (y406.length : Int)).bind fun bt409 => (if 0 ≤ bt409.1 then (if bt409.1 ≤ (y406.length : Int) then (if 0 ≤ (wrap64 (bt409.1 + 1)) then (if (wrap64 (bt409.1 + 1)) ≤ (y406.length : Int) then (some (t397, (y406.eraseIdx (bt409.1 : Int).toNat))) else (none)) else (none)) else (none)) else (none))) else (some (t397, y406)))) else (none)) = some (r1, r2) := hyE; clear hy_; have Ny403 := aM hy403; clear hy403; by_cases c6 : y403.length + t397.length < 8796093022208
  ·
   rw [if_pos c6] at H; have LMc6 := aM c6; clear c6; obtain ⟨y406, hy406⟩ : ∃ y_ : List ByteArray, y_ = (y403 ++ t397) := ⟨_, rfl⟩; have hy_ := hy406; replace H : (if (y406.length : Int) > 0 then ((spec_l1Rd_below.f t394 t402 (y406.length : Int)).bind fun bt409 => (if 0 ≤ bt409.1 then (if bt409.1 ≤ (y406.length : Int) then (if 0 ≤ (wrap64 (bt409.1 + 1)) then (if (wrap64 (bt409.1 + 1)) ≤ (y406.length : Int) then (some (t397, (y406.eraseIdx (bt409.1 : Int).toNat))) else (none)) else (none)) else (none)) else (none))) else (some (t397, y406))) = some (r1, r2) := hyE; clear hy_; have Ny406 := aM hy406; clear hy406; by_cases c7 : (y406.length : Int) > 0
   ·
    rw [if_pos c7] at H; have c7b0 : decide (0 < (y406.length : Int)) = true := decide_eq_true c7; have c7b1 : decide (0 < y406.length) = true := decide_eq_true (by omega); clear c7; replace H := Option.bind_eq_some_iff.mp H; obtain ⟨⟨t409, t410⟩, A80, H⟩ := H; (try dsimp only at H); have A8 := aM A80; clear A80; by_cases c9 : 0 ≤ t409
    ·
     rw [if_pos c9] at H; have c9b0 := eq_true c9; have c9b1 := decide_eq_true c9; clear c9; by_cases c10 : t409 ≤ (y406.length : Int)
     ·
      rw [if_pos c10] at H; have c10b0 := eq_true c10; have c10b1 := decide_eq_true c10; clear c10; obtain ⟨y411, hy411⟩ : ∃ y_ : List ByteArray, y_ = (y406.take (t409 : Int).toNat) := ⟨_, rfl⟩; have hy_ := hy411; replace H : (if 0 ≤ (wrap64 (t409 + 1)) then (if (wrap64 (t409 + 1)) ≤ (y406.length : Int) then (some (t397, (y406.eraseIdx (t409 : Int).toNat))) else (none)) else (none)) = some (r1, r2) := hyE; clear hy_; have Ny411 := aM hy411; clear hy411; obtain ⟨ji11, hji11⟩ : ∃ j_ : Int, (wrap64 (t409 + 1)) = j_ := ⟨_, rfl⟩; replace H : (if 0 ≤ (ji11) then (if (ji11) ≤ (y406.length : Int) then (some (t397, (y406.eraseIdx (t409 : Int).toNat))) else (none)) else (none)) = some (r1, r2) := by first | (rw [hji11] at H; exact H) | (simp only [hji11] at H ⊢; exact H)
      (try rw [hji11] at A2); (try rw [hji11] at A3); (try rw [hji11] at A4); (try rw [hji11] at A8); have hji11w : (IntKind.i64.wrap (t409 + 1)) = ji11 := (i64_w _).trans hji11; by_cases c12 : 0 ≤ (ji11)
      ·
       rw [if_pos c12] at H; have c12b0 := eq_true c12; have c12b1 := decide_eq_true c12; clear c12; by_cases c13 : (ji11) ≤ (y406.length : Int)
       ·
        rw [if_pos c13] at H; have c13b0 := eq_true c13; have c13b1 := decide_eq_true c13; clear c13; obtain ⟨y415, hy415⟩ : ∃ y_ : List ByteArray, y_ = (y406.drop ((ji11) : Int).toNat) := ⟨_, rfl⟩; have hy_ := hy415; replace H : (some (t397, (y406.eraseIdx (t409 : Int).toNat))) = some (r1, r2) := hyE; clear hy_; have Ny415 := aM hy415; clear hy415; obtain ⟨y419, hy419⟩ : ∃ y_ : List ByteArray, y_ = (y406.eraseIdx (t409 : Int).toNat) := ⟨_, rfl⟩; have hy_ := hy419; replace H : (some (t397, y419)) = some (r1, r2) := hyE; clear hy_; have Ny419 := aM hy419; clear hy419; simp only [Option.some.injEq, Prod.mk.injEq] at H; obtain ⟨rfl, rfl⟩ := H; go_enter Tryd.func16, Tryd.ntmps16
        try go_wp2_with (first | ((with_reducible refine gC 32 rfl ?_); refine gL 9 Tryd.func32 #[.slice A0 l0.length c0] ?_; (with_reducible refine (spec_l1Open.calls _ _ l0 t394 t395 w _ ?_ ?_ ?_ A2.out).mono ?_); exact zq4; exact HR0.out; exact zq30; rintro e w14 ⟨g396, rfl, hi, hb, hb2⟩; refine ⟨_, rfl, ?_⟩; replace HB := aM hb; have HI396 := aM hi; clear hb; (try clear hb2); (try clear hi)) | ((with_reducible refine gC 33 rfl ?_); refine gL 11 Tryd.func33 #[.pointer (some ⟨g396, 0, none⟩)] ?_; (with_reducible refine (spec_l1Rd_oddSet.calls k g396 t394 t395 t397 t400 w _ ?_ ?_ A3.out).mono ?_); exact zq31; exact zq32; rintro e w15 ⟨v398, rfl, ho0, hi, hb, hk⟩; refine ⟨_, rfl, ?_⟩; have HO399 := aM (Kd.R_lower ho0 (below_size zq32)); replace HB := aM hb; replace HI396 := aM hi; clear hb; (try clear hk); (try clear hi); (try clear ho0)) | ((with_reducible refine gC 34 rfl ?_); refine gL 13 Tryd.func34 #[.pointer (some ⟨g396, 0, none⟩), .int .i64 2] ?_; (with_reducible refine (spec_l1Rd_once.calls g396 t394 t400 2 true t402 w _ ?_ ?_ A4.out).mono ?_); exact zq31; exact zq32; rintro e w16 ⟨rfl, hi, hb, hk⟩; refine ⟨_, rfl, ?_⟩; replace HO399 := aM (Kd.R_mono (Kd.R_keep (IsS53.apart (show IsS53 w _ g396 t394 t400 from by repeat (first | (with_reducible first | exact HI396.out | apply IsS53.alloc | apply IsS53.drewN | apply IsS53.drew | apply IsS53.set_1) | exact HI396.out)) zq33 (by decide)) hk (fun _ h => h.2)) (fun _ h => h.1)); replace HB := aM hb; replace HI396 := aM hi; clear hb; (try clear hk); (try clear hi)) | ((with_reducible refine gD 14 rfl ?_); refine Kd.R_lit Kd.string _ 9 ?hg (N := 14) ?hd (xs := ([] : List ByteArray)) (inner := []) (ok := fun _ => True) (okp := fun _ => True) ?hr ?hp (fun _ hk => hk) trivial (Below.refl _ _) (Nat.le_refl _) (by simp) ?_; (case hd => rfl); (case hg => rfl); (case hr => exact zq8); (case hp => exact zq9); intro v404 w17 ho18 hb hg_ hnew_; clear hg_ hnew_; (first | rw [← Ny403.out] at ho18 | (simp only [Int.reduceToNat] at ho18; rw [← Ny403.out] at ho18)); have HO405 := aM (Kd.R_lower (Kd.R_new' ho18 (Kd.R_lt zq33)) (below_size zq32)); replace HO399 := aM (Kd.R_elder' zq33 (Kd.R_base ho18) hb); replace HB := sB zq32 hb; replace HI396 := aM (IsS53.below zq31 hb); clear hb ho18; obtain ⟨Ao20, co20, eo20⟩ := Kd.R_slice HO399.out; subst eo20) | ((with_reducible refine gate_builtin (b := .append) (xs := #[.tmp 14, .tmp 15]) rfl ?_); at_builtin; refine Kd.R_append_rows Kd.string (w0 := w) w.heap.size rfl (.tmp 14) (.tmp 15) 22 9 (.string ⟨#[]⟩) 16 rfl Tryd.underlying22 info9 rfl (by decide) (by omega) v404 y403 t397 _ _ _ (fun k_ => some k_ ≠ (.slice Ao20 t397.length co20 : Value).ownBlock) (fun _ => False) rfl rfl ?aO ?aR (fun _ _ h => h) (fun _ h => h.elim) ?aF ?aB ?aS ?aL ?_; (case aR => exact zq34); (case aB => exact zq32); (case aF => exact (fun k_ hk => Kd.fresh' (Kd.R_lt zq33) k_ hk)); (case aO => exact zq35); (case aS => exact (below_size zq32)); (case aL => have := LMc6.out; omega); intro v407 w19 ho hb hg hat; rw [← Ny406.out] at ho; have n0_ := aM (IsS53.grown zq31 hg (IsS53.own_ne HI396.out HO405.out (by decide))); have n1_ := aM (Kd.R_after (ok := (fun _ => True)) zq33 hg hat); have n2_ := aM (hb); have n3_ := aM (ho); clear HI396; clear HO399; clear HB; clear HO405; have HI396 := n0_; have HO399 := n1_; have HB := n2_; have HO408 := n3_; clear n0_ n1_ n2_ n3_; clear ho hb hg hat; obtain ⟨Ao21, co21, eo21⟩ := Kd.R_slice HO408.out; subst eo21) | ((with_reducible refine gC 35 rfl ?_); refine gL 23 Tryd.func35 #[.pointer (some ⟨g396, 0, none⟩), .int .i64 (y406.length : Int)] ?_; (with_reducible refine (spec_l1Rd_below.calls g396 t394 t402 (y406.length : Int) t409 t410 w _ ?_ ?_ A8.out).mono ?_); exact zq31; exact zq32; rintro e w22 ⟨rfl, hi, hb, hk⟩; refine ⟨_, rfl, ?_⟩; replace HO399 := aM (Kd.R_mono (Kd.R_keep (IsS53.apart (show IsS53 w _ g396 t394 t402 from by repeat (first | (with_reducible first | exact HI396.out | apply IsS53.alloc | apply IsS53.drewN | apply IsS53.drew | apply IsS53.set_1) | exact HI396.out)) zq33 (by decide)) hk (fun _ h => h.2)) (fun _ h => h.1)); replace HO408 := aM (Kd.R_mono (Kd.R_keep (IsS53.apart (show IsS53 w _ g396 t394 t402 from by repeat (first | (with_reducible first | exact HI396.out | apply IsS53.alloc | apply IsS53.drewN | apply IsS53.drew | apply IsS53.set_1) | exact HI396.out)) zq36 (by decide)) hk (fun _ h => h.2)) (fun _ h => h.1)); replace HB := aM hb; replace HI396 := aM hi; clear hb; (try clear hk); (try clear hi)))
        replace HO399 := aM (Kd.R_drew HO399.out); replace HO408 := aM (Kd.R_drew HO408.out); replace HI396 := aM (IsS53.drew HI396.out); replace HB := aM (below_drew1 HB.out); have q24 : (t409 : Int) ≤ ((y406.length : Int) : Int) := of_decide_eq_true zq6; obtain ⟨i024, hi024, _, hsz24, _⟩ := info_parts info9; have hroom24 : y406.length ≤ co21 := (Kd.R_reads' HO408.out).2.1; have hC24 : Kd.C Kd.string _ Ao21 y406.length y406 := (Kd.R_reads' HO408.out).2.2; have hcut24 := cut_to (P := Tryd.prog) 22 9 .i64 Tryd.underlying22 hi024 Ao21 y406.length co21 t409 (of_decide_eq_true zq6) q24 hroom24; have hr24 := Kd.C_take (m := (t409 : Int).toNat) hC24 (by omega); have hy24 : y411.length = (t409 : Int).toNat := (by rw [Ny411.out, List.length_take]; omega); rw [← Ny411.out] at hr24; rw [← hy24] at hcut24; have HR414 := aM hr24; have HC414 := aM (show y411.length ≤ co21 from by omega); clear hr24 hC24 hroom24 hi024 hsz24; have KY24 := aM hy24; clear hy24; have KL24 := aM (show (t409 : Int).toNat ≤ y406.length from by omega); replace q24 := eq_true q24; have q25 : ((ji11) : Int) ≤ ((y406.length : Int) : Int) := of_decide_eq_true zq6; obtain ⟨i025, hi025, _, hsz25, _⟩ := info_parts info9; have hroom25 : y406.length ≤ co21 := (Kd.R_reads' HO408.out).2.1; have hC25 : Kd.C Kd.string _ Ao21 y406.length y406 := (Kd.R_reads' HO408.out).2.2; have q025 : (0 : Int) ≤ ((ji11) : Int) := of_decide_eq_true zq6
        have hcut25 := cut_from (P := Tryd.prog) 22 9 .i64 Tryd.underlying22 hi025 1 hsz25 Ao21 y406.length co21 (ji11) q025 q25; have hr25 := Kd.C_drop (m := ((ji11) : Int).toNat) (c := co21) hC25 (by omega) hroom25; obtain ⟨A25, hA25⟩ : ∃ A1, A1 = (if co21 = ((ji11) : Int).toNat then Ao21 else (Ao21 : Option Addr).map (·.add (((ji11) : Int).toNat * 1))) := ⟨_, rfl⟩; obtain ⟨c25, hc25⟩ : ∃ c1, c1 = co21 - ((ji11) : Int).toNat := ⟨_, rfl⟩; have hy25 : y415.length = y406.length - ((ji11) : Int).toNat := (by rw [Ny415.out, List.length_drop] <;> omega); rw [show (y406).drop ((ji11) : Int).toNat = y415 from Ny415.out.symm] at hr25; replace hr25 : Kd.C Kd.string _ A25 y415.length y415 := (by rw [hA25]; exact hr25); rw [← hy25, ← hA25, ← hc25] at hcut25; have HR418 := aM hr25; have HC418 := aM (show y415.length ≤ c25 from by rw [hy25, hc25]; exact Nat.sub_le_sub_right hroom25 _); clear hr25 hC25 hroom25 hi025 hsz25 hc25; have KY25 := aM hy25; have KA25 := aM hA25; clear hy25 hA25; have KL25 := aM (show ((ji11) : Int).toNat ≤ y406.length from by omega); replace q25 := eq_true q25; obtain ⟨go27, co27, eo27, gb27, gl27, cl27, HG27⟩ := Kd.R_form HO408.out (by have hj_ : 0 ≤ (t409 : Int) := of_decide_eq_true zq6; have hl_ : (ji11 : Int) ≤ (y406.length : Int) := of_decide_eq_true zq6; have hh_ : (t409 : Int) ≤ (y406.length : Int) := of_decide_eq_true zq6; rw [← hji11] at hl_; unfold wrap64 at hl_; omega)
        (first | cases eo27 | (injection eo27 with ea_ en_ ec_; (first | subst ea_ | (injection ea_ with ea_; subst ea_)); subst ec_; clear en_))
        have GB27 := aM gb27; have GG27 := aM HG27; clear gb27 gl27 HG27; refine start_ (n := 9) (S := fun w' => True) (ds := []) (bA 9 0) (by kernel_rfl) rfl rfl trivial (fun hHeld => ?_); refine with_tabW spec_DrawSteps.tab7 spec_DrawSteps.bits7 (fun HT_ HW_ => ?_)
        generalize w22.drew = w23 at HO399 HO408 HI396 HB GG27 HR414 HR418 hHeld ⊢; refine pV 0 24 9 1 ?_; refine pV 1 25 9 3 ?_; refine pV 2 26 9 7 ?_; refine pV 3 27 9 15 ?_; refine pV 4 28 9 31 ?_; refine pV 5 29 9 63 ?_; refine pV 6 30 9 127 ?_; refine oE 7 31 9 255 rfl (fun K hK => ?_); have hj_ : 0 ≤ (t409 : Int) := of_decide_eq_true zq6; have hl_ : (ji11 : Int) ≤ (y406.length : Int) := of_decide_eq_true zq6; have hh_ : (t409 : Int) ≤ (y406.length : Int) := of_decide_eq_true zq6; have hb_ := (Kd.R_reads' HO408.out).2.2.2.1; have h0_ : (0 : Int) ≤ (ji11 : Int) := of_decide_eq_true zq6; have hy1_ := KY24.out; have hk_ : (ji11 : Int).toNat = y411.length + 1 := (by have hw_ : (ji11 : Int) = t409 + 1 := (by have h00_ := h0_; rw [← hji11] at h00_ ⊢; unfold wrap64 at h00_ ⊢; omega); rw [hw_]; omega); refine Kd.R_delete_step Kd.string (w0 := w) w.heap.size (by rfl) (.tmp 26) (.tmp 30) 22 9 rfl Tryd.underlying22 (by kernel_rfl) (g := go27) (n := y406.length) (c := co21) (k := y411.length) rfl rfl ?hA ?hm zq36 ?hk zq32 (below_size zq32) ?_
        (case hA => have ha_ := KA25.out; rw [hk_] at ha_; exact ha_)
        (case hm => have ha_ := KY25.out; omega)
        (case hk => omega)
        intro w26 ho hb hg; clear hj_ hl_ hh_ hb_ hk_ h0_; rw [hy1_, ← Ny419.out] at ho; clear hy1_; have hn_ : y406.length - 1 = y419.length := (by have := (Kd.R_reads' ho).1; omega); rw [hn_] at ho ⊢; clear hn_; replace HO399 := aM (Kd.R_after (v := (.slice (some ⟨go27, 0, none⟩) y406.length co21)) (v1 := .slice (some ⟨go27, 0, none⟩) y419.length co21) (ok := (fun _ => True)) zq33 hg (.inl rfl)); replace HI396 := aM (IsS53.grown zq31 hg (IsS53.own_ne HI396.out HO408.out (by decide))); replace HO408 := aM ho; replace HB := aM hb; clear ho hb hg; refine hK.out _ _ trivial (fun hHeld => ?_); clear hK K; refine norm_ (a' := ?_) ?_ ?_; rotate_left
        ·
         show Act.put _ (some 31) _ = _
         simp only [Act.put, List.setIfInBounds_toArray, List.set_cons_zero, List.set_cons_succ, i64_w, i32_w]
         rfl
        refine pV 8 6 9 511 ?_; refine dE ?_
        try go_wp2
        go_ret2
        exact ⟨_, _, by first | rfl | (simp [errW_none, errW_some] <;> rfl) | (simp only [← hji11]; first | rfl | (simp [errW_none, errW_some] <;> rfl)) | (simp [*, errW_none, errW_some] <;> rfl), zq37, zq36, zq32⟩
       exact zq143
      rw [if_neg c12] at H; exact absurd H (by simp)
     exact zq133
    exact zq134
   rw [if_neg c7] at H; have c7b0 : decide (0 < (y406.length : Int)) = false := decide_eq_false c7; have c7b1 : decide (0 < y406.length) = false := decide_eq_false (by omega); clear c7; simp only [Option.some.injEq, Prod.mk.injEq] at H; obtain ⟨rfl, rfl⟩ := H; go_enter Tryd.func16, Tryd.ntmps16
   go_wp2_with (first | ((with_reducible refine gC 32 rfl ?_); refine gL 9 Tryd.func32 #[.slice A0 l0.length c0] ?_; (with_reducible refine (spec_l1Open.calls _ _ l0 t394 t395 w _ ?_ ?_ ?_ A2.out).mono ?_); exact zq4; exact HR0.out; exact zq30; rintro e w28 ⟨g396, rfl, hi, hb, hb2⟩; refine ⟨_, rfl, ?_⟩; replace HB := aM hb; have HI396 := aM hi; clear hb; (try clear hb2); (try clear hi)) | ((with_reducible refine gC 33 rfl ?_); refine gL 11 Tryd.func33 #[.pointer (some ⟨g396, 0, none⟩)] ?_; (with_reducible refine (spec_l1Rd_oddSet.calls k g396 t394 t395 t397 t400 w _ ?_ ?_ A3.out).mono ?_); exact zq31; exact zq32; rintro e w29 ⟨v398, rfl, ho0, hi, hb, hk⟩; refine ⟨_, rfl, ?_⟩; have HO399 := aM (Kd.R_lower ho0 (below_size zq32)); replace HB := aM hb; replace HI396 := aM hi; clear hb; (try clear hk); (try clear hi); (try clear ho0)) | ((with_reducible refine gC 34 rfl ?_); refine gL 13 Tryd.func34 #[.pointer (some ⟨g396, 0, none⟩), .int .i64 2] ?_; (with_reducible refine (spec_l1Rd_once.calls g396 t394 t400 2 true t402 w _ ?_ ?_ A4.out).mono ?_); exact zq31; exact zq32; rintro e w30 ⟨rfl, hi, hb, hk⟩; refine ⟨_, rfl, ?_⟩; replace HO399 := aM (Kd.R_mono (Kd.R_keep (IsS53.apart (show IsS53 w _ g396 t394 t400 from by repeat (first | (with_reducible first | exact HI396.out | apply IsS53.alloc | apply IsS53.drewN | apply IsS53.drew | apply IsS53.set_1) | exact HI396.out)) zq33 (by decide)) hk (fun _ h => h.2)) (fun _ h => h.1)); replace HB := aM hb; replace HI396 := aM hi; clear hb; (try clear hk); (try clear hi)) | ((with_reducible refine gD 14 rfl ?_); refine Kd.R_lit Kd.string _ 9 ?hg (N := 14) ?hd (xs := ([] : List ByteArray)) (inner := []) (ok := fun _ => True) (okp := fun _ => True) ?hr ?hp (fun _ hk => hk) trivial (Below.refl _ _) (Nat.le_refl _) (by simp) ?_; (case hd => rfl); (case hg => rfl); (case hr => exact zq8); (case hp => exact zq9); intro v404 w31 ho32 hb hg_ hnew_; clear hg_ hnew_; (first | rw [← Ny403.out] at ho32 | (simp only [Int.reduceToNat] at ho32; rw [← Ny403.out] at ho32)); have HO405 := aM (Kd.R_lower (Kd.R_new' ho32 (Kd.R_lt zq33)) (below_size zq32)); replace HO399 := aM (Kd.R_elder' zq33 (Kd.R_base ho32) hb); replace HB := sB zq32 hb; replace HI396 := aM (IsS53.below zq31 hb); clear hb ho32; obtain ⟨Ao34, co34, eo34⟩ := Kd.R_slice HO399.out; subst eo34) | ((with_reducible refine gate_builtin (b := .append) (xs := #[.tmp 14, .tmp 15]) rfl ?_); at_builtin; refine Kd.R_append_rows Kd.string (w0 := w) w.heap.size rfl (.tmp 14) (.tmp 15) 22 9 (.string ⟨#[]⟩) 16 rfl Tryd.underlying22 info9 rfl (by decide) (by omega) v404 y403 t397 _ _ _ (fun k_ => some k_ ≠ (.slice Ao34 t397.length co34 : Value).ownBlock) (fun _ => False) rfl rfl ?aO ?aR (fun _ _ h => h) (fun _ h => h.elim) ?aF ?aB ?aS ?aL ?_; (case aR => exact zq34); (case aB => exact zq32); (case aF => exact (fun k_ hk => Kd.fresh' (Kd.R_lt zq33) k_ hk)); (case aO => exact zq35); (case aS => exact (below_size zq32)); (case aL => have := LMc6.out; omega); intro v407 w33 ho hb hg hat; rw [← Ny406.out] at ho; have n0_ := aM (IsS53.grown zq31 hg (IsS53.own_ne HI396.out HO405.out (by decide))); have n1_ := aM (Kd.R_after (ok := (fun _ => True)) zq33 hg hat); have n2_ := aM (hb); have n3_ := aM (ho); clear HI396; clear HO399; clear HB; clear HO405; have HI396 := n0_; have HO399 := n1_; have HB := n2_; have HO408 := n3_; clear n0_ n1_ n2_ n3_; clear ho hb hg hat; obtain ⟨Ao35, co35, eo35⟩ := Kd.R_slice HO408.out; subst eo35))
   go_ret2
   exact ⟨_, _, zq5, zq37, zq36, zq32⟩
  exact zq132
 replace c5 := Bool.eq_false_iff.mpr c5; subst c5; rw [if_neg (show ¬ (false = true) by decide)] at H; replace H := Option.bind_eq_some_iff.mp H; obtain ⟨⟨t422, t425⟩, A360, H⟩ := H; replace H : (some (t397, t422)) = some (r1, r2) := H; have A36 := aM A360; clear A360; simp only [Option.some.injEq, Prod.mk.injEq] at H; obtain ⟨rfl, rfl⟩ := H; go_enter Tryd.func16, Tryd.ntmps16
 go_wp2_with (first | ((with_reducible refine gC 32 rfl ?_); refine gL 9 Tryd.func32 #[.slice A0 l0.length c0] ?_; (with_reducible refine (spec_l1Open.calls _ _ l0 t394 t395 w _ ?_ ?_ ?_ A2.out).mono ?_); exact zq4; exact HR0.out; exact zq30; rintro e w37 ⟨g396, rfl, hi, hb, hb2⟩; refine ⟨_, rfl, ?_⟩; replace HB := aM hb; have HI396 := aM hi; clear hb; (try clear hb2); (try clear hi)) | ((with_reducible refine gC 33 rfl ?_); refine gL 11 Tryd.func33 #[.pointer (some ⟨g396, 0, none⟩)] ?_; (with_reducible refine (spec_l1Rd_oddSet.calls k g396 t394 t395 t397 t400 w _ ?_ ?_ A3.out).mono ?_); exact zq31; exact zq32; rintro e w38 ⟨v398, rfl, ho0, hi, hb, hk⟩; refine ⟨_, rfl, ?_⟩; have HO399 := aM (Kd.R_lower ho0 (below_size zq32)); replace HB := aM hb; replace HI396 := aM hi; clear hb; (try clear hk); (try clear hi); (try clear ho0)) | ((with_reducible refine gC 34 rfl ?_); refine gL 13 Tryd.func34 #[.pointer (some ⟨g396, 0, none⟩), .int .i64 2] ?_; (with_reducible refine (spec_l1Rd_once.calls g396 t394 t400 2 false t402 w _ ?_ ?_ A4.out).mono ?_); exact zq31; exact zq32; rintro e w39 ⟨rfl, hi, hb, hk⟩; refine ⟨_, rfl, ?_⟩; replace HO399 := aM (Kd.R_mono (Kd.R_keep (IsS53.apart (show IsS53 w _ g396 t394 t400 from by repeat (first | (with_reducible first | exact HI396.out | apply IsS53.alloc | apply IsS53.drewN | apply IsS53.drew | apply IsS53.set_1) | exact HI396.out)) zq33 (by decide)) hk (fun _ h => h.2)) (fun _ h => h.1)); replace HB := aM hb; replace HI396 := aM hi; clear hb; (try clear hk); (try clear hi)) | ((with_reducible refine gC 33 rfl ?_); refine gL 36 Tryd.func33 #[.pointer (some ⟨g396, 0, none⟩)] ?_; (with_reducible refine (spec_l1Rd_oddSet.calls k g396 t394 t402 t422 t425 w _ ?_ ?_ A36.out).mono ?_); exact zq31; exact zq32; rintro e w40 ⟨v423, rfl, ho0, hi, hb, hk⟩; refine ⟨_, rfl, ?_⟩; have HO424 := aM (Kd.R_lower (Kd.R_new' ho0 (Kd.R_lt zq33)) (below_size zq32)); replace HO399 := aM (Kd.R_mono (Kd.R_told (Kd.R_oldK (IsS53.apart (show IsS53 w _ g396 t394 t402 from by repeat (first | (with_reducible first | exact HI396.out | apply IsS53.alloc | apply IsS53.drewN | apply IsS53.drew | apply IsS53.set_1) | exact HI396.out)) zq33 (by decide)) hk) (Kd.R_base ho0)) (fun _ h_ => h_.1)); replace HB := aM hb; replace HI396 := aM hi; clear hb; (try clear hk); (try clear hi); (try clear ho0)))
 go_ret2
 exact ⟨_, _, zq5, zq37, by refine dR ?_; exact Kd.R_mono HO424.out (fun _ hk => hk.2), zq32⟩

/-! ### spec_l7Prefix: function 21 -/
def spec_l7Prefix.l0 : Nat → ByteArray → Int → Option (Bool)
 | 0, _, _ => none
 | k + 1, x0, x3 => if x3 < (x0.size : Int) then (if 0 ≤ x3 then ((spec_l1Hexit.f (bt x0 x3)).bind fun t426 => (if t426 < 0 then (some false) else (spec_l7Prefix.l0 k x0 (wrap64 (x3 + 1))))) else (none)) else (some (decide ((x0.size : Int) ≤ 2)))
def spec_l7Prefix.f (k : Nat) (a0 : ByteArray) : Option (Bool) := spec_l7Prefix.l0 k a0 0
theorem spec_l7Prefix.mono_l : ∀ k, (∀ y0 y1, LeO (spec_l7Prefix.l0 k y0 y1) (spec_l7Prefix.l0 (k + 1) y0 y1))
 | 0 => fun _ _ r h => by simp [spec_l7Prefix.l0] at h
 | k + 1 => by
  have ih0 := spec_l7Prefix.mono_l k
  ·
   intro y0 y1; unfold spec_l7Prefix.l0
   repeat' first
   | (with_reducible apply ih0)
   | (with_reducible exact LeO.refl _)
   | (with_reducible exact LeO.none _)
   | (with_reducible refine LeO.ite ?_ ?_)
   | (with_reducible refine LeO.bind ?_ (fun _ => ?_))
   | exact LeO.none _
   | refine LeO.ite ?_ ?_
   | refine LeO.bind ?_ (fun _ => ?_)
theorem spec_l7Prefix.mono : ∀ a0 k, LeO (spec_l7Prefix.f k a0) (spec_l7Prefix.f (k + 1) a0) := by
 intro a0 k; have ih0 := spec_l7Prefix.mono_l k; unfold spec_l7Prefix.f
 repeat' first
   | (with_reducible apply ih0)
   | (with_reducible exact LeO.refl _)
   | (with_reducible exact LeO.none _)
   | (with_reducible refine LeO.ite ?_ ?_)
   | (with_reducible refine LeO.bind ?_ (fun _ => ?_))
   | exact LeO.none _
   | refine LeO.ite ?_ ?_
   | refine LeO.bind ?_ (fun _ => ?_)
set_option maxHeartbeats 8000000 in
set_option maxRecDepth 100000 in
theorem spec_l7Prefix.calls (k : Nat) (a0 : ByteArray) (r : Bool) (w : World) (h : spec_l7Prefix.f k a0 = some r) :
  Calls Tryd.prog 21 #[.string a0] w fun e w' => e = .returned (.bool r) ∧ Drawn0 w w' := by
 have H : (spec_l7Prefix.l0 k a0 0) = some r := h; clear h; have H' := aM H; clear H; go_enter Tryd.func21, Tryd.ntmps21; go_wp2
 go_loopg [3] k (fun kq v3 w' => ∃ (x3_1 : Int), v3 = .int .i64 x3_1 ∧ Aside0 (spec_l7Prefix.l0 kq a0 x3_1 = some r) ∧ Aside0 (kq ≤ k) ∧ Drawn0 w w')
 case atStart => exact ⟨(0), zq1, H', ⟨Nat.le_refl _⟩, zq2⟩
 case round =>
  clear H'; obtain ⟨x3_1, rfl, HA, HK1, ⟨m1, rfl⟩⟩ := hrel
  cases gk with
  | zero => exact absurd HA.out (by simp [spec_l7Prefix.l0])
  | succ k1 =>
   have H := HA.out; clear HA; simp only [spec_l7Prefix.l0] at H; by_cases c2 : x3_1 < (a0.size : Int)
   ·
    rw [if_pos c2] at H; have c2b0 := decide_eq_true c2; clear c2; by_cases c3 : 0 ≤ x3_1
    ·
     rw [if_pos c3] at H; have c3b0 := decide_eq_true c3; clear c3; replace H := Option.bind_eq_some_iff.mp H; obtain ⟨t426, A50, H⟩ := H; (try dsimp only at H); have A5 := aM A50; clear A50; by_cases c6 : t426 < 0
     ·
      rw [if_pos c6] at H; have c6b0 := decide_eq_true c6; clear c6; obtain rfl := Option.some.inj H; have p4 : 0 ≤ (x3_1 : Int) := of_decide_eq_true zq6; have q4 : x3_1 < (a0.size : Int) := of_decide_eq_true zq6; have hx4 := bt_at a0 x3_1; replace p4 := eq_true p4; replace q4 := eq_true q4
      go_wp2_with (first | ((with_reducible refine gC 39 rfl ?_); refine gL 13 Tryd.func39 #[.int .u8 (bt a0 x3_1)] ?_; (with_reducible refine (spec_l1Hexit.calls (bt a0 x3_1) t426 _ A5.out).mono ?_); rintro e w' ⟨rfl, ⟨nd, rfl⟩⟩; refine ⟨_, rfl, ?_⟩))
      go_ret; exact ⟨zq1, zq2⟩
     rw [if_neg c6] at H; have c6b0 := decide_eq_false c6; clear c6; have H' := aM H; clear H; have p4 : 0 ≤ (x3_1 : Int) := of_decide_eq_true zq6; have q4 : x3_1 < (a0.size : Int) := of_decide_eq_true zq6; have hx4 := bt_at a0 x3_1; replace p4 := eq_true p4; replace q4 := eq_true q4
     go_wp2_with (first | ((with_reducible refine gC 39 rfl ?_); refine gL 13 Tryd.func39 #[.int .u8 (bt a0 x3_1)] ?_; (with_reducible refine (spec_l1Hexit.calls (bt a0 x3_1) t426 _ A5.out).mono ?_); rintro e w' ⟨rfl, ⟨nd, rfl⟩⟩; refine ⟨_, rfl, ?_⟩))
     go_roundg k1
     case measure => have := HK1.out; omega
     case rel => exact ⟨(wrap64 (x3_1 + 1)), zq1, H', ⟨zq7⟩, zq2⟩
    exact zq135
   rw [if_neg c2] at H; have c2b0 := decide_eq_false c2; clear c2; obtain rfl := Option.some.inj H; go_wp2; go_ret; exact ⟨zq1, zq2⟩

/-! ### spec_NodeOf: function 7 -/
def spec_NodeOf.f (k : Nat) (l0 : List ByteArray) (a1 : ByteArray) : Option (ByteArray × Bool) := (spec_l7Set.f k l0).bind fun t427 => (if t427 = true then ((spec_l7Prefix.f k a1).bind fun t428 => (if t428 = true then ((spec_l7Node.f k l0 a1).bind fun t429 => (some (t429, true))) else (some ((⟨#[]⟩ : ByteArray), false)))) else (some ((⟨#[]⟩ : ByteArray), false)))
theorem spec_NodeOf.mono : ∀ a0 a1 k, LeO (spec_NodeOf.f k a0 a1) (spec_NodeOf.f (k + 1) a0 a1) := by
 intro a0 a1 k; unfold spec_NodeOf.f
 repeat' first
   | (with_reducible apply spec_l7Node.mono)
   | (with_reducible apply spec_l7Prefix.mono)
   | (with_reducible apply spec_l7Set.mono)
   | (with_reducible exact LeO.refl _)
   | (with_reducible exact LeO.none _)
   | (with_reducible refine LeO.ite ?_ ?_)
   | (with_reducible refine LeO.bind ?_ (fun _ => ?_))
   | exact LeO.none _
   | refine LeO.ite ?_ ?_
   | refine LeO.bind ?_ (fun _ => ?_)
set_option maxHeartbeats 8000000 in
set_option maxRecDepth 100000 in
theorem spec_NodeOf.calls (k : Nat) (A0 : Option Addr) (c0 : Nat) (l0 : List ByteArray) (a1 : ByteArray) (r1 : ByteArray) (r2 : Bool) (w : World) (hr0 : Kd.C Kd.string w A0 l0.length l0) (hc0 : l0.length ≤ c0) (h : spec_NodeOf.f k l0 a1 = some (r1, r2)) :
  Calls Tryd.prog 7 #[.slice A0 l0.length c0, .string a1] w fun e w' => e = .returned (.tuple #[.string r1, .bool r2]) ∧ Below w.heap.size w w' := by
 have HR0 := aM hr0; have HC0 := aM hc0; clear hr0 hc0; have HB := aM (Below.refl w.heap.size w); unfold spec_NodeOf.f at h; have H := h; clear h; replace H := Option.bind_eq_some_iff.mp H; obtain ⟨t427, A30, H⟩ := H; (try dsimp only at H); have A3 := aM A30; clear A30; by_cases c4 : t427 = true
 ·
  subst c4; rw [if_pos rfl] at H; replace H := Option.bind_eq_some_iff.mp H; obtain ⟨t428, A50, H⟩ := H; (try dsimp only at H); have A5 := aM A50; clear A50; by_cases c6 : t428 = true
  ·
   subst c6; rw [if_pos rfl] at H; replace H := Option.bind_eq_some_iff.mp H; obtain ⟨t429, A70, H⟩ := H; replace H : (some (t429, true)) = some (r1, r2) := H; have A7 := aM A70; clear A70; simp only [Option.some.injEq, Prod.mk.injEq] at H; obtain ⟨rfl, rfl⟩ := H; go_enter Tryd.func7, Tryd.ntmps7
   go_wp2_with (first | ((with_reducible refine gC 20 rfl ?_); refine gL 7 Tryd.func20 #[.slice A0 l0.length c0] ?_; (with_reducible refine (spec_l7Set.calls k _ _ l0 true _ ?_ ?_ A3.out).mono ?_); exact zq38; exact zq30; rintro e w' ⟨rfl, ⟨nd, rfl⟩⟩; refine ⟨_, rfl, ?_⟩) | (go_at_call 21; (with_reducible refine (spec_l7Prefix.calls k a1 true _ A5.out).mono ?_); rintro e w' ⟨rfl, ⟨nd, rfl⟩⟩) | ((with_reducible refine gC 22 rfl ?_); refine gL 16 Tryd.func22 #[.slice A0 l0.length c0, .string a1] ?_; (with_reducible refine (spec_l7Node.calls k _ _ l0 a1 t429 _ ?_ ?_ A7.out).mono ?_); exact zq38; exact zq30; rintro e w8 ⟨rfl, hb⟩; refine ⟨_, rfl, ?_⟩; replace HB := sB zq4 hb; clear hb))
   go_ret2
   exact ⟨zq5, zq4⟩
  replace c6 := Bool.eq_false_iff.mpr c6; subst c6; rw [if_neg (show ¬ (false = true) by decide)] at H; simp only [Option.some.injEq, Prod.mk.injEq] at H; obtain ⟨rfl, rfl⟩ := H; go_enter Tryd.func7, Tryd.ntmps7
  go_wp2_with (first | ((with_reducible refine gC 20 rfl ?_); refine gL 7 Tryd.func20 #[.slice A0 l0.length c0] ?_; (with_reducible refine (spec_l7Set.calls k _ _ l0 true _ ?_ ?_ A3.out).mono ?_); exact zq38; exact zq30; rintro e w' ⟨rfl, ⟨nd, rfl⟩⟩; refine ⟨_, rfl, ?_⟩) | (go_at_call 21; (with_reducible refine (spec_l7Prefix.calls k a1 false _ A5.out).mono ?_); rintro e w' ⟨rfl, ⟨nd, rfl⟩⟩))
  go_ret2
  exact ⟨zq5, zq4⟩
 replace c4 := Bool.eq_false_iff.mpr c4; subst c4; rw [if_neg (show ¬ (false = true) by decide)] at H; simp only [Option.some.injEq, Prod.mk.injEq] at H; obtain ⟨rfl, rfl⟩ := H; go_enter Tryd.func7, Tryd.ntmps7
 go_wp2_with (first | ((with_reducible refine gC 20 rfl ?_); refine gL 7 Tryd.func20 #[.slice A0 l0.length c0] ?_; (with_reducible refine (spec_l7Set.calls k _ _ l0 false _ ?_ ?_ A3.out).mono ?_); exact zq38; exact zq30; rintro e w' ⟨rfl, ⟨nd, rfl⟩⟩; refine ⟨_, rfl, ?_⟩))
 go_ret2
 exact ⟨zq5, zq4⟩

/-! ### laws_sameTexts: function 19 -/
def laws_sameTexts.l0 : Nat → List ByteArray → List ByteArray → Int → Option (Bool)
 | 0, _, _, _ => none
 | k + 1, x0, x1, x5 => if x5 < (x0.length : Int) then (if 0 ≤ x5 then (if x5 < (x1.length : Int) then (if (rdOf ByteArray.empty x0 x5).toList = (rdOf ByteArray.empty x1 x5).toList then (laws_sameTexts.l0 k x0 x1 (wrap64 (x5 + 1))) else (some false)) else (none)) else (none)) else (some true)
def laws_sameTexts.f (k : Nat) (l0 : List ByteArray) (l1 : List ByteArray) : Option (Bool) := if (l0.length : Int) = (l1.length : Int) then (laws_sameTexts.l0 k l0 l1 0) else (some false)
theorem laws_sameTexts.mono_l : ∀ k, (∀ y0 y1 y2, LeO (laws_sameTexts.l0 k y0 y1 y2) (laws_sameTexts.l0 (k + 1) y0 y1 y2))
 | 0 => fun _ _ _ r h => by simp [laws_sameTexts.l0] at h
 | k + 1 => by
  have ih0 := laws_sameTexts.mono_l k
  ·
   intro y0 y1 y2; unfold laws_sameTexts.l0
   repeat' first
   | (with_reducible apply ih0)
   | (with_reducible exact LeO.refl _)
   | (with_reducible exact LeO.none _)
   | (with_reducible refine LeO.ite ?_ ?_)
   | (with_reducible refine LeO.bind ?_ (fun _ => ?_))
   | exact LeO.none _
   | refine LeO.ite ?_ ?_
   | refine LeO.bind ?_ (fun _ => ?_)
theorem laws_sameTexts.mono : ∀ a0 a1 k, LeO (laws_sameTexts.f k a0 a1) (laws_sameTexts.f (k + 1) a0 a1) := by
 intro a0 a1 k; have ih0 := laws_sameTexts.mono_l k; unfold laws_sameTexts.f
 repeat' first
   | (with_reducible apply ih0)
   | (with_reducible exact LeO.refl _)
   | (with_reducible exact LeO.none _)
   | (with_reducible refine LeO.ite ?_ ?_)
   | (with_reducible refine LeO.bind ?_ (fun _ => ?_))
   | exact LeO.none _
   | refine LeO.ite ?_ ?_
   | refine LeO.bind ?_ (fun _ => ?_)
set_option maxHeartbeats 8000000 in
set_option maxRecDepth 100000 in
theorem laws_sameTexts.calls (k : Nat) (A0 : Option Addr) (c0 : Nat) (l0 : List ByteArray) (A1 : Option Addr) (c1 : Nat) (l1 : List ByteArray) (r : Bool) (w : World) (hr0 : Kd.C Kd.string w A0 l0.length l0) (hc0 : l0.length ≤ c0) (hr1 : Kd.C Kd.string w A1 l1.length l1) (hc1 : l1.length ≤ c1) (h : laws_sameTexts.f k l0 l1 = some r) :
  Calls Tryd.prog 19 #[.slice A0 l0.length c0, .slice A1 l1.length c1] w fun e w' => e = .returned (.bool r) ∧ Drawn0 w w' := by
 have HR0 := aM hr0; have HC0 := aM hc0; clear hr0 hc0; have HR1 := aM hr1; have HC1 := aM hc1; clear hr1 hc1; unfold laws_sameTexts.f at h; have H := h; clear h; by_cases c3 : (l0.length : Int) = (l1.length : Int)
 ·
  rw [if_pos c3] at H; have c3b0 : ((l0.length : Int) == (l1.length : Int)) = true := beq_iff_eq.mpr c3; have c3b1 : ((l0.length : Int) != (l1.length : Int)) = false := bne_eq_false_iff_eq.mpr c3; have c3b2 : (l0.length == l1.length) = true := by first | simpa using c3 | (simp at c3 ⊢; omega)
  clear c3; have H' := aM H; clear H; go_enter Tryd.func19, Tryd.ntmps19; go_wp2
  repeat (go_quiet (fail); try go_wp2)
  go_loopg [5] k (fun kq v5 w' => ∃ (x5_1 : Int), v5 = .int .i64 x5_1 ∧ Aside0 (laws_sameTexts.l0 kq l0 l1 x5_1 = some r) ∧ Aside0 (kq ≤ k) ∧ Drawn0 w w')
  case atStart => exact ⟨(0), zq1, H', ⟨Nat.le_refl _⟩, zq2⟩
  case round =>
   clear H'; (try clear c1); (try clear p2); (try clear c3); (try clear c3b0); (try clear c3b1); (try clear c3b2); obtain ⟨x5_1, rfl, HA, HK1, ⟨m1, rfl⟩⟩ := hrel
   cases gk with
   | zero => exact absurd HA.out (by simp [laws_sameTexts.l0])
   | succ k1 =>
    have H := HA.out; clear HA; simp only [laws_sameTexts.l0] at H; by_cases c4 : x5_1 < (l0.length : Int)
    ·
     rw [if_pos c4] at H; have c4b0 := decide_eq_true c4; clear c4; by_cases c5 : 0 ≤ x5_1
     ·
      rw [if_pos c5] at H; have c5b0 := decide_eq_true c5; clear c5; by_cases c6 : x5_1 < (l1.length : Int)
      ·
       rw [if_pos c6] at H; have c6b0 := decide_eq_true c6; clear c6; by_cases c7 : (rdOf ByteArray.empty l0 x5_1).toList = (rdOf ByteArray.empty l1 x5_1).toList
       ·
        rw [if_pos c7] at H; have c7b0 : ((rdOf ByteArray.empty l0 x5_1).toList == (rdOf ByteArray.empty l1 x5_1).toList) = true := beq_iff_eq.mpr c7; have c7b1 : ((rdOf ByteArray.empty l0 x5_1).toList != (rdOf ByteArray.empty l1 x5_1).toList) = false := bne_eq_false_iff_eq.mpr c7; clear c7; have H' := aM H; clear H; have p430 : 0 ≤ (x5_1 : Int) := of_decide_eq_true zq6; have q430 : x5_1 < (l0.length : Int) := of_decide_eq_true zq6; obtain ⟨ad430, e430, hx430_0⟩ := Kd.at_string HR0.out x5_1 p430 q430; cases e430; replace p430 := eq_true p430; replace q430 := eq_true q430; have p431 : 0 ≤ (x5_1 : Int) := of_decide_eq_true zq6; have q431 : x5_1 < (l1.length : Int) := of_decide_eq_true zq6; obtain ⟨ad431, e431, hx431_0⟩ := Kd.at_string HR1.out x5_1 p431 q431; cases e431; replace p431 := eq_true p431; replace q431 := eq_true q431; go_wp2
        repeat (go_quiet (fail); try go_wp2)
        go_roundg k1
        case measure => have := HK1.out; omega
        case rel => exact ⟨(wrap64 (x5_1 + 1)), zq1, H', ⟨zq7⟩, zq2⟩
       rw [if_neg c7] at H; have c7b0 : ((rdOf ByteArray.empty l0 x5_1).toList == (rdOf ByteArray.empty l1 x5_1).toList) = false := beq_eq_false_iff_ne.mpr c7; have c7b1 : ((rdOf ByteArray.empty l0 x5_1).toList != (rdOf ByteArray.empty l1 x5_1).toList) = true := bne_iff_ne.mpr c7; obtain rfl := Option.some.inj H; have p430 : 0 ≤ (x5_1 : Int) := of_decide_eq_true zq6; have q430 : x5_1 < (l0.length : Int) := of_decide_eq_true zq6; obtain ⟨ad430, e430, hx430_0⟩ := Kd.at_string HR0.out x5_1 p430 q430; cases e430; replace p430 := eq_true p430; replace q430 := eq_true q430; have p431 : 0 ≤ (x5_1 : Int) := of_decide_eq_true zq6; have q431 : x5_1 < (l1.length : Int) := of_decide_eq_true zq6; obtain ⟨ad431, e431, hx431_0⟩ := Kd.at_string HR1.out x5_1 p431 q431; cases e431; replace p431 := eq_true p431; replace q431 := eq_true q431; go_wp2
       repeat (go_quiet (fail); try go_wp2)
       go_ret; exact ⟨zq1, zq2⟩
      exact zq132
     exact zq130
    rw [if_neg c4] at H; have c4b0 := decide_eq_false c4; clear c4; obtain rfl := Option.some.inj H; go_wp2
    repeat (go_quiet (fail); try go_wp2)
    go_ret; exact ⟨zq1, zq2⟩
 rw [if_neg c3] at H; have c3b0 : ((l0.length : Int) == (l1.length : Int)) = false := beq_eq_false_iff_ne.mpr c3; have c3b1 : ((l0.length : Int) != (l1.length : Int)) = true := bne_iff_ne.mpr c3; have c3b2 : (l0.length == l1.length) = false := by first | simpa using c3 | (simp at c3 ⊢; omega)
 obtain rfl := Option.some.inj H; go_enter Tryd.func19, Tryd.ntmps19; go_wp2
 repeat (go_quiet (fail); try go_wp2)
 go_ret; exact ⟨zq1, zq2⟩

/-! ### spec_Under: function 36 -/
def spec_Under.f (k : Nat) (l0 : List ByteArray) (a1 : ByteArray) : Option (List ByteArray) := (spec_l7Set.f k l0).bind fun t432 => (if t432 = true then ((spec_l7Prefix.f k a1).bind fun t433 => (if t433 = true then ((spec_l7Under.f k l0 a1).bind fun t434 => (some t434)) else (some (([] : List ByteArray))))) else (some (([] : List ByteArray))))
theorem spec_Under.mono : ∀ a0 a1 k, LeO (spec_Under.f k a0 a1) (spec_Under.f (k + 1) a0 a1) := by
 intro a0 a1 k; unfold spec_Under.f
 repeat' first
   | (with_reducible apply spec_l7Prefix.mono)
   | (with_reducible apply spec_l7Set.mono)
   | (with_reducible apply spec_l7Under.mono)
   | (with_reducible exact LeO.refl _)
   | (with_reducible exact LeO.none _)
   | (with_reducible refine LeO.ite ?_ ?_)
   | (with_reducible refine LeO.bind ?_ (fun _ => ?_))
   | exact LeO.none _
   | refine LeO.ite ?_ ?_
   | refine LeO.bind ?_ (fun _ => ?_)
set_option maxHeartbeats 8000000 in
set_option maxRecDepth 100000 in
theorem spec_Under.calls (k : Nat) (A0 : Option Addr) (c0 : Nat) (l0 : List ByteArray) (a1 : ByteArray) (r : List ByteArray) (w : World) (hr0 : Kd.C Kd.string w A0 l0.length l0) (hc0 : l0.length ≤ c0) (h : spec_Under.f k l0 a1 = some r) :
  Calls Tryd.prog 36 #[.slice A0 l0.length c0, .string a1] w fun e w' => ∃ v0_ : Value, e = .returned (v0_) ∧ Kd.R Kd.string 9 w' w.heap.size (fun _ => True) v0_ r ∧ Below w.heap.size w w' := by
 have HR0 := aM hr0; have HC0 := aM hc0; clear hr0 hc0; have HB := aM (Below.refl w.heap.size w); unfold spec_Under.f at h; have H := h; clear h; replace H := Option.bind_eq_some_iff.mp H; obtain ⟨t432, A30, H⟩ := H; (try dsimp only at H); have A3 := aM A30; clear A30; by_cases c4 : t432 = true
 ·
  subst c4; rw [if_pos rfl] at H; replace H := Option.bind_eq_some_iff.mp H; obtain ⟨t433, A50, H⟩ := H; (try dsimp only at H); have A5 := aM A50; clear A50; by_cases c6 : t433 = true
  ·
   subst c6; rw [if_pos rfl] at H; replace H := Option.bind_eq_some_iff.mp H; obtain ⟨t434, A70, H⟩ := H; replace H : (some t434) = some r := H; have A7 := aM A70; clear A70; obtain rfl := Option.some.inj H; go_enter Tryd.func36, Tryd.ntmps36
   go_wp2_with (first | ((with_reducible refine gC 20 rfl ?_); refine gL 6 Tryd.func20 #[.slice A0 l0.length c0] ?_; (with_reducible refine (spec_l7Set.calls k _ _ l0 true _ ?_ ?_ A3.out).mono ?_); exact zq38; exact zq30; rintro e w' ⟨rfl, ⟨nd, rfl⟩⟩; refine ⟨_, rfl, ?_⟩) | (go_at_call 21; (with_reducible refine (spec_l7Prefix.calls k a1 true _ A5.out).mono ?_); rintro e w' ⟨rfl, ⟨nd, rfl⟩⟩) | ((with_reducible refine gC 26 rfl ?_); refine gL 16 Tryd.func26 #[.slice A0 l0.length c0, .string a1] ?_; (with_reducible refine (spec_l7Under.calls k _ _ l0 a1 t434 _ ?_ ?_ A7.out).mono ?_); exact zq38; exact zq30; rintro e w8 ⟨v435, rfl, ho0, hb⟩; refine ⟨_, rfl, ?_⟩; have HO436 := aM (Kd.R_lower ho0 (below_size zq4)); replace HB := sB zq4 hb; clear hb; (try clear ho0)))
   go_ret; exact ⟨_, zq5, by refine dR ?_; exact HO436.out, zq4⟩
  replace c6 := Bool.eq_false_iff.mpr c6; subst c6; rw [if_neg (show ¬ (false = true) by decide)] at H; obtain ⟨y437, hy437⟩ : ∃ y_ : List ByteArray, y_ = (([] : List ByteArray)) := ⟨_, rfl⟩; have hy_ := hy437; replace H : (some y437) = some r := hyE; clear hy_; have Ny437 := aM hy437; clear hy437; obtain rfl := Option.some.inj H; go_enter Tryd.func36, Tryd.ntmps36
  go_wp2_with (first | ((with_reducible refine gC 20 rfl ?_); refine gL 6 Tryd.func20 #[.slice A0 l0.length c0] ?_; (with_reducible refine (spec_l7Set.calls k _ _ l0 true _ ?_ ?_ A3.out).mono ?_); exact zq38; exact zq30; rintro e w' ⟨rfl, ⟨nd, rfl⟩⟩; refine ⟨_, rfl, ?_⟩) | (go_at_call 21; (with_reducible refine (spec_l7Prefix.calls k a1 false _ A5.out).mono ?_); rintro e w' ⟨rfl, ⟨nd, rfl⟩⟩) | ((with_reducible refine gD 13 rfl ?_); refine Kd.R_lit Kd.string _ 9 ?hg (N := 13) ?hd (xs := ([] : List ByteArray)) (inner := []) (ok := fun _ => True) (okp := fun _ => True) ?hr ?hp (fun _ hk => hk) trivial (Below.refl _ _) (Nat.le_refl _) (by simp) ?_; (case hd => rfl); (case hg => rfl); (case hr => exact zq8); (case hp => exact zq9); intro v438 w9 ho10 hb hg_ hnew_; clear hg_ hnew_; (first | rw [← Ny437.out] at ho10 | (simp only [Int.reduceToNat] at ho10; rw [← Ny437.out] at ho10)); have HO439 := aM (Kd.R_lower ho10 (below_size zq4)); replace HB := sB zq4 hb; clear hb ho10))
  go_ret; exact ⟨_, zq5, by refine dR ?_; exact HO439.out, zq4⟩
 replace c4 := Bool.eq_false_iff.mpr c4; subst c4; rw [if_neg (show ¬ (false = true) by decide)] at H; obtain ⟨y440, hy440⟩ : ∃ y_ : List ByteArray, y_ = (([] : List ByteArray)) := ⟨_, rfl⟩; have hy_ := hy440; replace H : (some y440) = some r := hyE; clear hy_; have Ny440 := aM hy440; clear hy440; obtain rfl := Option.some.inj H; go_enter Tryd.func36, Tryd.ntmps36
 go_wp2_with (first | ((with_reducible refine gC 20 rfl ?_); refine gL 6 Tryd.func20 #[.slice A0 l0.length c0] ?_; (with_reducible refine (spec_l7Set.calls k _ _ l0 false _ ?_ ?_ A3.out).mono ?_); exact zq38; exact zq30; rintro e w' ⟨rfl, ⟨nd, rfl⟩⟩; refine ⟨_, rfl, ?_⟩) | ((with_reducible refine gD 13 rfl ?_); refine Kd.R_lit Kd.string _ 9 ?hg (N := 13) ?hd (xs := ([] : List ByteArray)) (inner := []) (ok := fun _ => True) (okp := fun _ => True) ?hr ?hp (fun _ hk => hk) trivial (Below.refl _ _) (Nat.le_refl _) (by simp) ?_; (case hd => rfl); (case hg => rfl); (case hr => exact zq8); (case hp => exact zq9); intro v441 w11 ho12 hb hg_ hnew_; clear hg_ hnew_; (first | rw [← Ny440.out] at ho12 | (simp only [Int.reduceToNat] at ho12; rw [← Ny440.out] at ho12)); have HO442 := aM (Kd.R_lower ho12 (below_size zq4)); replace HB := sB zq4 hb; clear hb ho12))
 go_ret; exact ⟨_, zq5, by refine dR ?_; exact HO442.out, zq4⟩

end Go.Proofs.YtoeomljkhabifaaDoor.QFnDiff
