/- Written by wip/myprint.py of this repo (the kit's print, with additions of this session). -/
import Derived.Test.YtoeomljkhabifaaDoorQFnDiffx0
import Derived.Test.YtoeomljkhabifaaDoorQFnDiffx11
set_option maxRecDepth 100000
namespace Go.Proofs.YtoeomljkhabifaaDoor.QFnDiff
open Go.RowKit Go.Proofs.YtoeomljkhabifaaDoorW.PrintWords Go.Proofs.YtoeomljkhabifaaDoorW.PrintLast Go.Proofs.YtoeomljkhabifaaDoorW.PrintMore
attribute [local go_sem] max2_int min2_int max_two min_two max_three min_three max_four min_four   -- for this text's walks alone
set_option linter.unusedVariables false
set_option linter.unusedSimpArgs false

/-! ### laws_clash: function 17 -/
mutual
def laws_clash.l0 : Nat → List ByteArray → List ByteArray → List ByteArray → Int → Option (Bool)
 | 0, _, _, _, _ => none
 | k + 1, x0, x1, x5, x6 => if x6 < (x5.length : Int) then (if 0 ≤ x6 then ((spec_Under.f k x0 (rdOf ByteArray.empty x5 x6)).bind fun t447 => ((spec_Under.f k x1 (rdOf ByteArray.empty x5 x6)).bind fun t450 => ((laws_sameTexts.f k t447 t450).bind fun t453 => (if t453 = true then (laws_clash.l0 k x0 x1 x5 (wrap64 (x6 + 1))) else ((spec_NodeOf.f k x0 (rdOf ByteArray.empty x5 x6)).bind fun bt454 => ((spec_NodeOf.f k x1 (rdOf ByteArray.empty x5 x6)).bind fun bt456 => (if bt454.1.toList = bt456.1.toList then (some true) else (laws_clash.l1 k x0 x1 x5 x6 (rdOf ByteArray.empty x5 x6) 0)))))))) else (none)) else (some false)
def laws_clash.l1 : Nat → List ByteArray → List ByteArray → List ByteArray → Int → ByteArray → Int → Option (Bool)
 | 0, _, _, _, _, _, _ => none
 | k + 1, x0, x1, x5, x6, x7, x12 => if (x7.size : Int) < 2 then (if x12 < 16 then (if 0 ≤ x12 then (if x12 ≤ (wrap64 (x12 + 1)) then (if (wrap64 (x12 + 1)) ≤ 16 then (if x7.size + ((⟨#[48, 49, 50, 51, 52, 53, 54, 55, 56, 57, 97, 98, 99, 100, 101, 102]⟩ : ByteArray).extract (x12 : Int).toNat ((wrap64 (x12 + 1)) : Int).toNat).size ≤ 9223372036854775807 then (if x5.length < 8796093022208 then (laws_clash.l1 k x0 x1 (x5 ++ [x7 ++ ((⟨#[48, 49, 50, 51, 52, 53, 54, 55, 56, 57, 97, 98, 99, 100, 101, 102]⟩ : ByteArray).extract (x12 : Int).toNat ((wrap64 (x12 + 1)) : Int).toNat)]) x6 x7 (wrap64 (x12 + 1))) else (none)) else (none)) else (none)) else (none)) else (none)) else (laws_clash.l0 k x0 x1 x5 (wrap64 (x6 + 1)))) else (laws_clash.l0 k x0 x1 x5 (wrap64 (x6 + 1)))
end
def laws_clash.f (k : Nat) (l0 : List ByteArray) (l1 : List ByteArray) : Option (Bool) := laws_clash.l0 k l0 l1 (([(⟨#[]⟩ : ByteArray)] : List ByteArray)) 0
theorem laws_clash.mono_l : ∀ k, (∀ y0 y1 y2 y3, LeO (laws_clash.l0 k y0 y1 y2 y3) (laws_clash.l0 (k + 1) y0 y1 y2 y3)) ∧ (∀ y0 y1 y2 y3 y4 y5, LeO (laws_clash.l1 k y0 y1 y2 y3 y4 y5) (laws_clash.l1 (k + 1) y0 y1 y2 y3 y4 y5))
 | 0 => ⟨fun _ _ _ _ r h => by simp [laws_clash.l0] at h, fun _ _ _ _ _ _ r h => by simp [laws_clash.l1] at h⟩
 | k + 1 => by
  obtain ⟨ih0, ih1⟩ := laws_clash.mono_l k; refine ⟨?_, ?_⟩
  ·
   intro y0 y1 y2 y3; unfold laws_clash.l0
   repeat' first
   | (with_reducible apply ih0)
   | (with_reducible apply ih1)
   | (with_reducible apply laws_sameTexts.mono)
   | (with_reducible apply spec_NodeOf.mono)
   | (with_reducible apply spec_Under.mono)
   | (with_reducible exact LeO.refl _)
   | (with_reducible exact LeO.none _)
   | (with_reducible refine LeO.ite ?_ ?_)
   | (with_reducible refine LeO.bind ?_ (fun _ => ?_))
   | exact LeO.none _
   | refine LeO.ite ?_ ?_
   | refine LeO.bind ?_ (fun _ => ?_)
  intro y0 y1 y2 y3 y4 y5; unfold laws_clash.l1
  repeat' first
  | (with_reducible apply ih0)
  | (with_reducible apply ih1)
  | (with_reducible apply laws_sameTexts.mono)
  | (with_reducible apply spec_NodeOf.mono)
  | (with_reducible apply spec_Under.mono)
  | (with_reducible exact LeO.refl _)
  | (with_reducible exact LeO.none _)
  | (with_reducible refine LeO.ite ?_ ?_)
  | (with_reducible refine LeO.bind ?_ (fun _ => ?_))
  | exact LeO.none _
  | refine LeO.ite ?_ ?_
  | refine LeO.bind ?_ (fun _ => ?_)
theorem laws_clash.mono : ∀ a0 a1 k, LeO (laws_clash.f k a0 a1) (laws_clash.f (k + 1) a0 a1) := by
 intro a0 a1 k; obtain ⟨ih0, ih1⟩ := laws_clash.mono_l k; unfold laws_clash.f
 repeat' first
   | (with_reducible apply ih0)
   | (with_reducible apply ih1)
   | (with_reducible apply laws_sameTexts.mono)
   | (with_reducible apply spec_NodeOf.mono)
   | (with_reducible apply spec_Under.mono)
   | (with_reducible exact LeO.refl _)
   | (with_reducible exact LeO.none _)
   | (with_reducible refine LeO.ite ?_ ?_)
   | (with_reducible refine LeO.bind ?_ (fun _ => ?_))
   | exact LeO.none _
   | refine LeO.ite ?_ ?_
   | refine LeO.bind ?_ (fun _ => ?_)
set_option maxHeartbeats 8000000 in
set_option maxRecDepth 100000 in
theorem laws_clash.calls (k : Nat) (A0 : Option Addr) (c0 : Nat) (l0 : List ByteArray) (A1 : Option Addr) (c1 : Nat) (l1 : List ByteArray) (r : Bool) (w : World) (hr0 : Kd.C Kd.string w A0 l0.length l0) (hc0 : l0.length ≤ c0) (hr1 : Kd.C Kd.string w A1 l1.length l1) (hc1 : l1.length ≤ c1) (h : laws_clash.f k l0 l1 = some r) :
  Calls Tryd.prog 17 #[.slice A0 l0.length c0, .slice A1 l1.length c1] w fun e w' => e = .returned (.bool r) ∧ Below w.heap.size w w' := by
 have HR0 := aM hr0; have HC0 := aM hc0; clear hr0 hc0; have HR1 := aM hr1; have HC1 := aM hc1; clear hr1 hc1; have HB := aM (Below.refl w.heap.size w); unfold laws_clash.f at h; have H := h; clear h; obtain ⟨y443, hy443⟩ : ∃ y_ : List ByteArray, y_ = (([(⟨#[]⟩ : ByteArray)] : List ByteArray)) := ⟨_, rfl⟩; have hy_ := hy443; replace H : (laws_clash.l0 k l0 l1 y443 0) = some r := hyE; clear hy_; have Ny443 := aM hy443; clear hy443; have H' := aM H; clear H; go_enter Tryd.func17, Tryd.ntmps17
 go_wp2_with (first | ((with_reducible refine gD 13 rfl ?_); refine Kd.R_lit Kd.string _ 9 ?hg (N := 13) ?hd (xs := ([(⟨#[]⟩ : ByteArray)] : List ByteArray)) (inner := [.string (⟨#[]⟩ : ByteArray)]) (ok := fun _ => True) (okp := fun _ => True) ?hr ?hp (fun _ hk => hk) trivial (Below.refl _ _) (Nat.le_refl _) (by simp) ?_; (case hd => rfl); (case hg => rfl); (case hr => exact zq8); (case hp => exact zq39); intro v444 w3 ho4 hb hg_ hnew_; clear hg_ hnew_; (first | rw [← Ny443.out] at ho4 | (simp only [Int.reduceToNat] at ho4; rw [← Ny443.out] at ho4)); have HO445 := aM (Kd.R_lower ho4 (below_size zq4)); replace HB := sB zq4 hb; clear hb ho4))
 go_loopg [5, 6] k (fun kq v5 v6 w' => ∃ (x5_1 : List ByteArray) (x6_1 : Int), v6 = .int .i64 x6_1 ∧ Aside0 (laws_clash.l0 kq l0 l1 x5_1 x6_1 = some r) ∧ Aside0 (kq ≤ k) ∧ Aside0 (Kd.R Kd.string 9 w' w.heap.size (fun _ => True) v5 x5_1) ∧ Aside0 (Below w.heap.size w w'))
 case atStart => exact ⟨(y443), (0), zq1, H', ⟨Nat.le_refl _⟩, ⟨by refine dR ?_; exact HO445.out⟩, ⟨zq4⟩⟩
 case round =>
  clear H'; (try clear c1); (try clear p2); obtain ⟨x5_1, x6_1, rfl, HA, HK1, HO_5, HB⟩ := hrel
  cases gk with
  | zero => exact absurd HA.out (by simp [laws_clash.l0])
  | succ k1 =>
   have H := HA.out; clear HA; simp only [laws_clash.l0] at H; by_cases c5 : x6_1 < (x5_1.length : Int)
   ·
    rw [if_pos c5] at H; have c5b0 := decide_eq_true c5; clear c5; by_cases c6 : 0 ≤ x6_1
    ·
     rw [if_pos c6] at H; have c6b0 := decide_eq_true c6; clear c6; replace H := Option.bind_eq_some_iff.mp H; obtain ⟨t447, A70, H⟩ := H; (try dsimp only at H); have A7 := aM A70; clear A70; replace H := Option.bind_eq_some_iff.mp H; obtain ⟨t450, A80, H⟩ := H; (try dsimp only at H); have A8 := aM A80; clear A80; replace H := Option.bind_eq_some_iff.mp H; obtain ⟨t453, A90, H⟩ := H; (try dsimp only at H); have A9 := aM A90; clear A90; by_cases c10 : t453 = true
     ·
      subst c10; rw [if_pos rfl] at H; have H' := aM H; clear H; obtain ⟨Ao11, co11, eo11⟩ := Kd.R_slice HO_5.out; subst eo11; have p446 : 0 ≤ (x6_1 : Int) := of_decide_eq_true zq6; have q446 : x6_1 < (x5_1.length : Int) := of_decide_eq_true zq6; obtain ⟨ad446, e446, hx446_0⟩ := Kd.at_string (Kd.R_reads' HO_5.out).2.2 x6_1 p446 q446; cases e446; replace p446 := eq_true p446; replace q446 := eq_true q446
      go_wp2_with (first | ((with_reducible refine gC 36 rfl ?_); refine gL 26 Tryd.func36 #[.slice A0 l0.length c0, .string (rdOf ByteArray.empty x5_1 x6_1)] ?_; (with_reducible refine (spec_Under.calls k1 _ _ l0 (rdOf ByteArray.empty x5_1 x6_1) t447 _ ?_ ?_ A7.out).mono ?_); exact zq40; exact zq30; rintro e w12 ⟨v448, rfl, ho0, hb⟩; refine ⟨_, rfl, ?_⟩; have HO449 := aM (Kd.R_lower (Kd.R_new' ho0 (Kd.R_lt zq11)) (below_size zq4)); replace HO_5 := aM (Kd.R_elder' zq11 (Kd.R_base ho0) hb); replace HB := sB zq4 hb; clear hb; (try clear ho0)) | ((with_reducible refine gC 36 rfl ?_); refine gL 29 Tryd.func36 #[.slice A1 l1.length c1, .string (rdOf ByteArray.empty x5_1 x6_1)] ?_; (with_reducible refine (spec_Under.calls k1 _ _ l1 (rdOf ByteArray.empty x5_1 x6_1) t450 _ ?_ ?_ A8.out).mono ?_); exact zq41; exact zq42; rintro e w13 ⟨v451, rfl, ho0, hb⟩; refine ⟨_, rfl, ?_⟩; have HO452 := aM (Kd.R_lower (Kd.R_new' (Kd.R_new' ho0 (Kd.R_lt zq11)) (Kd.R_lt zq43)) (below_size zq4)); replace HO_5 := aM (Kd.R_elder' zq11 (Kd.R_base ho0) hb); replace HO449 := aM (Kd.R_elder' zq43 (Kd.R_base ho0) hb); replace HB := sB zq4 hb; clear hb; (try clear ho0); obtain ⟨Ao14, co14, eo14⟩ := Kd.R_slice HO449.out; subst eo14; obtain ⟨Ao15, co15, eo15⟩ := Kd.R_slice HO452.out; subst eo15) | ((with_reducible refine gC 19 rfl ?_); refine gL 30 Tryd.func19 #[.slice Ao14 t447.length co14, .slice Ao15 t450.length co15] ?_; (with_reducible refine (laws_sameTexts.calls k1 _ _ t447 _ _ t450 true _ ?_ ?_ ?_ ?_ A9.out).mono ?_); exact zq44; exact zq45; exact zq46; exact zq47; rintro e w' ⟨rfl, ⟨nd, rfl⟩⟩; refine ⟨_, rfl, ?_⟩))
      go_roundg k1
      case measure => have := HK1.out; omega
      case rel => exact ⟨(x5_1), (wrap64 (x6_1 + 1)), zq1, H', ⟨zq7⟩, ⟨zq48⟩, ⟨zq4⟩⟩
     replace c10 := Bool.eq_false_iff.mpr c10; subst c10; rw [if_neg (show ¬ (false = true) by decide)] at H; replace H := Option.bind_eq_some_iff.mp H; obtain ⟨⟨t454, t455⟩, A160, H⟩ := H; (try dsimp only at H); have A16 := aM A160; clear A160; replace H := Option.bind_eq_some_iff.mp H; obtain ⟨⟨t456, t457⟩, A170, H⟩ := H; (try dsimp only at H); have A17 := aM A170; clear A170; by_cases c18 : t454.toList = t456.toList
     ·
      rw [if_pos c18] at H; have c18b0 : (t454.toList == t456.toList) = true := beq_iff_eq.mpr c18; have c18b1 : (t454.toList != t456.toList) = false := bne_eq_false_iff_eq.mpr c18; clear c18; obtain rfl := Option.some.inj H; obtain ⟨Ao19, co19, eo19⟩ := Kd.R_slice HO_5.out; subst eo19; have p446 : 0 ≤ (x6_1 : Int) := of_decide_eq_true zq6; have q446 : x6_1 < (x5_1.length : Int) := of_decide_eq_true zq6; obtain ⟨ad446, e446, hx446_0⟩ := Kd.at_string (Kd.R_reads' HO_5.out).2.2 x6_1 p446 q446; cases e446; replace p446 := eq_true p446; replace q446 := eq_true q446
      go_wp2_with (first | ((with_reducible refine gC 36 rfl ?_); refine gL 26 Tryd.func36 #[.slice A0 l0.length c0, .string (rdOf ByteArray.empty x5_1 x6_1)] ?_; (with_reducible refine (spec_Under.calls k1 _ _ l0 (rdOf ByteArray.empty x5_1 x6_1) t447 _ ?_ ?_ A7.out).mono ?_); exact zq40; exact zq30; rintro e w20 ⟨v448, rfl, ho0, hb⟩; refine ⟨_, rfl, ?_⟩; have HO449 := aM (Kd.R_lower (Kd.R_new' ho0 (Kd.R_lt zq11)) (below_size zq4)); replace HO_5 := aM (Kd.R_elder' zq11 (Kd.R_base ho0) hb); replace HB := sB zq4 hb; clear hb; (try clear ho0)) | ((with_reducible refine gC 36 rfl ?_); refine gL 29 Tryd.func36 #[.slice A1 l1.length c1, .string (rdOf ByteArray.empty x5_1 x6_1)] ?_; (with_reducible refine (spec_Under.calls k1 _ _ l1 (rdOf ByteArray.empty x5_1 x6_1) t450 _ ?_ ?_ A8.out).mono ?_); exact zq41; exact zq42; rintro e w21 ⟨v451, rfl, ho0, hb⟩; refine ⟨_, rfl, ?_⟩; have HO452 := aM (Kd.R_lower (Kd.R_new' (Kd.R_new' ho0 (Kd.R_lt zq11)) (Kd.R_lt zq43)) (below_size zq4)); replace HO_5 := aM (Kd.R_elder' zq11 (Kd.R_base ho0) hb); replace HO449 := aM (Kd.R_elder' zq43 (Kd.R_base ho0) hb); replace HB := sB zq4 hb; clear hb; (try clear ho0); obtain ⟨Ao22, co22, eo22⟩ := Kd.R_slice HO449.out; subst eo22; obtain ⟨Ao23, co23, eo23⟩ := Kd.R_slice HO452.out; subst eo23) | ((with_reducible refine gC 19 rfl ?_); refine gL 30 Tryd.func19 #[.slice Ao22 t447.length co22, .slice Ao23 t450.length co23] ?_; (with_reducible refine (laws_sameTexts.calls k1 _ _ t447 _ _ t450 false _ ?_ ?_ ?_ ?_ A9.out).mono ?_); exact zq44; exact zq45; exact zq46; exact zq47; rintro e w' ⟨rfl, ⟨nd, rfl⟩⟩; refine ⟨_, rfl, ?_⟩) | ((with_reducible refine gC 7 rfl ?_); refine gL 34 Tryd.func7 #[.slice A0 l0.length c0, .string (rdOf ByteArray.empty x5_1 x6_1)] ?_; (with_reducible refine (spec_NodeOf.calls k1 _ _ l0 (rdOf ByteArray.empty x5_1 x6_1) t454 t455 _ ?_ ?_ A16.out).mono ?_); exact zq127; exact zq30; rintro e w24 ⟨rfl, hb⟩; refine ⟨_, rfl, ?_⟩; replace HO_5 := rG HO_5 hb; replace HO449 := rG HO449 hb; replace HO452 := rG HO452 hb; replace HB := sB zq4 hb; clear hb) | ((with_reducible refine gC 7 rfl ?_); refine gL 40 Tryd.func7 #[.slice A1 l1.length c1, .string (rdOf ByteArray.empty x5_1 x6_1)] ?_; (with_reducible refine (spec_NodeOf.calls k1 _ _ l1 (rdOf ByteArray.empty x5_1 x6_1) t456 t457 _ ?_ ?_ A17.out).mono ?_); exact zq41; exact zq42; rintro e w25 ⟨rfl, hb⟩; refine ⟨_, rfl, ?_⟩; replace HO_5 := rG HO_5 hb; replace HO449 := rG HO449 hb; replace HO452 := rG HO452 hb; replace HB := sB zq4 hb; clear hb))
      go_ret; exact ⟨zq5, zq4⟩
     rw [if_neg c18] at H; have c18b0 : (t454.toList == t456.toList) = false := beq_eq_false_iff_ne.mpr c18; have c18b1 : (t454.toList != t456.toList) = true := bne_iff_ne.mpr c18; have H' := aM H; clear H; obtain ⟨Ao26, co26, eo26⟩ := Kd.R_slice HO_5.out; subst eo26; have p446 : 0 ≤ (x6_1 : Int) := of_decide_eq_true zq6; have q446 : x6_1 < (x5_1.length : Int) := of_decide_eq_true zq6; obtain ⟨ad446, e446, hx446_0⟩ := Kd.at_string (Kd.R_reads' HO_5.out).2.2 x6_1 p446 q446; cases e446; replace p446 := eq_true p446; replace q446 := eq_true q446
     go_wp2_with (first | ((with_reducible refine gC 36 rfl ?_); refine gL 26 Tryd.func36 #[.slice A0 l0.length c0, .string (rdOf ByteArray.empty x5_1 x6_1)] ?_; (with_reducible refine (spec_Under.calls k1 _ _ l0 (rdOf ByteArray.empty x5_1 x6_1) t447 _ ?_ ?_ A7.out).mono ?_); exact zq40; exact zq30; rintro e w27 ⟨v448, rfl, ho0, hb⟩; refine ⟨_, rfl, ?_⟩; have HO449 := aM (Kd.R_lower (Kd.R_new' ho0 (Kd.R_lt zq11)) (below_size zq4)); replace HO_5 := aM (Kd.R_elder' zq11 (Kd.R_base ho0) hb); replace HB := sB zq4 hb; clear hb; (try clear ho0)) | ((with_reducible refine gC 36 rfl ?_); refine gL 29 Tryd.func36 #[.slice A1 l1.length c1, .string (rdOf ByteArray.empty x5_1 x6_1)] ?_; (with_reducible refine (spec_Under.calls k1 _ _ l1 (rdOf ByteArray.empty x5_1 x6_1) t450 _ ?_ ?_ A8.out).mono ?_); exact zq41; exact zq42; rintro e w28 ⟨v451, rfl, ho0, hb⟩; refine ⟨_, rfl, ?_⟩; have HO452 := aM (Kd.R_lower (Kd.R_new' (Kd.R_new' ho0 (Kd.R_lt zq11)) (Kd.R_lt zq43)) (below_size zq4)); replace HO_5 := aM (Kd.R_elder' zq11 (Kd.R_base ho0) hb); replace HO449 := aM (Kd.R_elder' zq43 (Kd.R_base ho0) hb); replace HB := sB zq4 hb; clear hb; (try clear ho0); obtain ⟨Ao29, co29, eo29⟩ := Kd.R_slice HO449.out; subst eo29; obtain ⟨Ao30, co30, eo30⟩ := Kd.R_slice HO452.out; subst eo30) | ((with_reducible refine gC 19 rfl ?_); refine gL 30 Tryd.func19 #[.slice Ao29 t447.length co29, .slice Ao30 t450.length co30] ?_; (with_reducible refine (laws_sameTexts.calls k1 _ _ t447 _ _ t450 false _ ?_ ?_ ?_ ?_ A9.out).mono ?_); exact zq44; exact zq45; exact zq46; exact zq47; rintro e w' ⟨rfl, ⟨nd, rfl⟩⟩; refine ⟨_, rfl, ?_⟩) | ((with_reducible refine gC 7 rfl ?_); refine gL 34 Tryd.func7 #[.slice A0 l0.length c0, .string (rdOf ByteArray.empty x5_1 x6_1)] ?_; (with_reducible refine (spec_NodeOf.calls k1 _ _ l0 (rdOf ByteArray.empty x5_1 x6_1) t454 t455 _ ?_ ?_ A16.out).mono ?_); exact zq127; exact zq30; rintro e w31 ⟨rfl, hb⟩; refine ⟨_, rfl, ?_⟩; replace HO_5 := rG HO_5 hb; replace HO449 := rG HO449 hb; replace HO452 := rG HO452 hb; replace HB := sB zq4 hb; clear hb) | ((with_reducible refine gC 7 rfl ?_); refine gL 40 Tryd.func7 #[.slice A1 l1.length c1, .string (rdOf ByteArray.empty x5_1 x6_1)] ?_; (with_reducible refine (spec_NodeOf.calls k1 _ _ l1 (rdOf ByteArray.empty x5_1 x6_1) t456 t457 _ ?_ ?_ A17.out).mono ?_); exact zq41; exact zq42; rintro e w32 ⟨rfl, hb⟩; refine ⟨_, rfl, ?_⟩; replace HO_5 := rG HO_5 hb; replace HO449 := rG HO449 hb; replace HO452 := rG HO452 hb; replace HB := sB zq4 hb; clear hb))
     go_loopg [5, 12] k1 (fun kq v5 v12 w' => ∃ (x5_2 : List ByteArray) (x12_2 : Int), v12 = .int .i64 x12_2 ∧ Aside0 (laws_clash.l1 kq l0 l1 x5_2 x6_1 (rdOf ByteArray.empty x5_1 x6_1) x12_2 = some r) ∧ Aside0 (kq ≤ k1) ∧ Aside0 (Kd.R Kd.string 9 w' w.heap.size (fun _ => True) v5 x5_2) ∧ Aside0 (Below w.heap.size w w'))
     case atStart => exact ⟨(x5_1), (0), zq1, H', ⟨Nat.le_refl _⟩, ⟨zq48⟩, ⟨zq4⟩⟩
     case round =>
      clear H'; (try clear c1); (try clear p2); (try clear c3); (try clear p4); (try clear q4); (try clear hx4); (try clear c5); (try clear c5b0); (try clear c6); (try clear c6b0); (try clear p6); (try clear c7); (try clear c10); (try clear c17); (try clear c18); (try clear c18b0); (try clear c18b1); (try clear c19); (try clear hx446_0); (try clear p2); (try clear p446); (try clear q446); obtain ⟨x5_2, x12_2, rfl, HA, HK2, HO_5, HB⟩ := hrel
      cases gk with
      | zero => exact absurd HA.out (by simp [laws_clash.l1])
      | succ k2 =>
       have H := HA.out; clear HA; simp only [laws_clash.l1] at H; by_cases c33 : ((rdOf ByteArray.empty x5_1 x6_1).size : Int) < 2
       ·
        rw [if_pos c33] at H; have c33b0 := decide_eq_true c33; have c33b1 : decide ((rdOf ByteArray.empty x5_1 x6_1).size < 2) = true := decide_eq_true (by omega); clear c33; by_cases c34 : x12_2 < 16
        ·
         rw [if_pos c34] at H; have c34b0 := decide_eq_true c34; clear c34; by_cases c35 : 0 ≤ x12_2
         ·
          rw [if_pos c35] at H; have c35b0 := eq_true c35; have c35b1 := decide_eq_true c35; clear c35; by_cases c36 : x12_2 ≤ (wrap64 (x12_2 + 1))
          ·
           rw [if_pos c36] at H; have c36b0 := eq_true c36; have c36b1 := decide_eq_true c36; by_cases c37 : (wrap64 (x12_2 + 1)) ≤ 16
           ·
            rw [if_pos c37] at H; have c37b0 := eq_true c37; have c37b1 := decide_eq_true c37; by_cases c38 : (rdOf ByteArray.empty x5_1 x6_1).size + ((⟨#[48, 49, 50, 51, 52, 53, 54, 55, 56, 57, 97, 98, 99, 100, 101, 102]⟩ : ByteArray).extract (x12_2 : Int).toNat ((wrap64 (x12_2 + 1)) : Int).toNat).size ≤ 9223372036854775807
            ·
             rw [if_pos c38] at H; have c38b0 := eq_true c38; have c38b1 := decide_eq_true c38
             try have c38b2 : (9223372036854775807 < (rdOf ByteArray.empty x5_1 x6_1).size + ((⟨#[48, 49, 50, 51, 52, 53, 54, 55, 56, 57, 97, 98, 99, 100, 101, 102]⟩ : ByteArray).extract (x12_2 : Int).toNat ((wrap64 (x12_2 + 1)) : Int).toNat).size) = False := eq_false (Nat.not_lt.2 c38)
             try (have c38n2 := c38b2; conv at c38n2 => (lhs; rhs; simp))
             by_cases c39 : x5_2.length < 8796093022208
             ·
              rw [if_pos c39] at H; have LMc39 := aM c39; clear c39; obtain ⟨y458, hy458⟩ : ∃ y_ : List ByteArray, y_ = (x5_2 ++ [(rdOf ByteArray.empty x5_1 x6_1) ++ ((⟨#[48, 49, 50, 51, 52, 53, 54, 55, 56, 57, 97, 98, 99, 100, 101, 102]⟩ : ByteArray).extract (x12_2 : Int).toNat ((wrap64 (x12_2 + 1)) : Int).toNat)]) := ⟨_, rfl⟩; have hy_ := hy458; replace H : (laws_clash.l1 k2 l0 l1 y458 x6_1 (rdOf ByteArray.empty x5_1 x6_1) (wrap64 (x12_2 + 1))) = some r := hyE; clear hy_; have Ny458 := aM hy458; clear hy458; have H' := aM H; clear H
              go_wp2_with (first | ((with_reducible refine gate_builtin (b := .append) (xs := #[.tmp 55, .tmp 62]) rfl ?_); at_builtin; refine Kd.R_append Kd.string (w0 := w) w.heap.size rfl (.tmp 55) (.tmp 62) 22 9 (.string ⟨#[]⟩) 16 rfl Tryd.underlying22 info9 rfl (by decide) (by omega) u5 x5_2 ((rdOf ByteArray.empty x5_1 x6_1) ++ ((⟨#[48, 49, 50, 51, 52, 53, 54, 55, 56, 57, 97, 98, 99, 100, 101, 102]⟩ : ByteArray).extract (x12_2 : Int).toNat ((wrap64 (x12_2 + 1)) : Int).toNat)) [.string ((rdOf ByteArray.empty x5_1 x6_1) ++ ((⟨#[48, 49, 50, 51, 52, 53, 54, 55, 56, 57, 97, 98, 99, 100, 101, 102]⟩ : ByteArray).extract (x12_2 : Int).toNat ((wrap64 (x12_2 + 1)) : Int).toNat))] (fun _ => True) (fun _ => False) rfl rfl ?aP (fun _ hk => hk.elim) ?aF ?aO ?aB ?aS ?aL ?_; (case aP => exact rfl); (case aB => exact zq4); (case aF => exact zq10); (case aO => exact zq11); (case aS => exact zq123); (case aL => have := LMc39.out; omega); intro v459 w40 ho hb hg hat; rw [← Ny458.out] at ho; have n0_ := aM (hb); have n1_ := aM (ho); clear HB; clear HO_5; have HB := n0_; have HO460 := n1_; clear n0_ n1_; clear ho hb hg hat))
              go_roundg k2
              case measure => have := HK1.out; have := HK2.out; omega
              case rel => exact ⟨(y458), (wrap64 (x12_2 + 1)), zq1, H', ⟨zq50⟩, ⟨by refine dR ?_; exact HO460.out⟩, ⟨zq4⟩⟩
             rw [if_neg c39] at H; exact absurd H (by simp)
            rw [if_neg c38] at H; exact absurd H (by simp)
           rw [if_neg c37] at H; exact absurd H (by simp)
          rw [if_neg c36] at H; exact absurd H (by simp)
         rw [if_neg c35] at H; exact absurd H (by simp)
        rw [if_neg c34] at H; have c34b0 := decide_eq_false c34; clear c34; have H' := aM H; clear H; go_wp2
        go_roundg k2
        case measure => have := HK1.out; have := HK2.out; omega
        case rel => exact ⟨(x5_2), (wrap64 (x6_1 + 1)), zq1, H', ⟨zq50⟩, ⟨zq11⟩, ⟨zq4⟩⟩
       rw [if_neg c33] at H; have c33b0 := decide_eq_false c33; have c33b1 : decide ((rdOf ByteArray.empty x5_1 x6_1).size < 2) = false := decide_eq_false (by omega); clear c33; have H' := aM H; clear H; go_wp2
       go_roundg k2
       case measure => have := HK1.out; have := HK2.out; omega
       case rel => exact ⟨(x5_2), (wrap64 (x6_1 + 1)), zq1, H', ⟨zq50⟩, ⟨zq11⟩, ⟨zq4⟩⟩
    exact zq132
   rw [if_neg c5] at H; have c5b0 := decide_eq_false c5; clear c5; obtain rfl := Option.some.inj H; obtain ⟨Ao41, co41, eo41⟩ := Kd.R_slice HO_5.out; subst eo41; go_wp2; go_ret; exact ⟨zq5, zq4⟩

/-! ### laws_hasText: function 18 -/
def laws_hasText.l0 : Nat → List ByteArray → ByteArray → Int → Option (Bool)
 | 0, _, _, _ => none
 | k + 1, x0, x1, x5 => if x5 < (x0.length : Int) then (if 0 ≤ x5 then (if (rdOf ByteArray.empty x0 x5).toList = x1.toList then (some true) else (laws_hasText.l0 k x0 x1 (wrap64 (x5 + 1)))) else (none)) else (some false)
def laws_hasText.f (k : Nat) (l0 : List ByteArray) (a1 : ByteArray) : Option (Bool) := laws_hasText.l0 k l0 a1 0
theorem laws_hasText.mono_l : ∀ k, (∀ y0 y1 y2, LeO (laws_hasText.l0 k y0 y1 y2) (laws_hasText.l0 (k + 1) y0 y1 y2))
 | 0 => fun _ _ _ r h => by simp [laws_hasText.l0] at h
 | k + 1 => by
  have ih0 := laws_hasText.mono_l k
  ·
   intro y0 y1 y2; unfold laws_hasText.l0
   repeat' first
   | (with_reducible apply ih0)
   | (with_reducible exact LeO.refl _)
   | (with_reducible exact LeO.none _)
   | (with_reducible refine LeO.ite ?_ ?_)
   | (with_reducible refine LeO.bind ?_ (fun _ => ?_))
   | exact LeO.none _
   | refine LeO.ite ?_ ?_
   | refine LeO.bind ?_ (fun _ => ?_)
theorem laws_hasText.mono : ∀ a0 a1 k, LeO (laws_hasText.f k a0 a1) (laws_hasText.f (k + 1) a0 a1) := by
 intro a0 a1 k; have ih0 := laws_hasText.mono_l k; unfold laws_hasText.f
 repeat' first
   | (with_reducible apply ih0)
   | (with_reducible exact LeO.refl _)
   | (with_reducible exact LeO.none _)
   | (with_reducible refine LeO.ite ?_ ?_)
   | (with_reducible refine LeO.bind ?_ (fun _ => ?_))
   | exact LeO.none _
   | refine LeO.ite ?_ ?_
   | refine LeO.bind ?_ (fun _ => ?_)
set_option maxHeartbeats 8000000 in
set_option maxRecDepth 100000 in
theorem laws_hasText.calls (k : Nat) (A0 : Option Addr) (c0 : Nat) (l0 : List ByteArray) (a1 : ByteArray) (r : Bool) (w : World) (hr0 : Kd.C Kd.string w A0 l0.length l0) (hc0 : l0.length ≤ c0) (h : laws_hasText.f k l0 a1 = some r) :
  Calls Tryd.prog 18 #[.slice A0 l0.length c0, .string a1] w fun e w' => e = .returned (.bool r) ∧ Drawn0 w w' := by
 have HR0 := aM hr0; have HC0 := aM hc0; clear hr0 hc0; have H : (laws_hasText.l0 k l0 a1 0) = some r := h; clear h; have H' := aM H; clear H; go_enter Tryd.func18, Tryd.ntmps18; go_wp2
 go_loopg [5] k (fun kq v5 w' => ∃ (x5_1 : Int), v5 = .int .i64 x5_1 ∧ Aside0 (laws_hasText.l0 kq l0 a1 x5_1 = some r) ∧ Aside0 (kq ≤ k) ∧ Drawn0 w w')
 case atStart => exact ⟨(0), zq1, H', ⟨Nat.le_refl _⟩, zq2⟩
 case round =>
  clear H'; (try clear c1); (try clear p2); obtain ⟨x5_1, rfl, HA, HK1, ⟨m1, rfl⟩⟩ := hrel
  cases gk with
  | zero => exact absurd HA.out (by simp [laws_hasText.l0])
  | succ k1 =>
   have H := HA.out; clear HA; simp only [laws_hasText.l0] at H; by_cases c3 : x5_1 < (l0.length : Int)
   ·
    rw [if_pos c3] at H; have c3b0 := decide_eq_true c3; clear c3; by_cases c4 : 0 ≤ x5_1
    ·
     rw [if_pos c4] at H; have c4b0 := decide_eq_true c4; clear c4; by_cases c5 : (rdOf ByteArray.empty l0 x5_1).toList = a1.toList
     ·
      rw [if_pos c5] at H; have c5b0 : ((rdOf ByteArray.empty l0 x5_1).toList == a1.toList) = true := beq_iff_eq.mpr c5; have c5b1 : ((rdOf ByteArray.empty l0 x5_1).toList != a1.toList) = false := bne_eq_false_iff_eq.mpr c5; clear c5; obtain rfl := Option.some.inj H; have p461 : 0 ≤ (x5_1 : Int) := of_decide_eq_true zq6; have q461 : x5_1 < (l0.length : Int) := of_decide_eq_true zq6; obtain ⟨ad461, e461, hx461_0⟩ := Kd.at_string HR0.out x5_1 p461 q461; cases e461; replace p461 := eq_true p461; replace q461 := eq_true q461; go_wp2; go_ret; exact ⟨zq1, zq2⟩
     rw [if_neg c5] at H; have c5b0 : ((rdOf ByteArray.empty l0 x5_1).toList == a1.toList) = false := beq_eq_false_iff_ne.mpr c5; have c5b1 : ((rdOf ByteArray.empty l0 x5_1).toList != a1.toList) = true := bne_iff_ne.mpr c5; have H' := aM H; clear H; have p461 : 0 ≤ (x5_1 : Int) := of_decide_eq_true zq6; have q461 : x5_1 < (l0.length : Int) := of_decide_eq_true zq6; obtain ⟨ad461, e461, hx461_0⟩ := Kd.at_string HR0.out x5_1 p461 q461; cases e461; replace p461 := eq_true p461; replace q461 := eq_true q461; go_wp2
     go_roundg k1
     case measure => have := HK1.out; omega
     case rel => exact ⟨(wrap64 (x5_1 + 1)), zq1, H', ⟨zq7⟩, zq2⟩
    exact zq131
   rw [if_neg c3] at H; have c3b0 := decide_eq_false c3; clear c3; obtain rfl := Option.some.inj H; go_wp2; go_ret; exact ⟨zq1, zq2⟩

end Go.Proofs.YtoeomljkhabifaaDoor.QFnDiff
