/- Written by wip/myprint.py of this repo (the kit's print, with additions of this session). -/
import Derived.Test.YtkpbdfpmoeobnaaDoorQFnExactWriteManifestx0
import Derived.Test.YtkpbdfpmoeobnaaDoorQFnExactWriteManifestx1
set_option maxRecDepth 100000
namespace Go.Proofs.YtkpbdfpmoeobnaaDoor.QFnExactWriteManifest
open Go.RowKit Go.Proofs.YtkpbdfpmoeobnaaDoorW.PrintWords Go.Proofs.YtkpbdfpmoeobnaaDoorW.PrintLast Go.Proofs.YtkpbdfpmoeobnaaDoorW.PrintMore
attribute [local go_sem] max2_int min2_int max_two min_two max_three min_three max_four min_four   -- for this text's walks alone
set_option linter.unusedVariables false
set_option linter.unusedSimpArgs false

/-! ### spec_WriteManifest: function 6 -/
def spec_WriteManifest.l0 : Nat → ByteArray → Int → ByteArray → List ByteArray → Option (ByteArray)
 | 0, _, _, _, _ => none
 | k + 1, x3, x4, x111000, x111001 => if x4 < (x111001.length : Int) then (if x3.size + 6 ≤ 9223372036854775807 then (if 0 ≤ x4 then (if x3.size + 6 + (rdOf ByteArray.empty x111001 x4).size ≤ 9223372036854775807 then (if x3.size + 6 + (rdOf ByteArray.empty x111001 x4).size + 1 ≤ 9223372036854775807 then (spec_WriteManifest.l0 k (((x3 ++ (⟨#[108, 97, 121, 101, 114, 32]⟩ : ByteArray)) ++ (rdOf ByteArray.empty x111001 x4)) ++ (⟨#[10]⟩ : ByteArray)) (wrap64 (x4 + 1)) x111000 x111001) else (none)) else (none)) else (none)) else (none)) else (some x3)
def spec_WriteManifest.f (k : Nat) (a0_0 : ByteArray) (l0_1 : List ByteArray) : Option (ByteArray) := (spec_l3Manifest.f k a0_0 l0_1).bind fun t111 => (if t111 = true then (if 7 + a0_0.size ≤ 9223372036854775807 then (if 7 + a0_0.size + 1 ≤ 9223372036854775807 then (spec_WriteManifest.l0 k (((⟨#[99, 111, 110, 102, 105, 103, 32]⟩ : ByteArray) ++ a0_0) ++ (⟨#[10]⟩ : ByteArray)) 0 a0_0 l0_1) else (none)) else (none)) else (some (⟨#[]⟩ : ByteArray)))
theorem spec_WriteManifest.mono_l : ∀ k, (∀ y0 y1 y2 y3, LeO (spec_WriteManifest.l0 k y0 y1 y2 y3) (spec_WriteManifest.l0 (k + 1) y0 y1 y2 y3))
 | 0 => fun _ _ _ _ r h => by simp [spec_WriteManifest.l0] at h
 | k + 1 => by
  have ih0 := spec_WriteManifest.mono_l k
  ·
   intro y0 y1 y2 y3; unfold spec_WriteManifest.l0
   repeat' first
   | (with_reducible apply ih0)
   | (with_reducible apply spec_l3Manifest.mono)
   | (with_reducible exact LeO.refl _)
   | (with_reducible exact LeO.none _)
   | (with_reducible refine LeO.ite ?_ ?_)
   | (with_reducible refine LeO.bind ?_ (fun _ => ?_))
   | exact LeO.none _
   | refine LeO.ite ?_ ?_
   | refine LeO.bind ?_ (fun _ => ?_)
theorem spec_WriteManifest.mono : ∀ a0 a1 k, LeO (spec_WriteManifest.f k a0 a1) (spec_WriteManifest.f (k + 1) a0 a1) := by
 intro a0 a1 k; have ih0 := spec_WriteManifest.mono_l k; unfold spec_WriteManifest.f
 repeat' first
   | (with_reducible apply ih0)
   | (with_reducible apply spec_l3Manifest.mono)
   | (with_reducible exact LeO.refl _)
   | (with_reducible exact LeO.none _)
   | (with_reducible refine LeO.ite ?_ ?_)
   | (with_reducible refine LeO.bind ?_ (fun _ => ?_))
   | exact LeO.none _
   | refine LeO.ite ?_ ?_
   | refine LeO.bind ?_ (fun _ => ?_)
set_option maxHeartbeats 8000000 in
set_option maxRecDepth 100000 in
theorem spec_WriteManifest.calls (k : Nat) (a0_0 : ByteArray) (A0_1 : Option Addr) (c0_1 : Nat) (l0_1 : List ByteArray) (r : ByteArray) (w : World) (hr0_1 : Kd.C Kd.string w A0_1 l0_1.length l0_1) (hc0_1 : l0_1.length ≤ c0_1) (h : spec_WriteManifest.f k a0_0 l0_1 = some r) :
  Calls Tryd.prog 6 #[.agg #[.string a0_0, .slice A0_1 l0_1.length c0_1]] w fun e w' => e = .returned (.string r) ∧ Below w.heap.size w w' := by
 have hu27 := Tryd.underlying27; have HR0_1 := aM hr0_1; have HC0_1 := aM hc0_1; clear hr0_1 hc0_1; have HB := aM (Below.refl w.heap.size w); unfold spec_WriteManifest.f at h; have H := h; clear h; replace H := Option.bind_eq_some_iff.mp H; obtain ⟨t111, A20, H⟩ := H; (try dsimp only at H); have A2 := aM A20; clear A20; by_cases c3 : t111 = true
 ·
  subst c3; rw [if_pos rfl] at H; by_cases c4 : 7 + a0_0.size ≤ 9223372036854775807
  ·
   rw [if_pos c4] at H; have c4b0 := eq_true c4; have c4b1 := decide_eq_true c4
   try have c4b2 : (9223372036854775807 < 7 + a0_0.size) = False := eq_false (Nat.not_lt.2 c4)
   by_cases c5 : 7 + a0_0.size + 1 ≤ 9223372036854775807
   ·
    rw [if_pos c5] at H; have c5b0 := eq_true c5; have c5b1 := decide_eq_true c5
    try have c5b2 : (9223372036854775807 < 7 + a0_0.size + 1) = False := eq_false (Nat.not_lt.2 c5)
    have H' := aM H; clear H; go_enter Tryd.func6, Tryd.ntmps6
    go_wp2_with (first | ((with_reducible refine gD 1 rfl ?_); refine bE 1 #[.string a0_0, .slice A0_1 l0_1.length c0_1] 27 ?_; intro gb110 hg w6 hbox hb; have BK110 := aM hbox; have GW110 := aM (zq47 : w.heap.size ≤ gb110); have GE110 := GW110; replace HB := sB zq6 hb; clear hb hbox hg; obtain ⟨hcz7_0, hcz7_1, hfz7_0, hfz7_1⟩ := cells2_ (w := w6) BK110) | ((with_reducible refine gC 17 rfl ?_); refine gL 6 Tryd.func17 #[.agg #[.string a0_0, .slice A0_1 l0_1.length c0_1]] ?_; (with_reducible refine (spec_l3Manifest.calls k a0_0 _ _ l0_1 true _ ?_ ?_ A2.out).mono ?_); exact zq10; exact zq11; rintro e w8 ⟨rfl, hb⟩; refine ⟨_, rfl, ?_⟩; replace BK110 := bG BK110 hb; replace HB := sB zq16 hb; clear hb; obtain ⟨hcz9_0, hcz9_1, hfz9_0, hfz9_1⟩ := cells2_ (w := w8) BK110))
    go_loopg [3, 4] k (fun kq v3 v4 w' => ∃ (x3_1 : ByteArray) (x4_1 : Int), v3 = .string x3_1 ∧ v4 = .int .i64 x4_1 ∧ Aside0 (spec_WriteManifest.l0 kq x3_1 x4_1 a0_0 l0_1 = some r) ∧ Aside0 (kq ≤ k) ∧ Aside0 (w'.heap[gb110]? = some (.cells #[.string a0_0, (.slice A0_1 l0_1.length c0_1)] 27 (0, 0))) ∧ Aside0 (Below w.heap.size w w'))
    case atStart => exact ⟨(((⟨#[99, 111, 110, 102, 105, 103, 32]⟩ : ByteArray) ++ a0_0) ++ (⟨#[10]⟩ : ByteArray)), (0), zq1, zq1, H', ⟨Nat.le_refl _⟩, ⟨zq15⟩, ⟨zq16⟩⟩
    case round =>
     clear H'; (try clear c1); (try clear p2); (try clear c3); (try clear c4); (try clear c4b0); (try clear c4b1); (try clear c4b2); (try clear c5); (try clear c5b0); (try clear c5b1); (try clear c5b2); (try clear c6); (try clear hcz7_0); (try clear hcz7_1); (try clear hcz9_0); (try clear hcz9_1); (try clear hfz7_0); (try clear hfz7_1); (try clear hfz9_0); (try clear hfz9_1); obtain ⟨x3_1, x4_1, rfl, rfl, HA, HK1, BK110, HB⟩ := hrel
     cases gk with
     | zero => exact absurd HA.out (by simp [spec_WriteManifest.l0])
     | succ k1 =>
      have H := HA.out; clear HA; simp only [spec_WriteManifest.l0] at H; by_cases c10 : x4_1 < (l0_1.length : Int)
      ·
       rw [if_pos c10] at H; have c10b0 := decide_eq_true c10; clear c10; by_cases c11 : x3_1.size + 6 ≤ 9223372036854775807
       ·
        rw [if_pos c11] at H; have c11b0 := eq_true c11; have c11b1 := decide_eq_true c11
        try have c11b2 : (9223372036854775807 < x3_1.size + 6) = False := eq_false (Nat.not_lt.2 c11)
        by_cases c12 : 0 ≤ x4_1
        ·
         rw [if_pos c12] at H; have c12b0 := decide_eq_true c12; clear c12; by_cases c13 : x3_1.size + 6 + (rdOf ByteArray.empty l0_1 x4_1).size ≤ 9223372036854775807
         ·
          rw [if_pos c13] at H; have c13b0 := eq_true c13; have c13b1 := decide_eq_true c13
          try have c13b2 : (9223372036854775807 < x3_1.size + 6 + (rdOf ByteArray.empty l0_1 x4_1).size) = False := eq_false (Nat.not_lt.2 c13)
          by_cases c14 : x3_1.size + 6 + (rdOf ByteArray.empty l0_1 x4_1).size + 1 ≤ 9223372036854775807
          ·
           rw [if_pos c14] at H; have c14b0 := eq_true c14; have c14b1 := decide_eq_true c14
           try have c14b2 : (9223372036854775807 < x3_1.size + 6 + (rdOf ByteArray.empty l0_1 x4_1).size + 1) = False := eq_false (Nat.not_lt.2 c14)
           have H' := aM H; clear H; obtain ⟨hcz15_0, hcz15_1, hfz15_0, hfz15_1⟩ := cells2_ (w := wr) BK110; have p112 : 0 ≤ (x4_1 : Int) := of_decide_eq_true zq3; have q112 : x4_1 < (l0_1.length : Int) := of_decide_eq_true zq3; obtain ⟨ad112, e112, hx112_0⟩ := Kd.at_string HR0_1.out x4_1 p112 q112; cases e112; replace hx112_0 := hxB HB hx112_0; replace p112 := eq_true p112; replace q112 := eq_true q112; go_wp2
           go_roundg k1
           case measure => have := HK1.out; omega
           case rel => exact ⟨(((x3_1 ++ (⟨#[108, 97, 121, 101, 114, 32]⟩ : ByteArray)) ++ (rdOf ByteArray.empty l0_1 x4_1)) ++ (⟨#[10]⟩ : ByteArray)), (wrap64 (x4_1 + 1)), zq1, zq1, H', ⟨zq4⟩, ⟨zq15⟩, ⟨zq16⟩⟩
          rw [if_neg c14] at H; exact absurd H (by simp)
         rw [if_neg c13] at H; exact absurd H (by simp)
        rw [if_neg c12] at H; exact absurd H (by simp)
       rw [if_neg c11] at H; exact absurd H (by simp)
      rw [if_neg c10] at H; have c10b0 := decide_eq_false c10; clear c10; obtain rfl := Option.some.inj H; obtain ⟨hcz16_0, hcz16_1, hfz16_0, hfz16_1⟩ := cells2_ (w := wr) BK110; go_wp2; go_ret; exact ⟨zq7, zq16⟩
   exact zq56
  exact zq57
 replace c3 := Bool.eq_false_iff.mpr c3; subst c3; rw [if_neg (show ¬ (false = true) by decide)] at H; obtain rfl := Option.some.inj H; go_enter Tryd.func6, Tryd.ntmps6
 go_wp2_with (first | ((with_reducible refine gD 1 rfl ?_); refine bE 1 #[.string a0_0, .slice A0_1 l0_1.length c0_1] 27 ?_; intro gb110 hg w17 hbox hb; have BK110 := aM hbox; have GW110 := aM (zq47 : w.heap.size ≤ gb110); have GE110 := GW110; replace HB := sB zq6 hb; clear hb hbox hg; obtain ⟨hcz18_0, hcz18_1, hfz18_0, hfz18_1⟩ := cells2_ (w := w17) BK110) | ((with_reducible refine gC 17 rfl ?_); refine gL 6 Tryd.func17 #[.agg #[.string a0_0, .slice A0_1 l0_1.length c0_1]] ?_; (with_reducible refine (spec_l3Manifest.calls k a0_0 _ _ l0_1 false _ ?_ ?_ A2.out).mono ?_); exact zq10; exact zq11; rintro e w19 ⟨rfl, hb⟩; refine ⟨_, rfl, ?_⟩; replace BK110 := bG BK110 hb; replace HB := sB zq16 hb; clear hb))
 go_ret; exact ⟨zq7, zq16⟩

/-! ### laws_toStringS: function 18 -/
def laws_toStringS.l0 : Nat → List ByteArray → List ByteArray → Int → Option (List ByteArray)
 | 0, _, _, _ => none
 | k + 1, x0, x3, x4 => if x4 < (x0.length : Int) then (if 0 ≤ x4 then (if x4 < (x3.length : Int) then (laws_toStringS.l0 k x0 (x3.set (x4 : Int).toNat (rdOf ByteArray.empty x0 x4)) (wrap64 (x4 + 1))) else (none)) else (none)) else (some x3)
def laws_toStringS.f (k : Nat) (l0 : List ByteArray) : Option (List ByteArray) := if 0 ≤ (l0.length : Int) then (if ((l0.length : Int) : Int).toNat ≤ 17592186044416 then (laws_toStringS.l0 k l0 (List.replicate ((l0.length : Int) : Int).toNat (⟨#[]⟩ : ByteArray)) 0) else (none)) else (none)
theorem laws_toStringS.mono_l : ∀ k, (∀ y0 y1 y2, LeO (laws_toStringS.l0 k y0 y1 y2) (laws_toStringS.l0 (k + 1) y0 y1 y2))
 | 0 => fun _ _ _ r h => by simp [laws_toStringS.l0] at h
 | k + 1 => by
  have ih0 := laws_toStringS.mono_l k
  ·
   intro y0 y1 y2; unfold laws_toStringS.l0
   repeat' first
   | (with_reducible apply ih0)
   | (with_reducible exact LeO.refl _)
   | (with_reducible exact LeO.none _)
   | (with_reducible refine LeO.ite ?_ ?_)
   | (with_reducible refine LeO.bind ?_ (fun _ => ?_))
   | exact LeO.none _
   | refine LeO.ite ?_ ?_
   | refine LeO.bind ?_ (fun _ => ?_)
theorem laws_toStringS.mono : ∀ a0 k, LeO (laws_toStringS.f k a0) (laws_toStringS.f (k + 1) a0) := by
 intro a0 k; have ih0 := laws_toStringS.mono_l k; unfold laws_toStringS.f
 repeat' first
   | (with_reducible apply ih0)
   | (with_reducible exact LeO.refl _)
   | (with_reducible exact LeO.none _)
   | (with_reducible refine LeO.ite ?_ ?_)
   | (with_reducible refine LeO.bind ?_ (fun _ => ?_))
   | exact LeO.none _
   | refine LeO.ite ?_ ?_
   | refine LeO.bind ?_ (fun _ => ?_)
set_option maxHeartbeats 8000000 in
set_option maxRecDepth 100000 in
theorem laws_toStringS.calls (k : Nat) (A0 : Option Addr) (c0 : Nat) (l0 : List ByteArray) (r : List ByteArray) (w : World) (hr0 : Kd.C Kd.string w A0 l0.length l0) (hc0 : l0.length ≤ c0) (h : laws_toStringS.f k l0 = some r) :
  Calls Tryd.prog 18 #[.slice A0 l0.length c0] w fun e w' => ∃ v0_ : Value, e = .returned (v0_) ∧ Kd.R Kd.string 9 w' w.heap.size (fun _ => True) v0_ r ∧ Below w.heap.size w w' := by
 have HR0 := aM hr0; have HC0 := aM hc0; clear hr0 hc0; have HB := aM (Below.refl w.heap.size w); unfold laws_toStringS.f at h; have H := h; clear h; by_cases c2 : 0 ≤ (l0.length : Int)
 ·
  rw [if_pos c2] at H; have c2b0 := eq_true c2; have c2b1 := decide_eq_true c2; clear c2; by_cases c3 : ((l0.length : Int) : Int).toNat ≤ 17592186044416
  ·
   rw [if_pos c3] at H; have c3b0 := eq_true c3; have c3b1 := decide_eq_true c3; clear c3; obtain ⟨y113, hy113⟩ : ∃ y_ : List ByteArray, y_ = (List.replicate ((l0.length : Int) : Int).toNat (⟨#[]⟩ : ByteArray)) := ⟨_, rfl⟩; have hy_ := hy113; replace H : (laws_toStringS.l0 k l0 y113 0) = some r := hyE; clear hy_; have Ny113 := aM hy113; clear hy113; have H' := aM H; clear H; go_enter Tryd.func18, Tryd.ntmps18
   go_wp2_with (first | ((with_reducible refine gD 7 rfl ?_); refine Kd.R_make Kd.string _ 9 rfl (N := 7) rfl 22 _ _ rfl (l0.length : Int) rfl rfl Tryd.underlying22 (.string ⟨#[]⟩) 16 info9 rfl (by decide) (by omega) (⟨#[]⟩ : ByteArray) (ok := fun _ => True) (okp := fun _ => True) rfl (fun _ hk => hk) trivial (of_decide_eq_true zq3) (Nat.le_trans (Nat.mul_le_mul_right _ (of_decide_eq_true zq3 : (l0.length : Int).toNat ≤ 17592186044416)) (by omega)) (Below.refl _ _) (Nat.le_refl _) ?_; intro v114 w4 ho5 hb hg_ hnew_; clear hg_ hnew_; (first | rw [← Ny113.out] at ho5 | (simp only [Int.reduceToNat] at ho5; rw [← Ny113.out] at ho5)); have HO115 := aM (Kd.R_lower ho5 (below_size zq6)); replace HB := sB zq6 hb; clear hb ho5))
   go_loopg [4] k (fun kq v4 w' => ∃ (x3_1 : List ByteArray) (x4_1 : Int), v4 = .int .i64 x4_1 ∧ Aside0 (laws_toStringS.l0 kq l0 x3_1 x4_1 = some r) ∧ Aside0 (kq ≤ k) ∧ Aside0 (Kd.R Kd.string 9 w' w.heap.size (fun _ => True) v114 x3_1) ∧ Aside0 (Below w.heap.size w w'))
   case atStart => exact ⟨(y113), (0), zq1, H', ⟨Nat.le_refl _⟩, ⟨by refine dR ?_; exact HO115.out⟩, ⟨zq6⟩⟩
   case round =>
    clear H'; (try clear c1); (try clear c2); (try clear c2b0); (try clear c2b1); (try clear p2); (try clear c3); (try clear c3b0); (try clear c3b1); obtain ⟨x3_1, x4_1, rfl, HA, HK1, HO_3, HB⟩ := hrel
    cases gk with
    | zero => exact absurd HA.out (by simp [laws_toStringS.l0])
    | succ k1 =>
     have H := HA.out; clear HA; simp only [laws_toStringS.l0] at H; by_cases c6 : x4_1 < (l0.length : Int)
     ·
      rw [if_pos c6] at H; have c6b0 := decide_eq_true c6; clear c6; by_cases c7 : 0 ≤ x4_1
      ·
       rw [if_pos c7] at H; have c7b0 := decide_eq_true c7; clear c7; by_cases c8 : x4_1 < (x3_1.length : Int)
       ·
        rw [if_pos c8] at H; have c8b0 := decide_eq_true c8; clear c8; obtain ⟨y117, hy117⟩ : ∃ y_ : List ByteArray, y_ = (x3_1.set (x4_1 : Int).toNat (rdOf ByteArray.empty l0 x4_1)) := ⟨_, rfl⟩; have hy_ := hy117; replace H : (laws_toStringS.l0 k1 l0 y117 (wrap64 (x4_1 + 1))) = some r := hyE; clear hy_; have Ny117 := aM hy117; clear hy117; have H' := aM H; clear H; have p116 : 0 ≤ (x4_1 : Int) := of_decide_eq_true zq3; have q116 : x4_1 < (l0.length : Int) := of_decide_eq_true zq3; obtain ⟨ad116, e116, hx116_0⟩ := Kd.at_string HR0.out x4_1 p116 q116; cases e116; replace hx116_0 := hxB HB hx116_0; replace p116 := eq_true p116; replace q116 := eq_true q116; have p9 : 0 ≤ (x4_1 : Int) := of_decide_eq_true zq3; have q9 : (x4_1 : Int) < ((x3_1.length : Int) : Int) := of_decide_eq_true zq3; obtain ⟨go9, co9, eo9, gb9, gl9, cl9, HG9⟩ := Kd.R_form HO_3.out (by omega)
        (first | cases eo9 | (injection eo9 with ea_ en_ ec_; (first | subst ea_ | (injection ea_ with ea_; subst ea_)); subst ec_; clear en_))
        have GB9 := aM gb9; have GG9 := aM HG9; clear gb9 gl9 HG9; obtain ⟨hx9_0, hf9_0⟩ := Kd.R_celln (⟨#[]⟩ : ByteArray) HO_3.out (x4_1 : Int) p9 q9; replace p9 := eq_true p9; replace q9 := eq_true q9; have HP10 := Kd.R_putg HO_3.out (x4_1 : Int) (rdOf ByteArray.empty l0 x4_1)
        go_wp2_with (first | ((with_reducible refine gate_store (t := 9) (p := 20) rfl ?_); refine store_event (t := 9) (p := 20) (v := ?vo_w11) (w1 := (wr.setCell ⟨go9, (x4_1 : Int).toNat, none⟩ (.string (rdOf ByteArray.empty l0 x4_1)))) ?hg ?ho ?hn ?hr ?_; (case ho => rfl); (case hg => rfl); (case hn => rfl); (case hr => exact zq5); intro w11 hw; have hg : wr.grownBy w11 (some go9) := (by rw [hw]; exact HP10.2); have hp_ : Kd.R Kd.string 9 w11 w.heap.size (fun _ => True) (.slice (some ⟨go9, 0, none⟩) x3_1.length co9) y117 := (by rw [hw, Ny117.out]; exact HP10.1); clear HP10; replace HO_3 := aM hp_; replace HB := aM (by rw [hw]; exact below_set (HB.out) GB9.out : Below w.heap.size w w11); clear hg hw hp_))
        go_roundg k1
        case measure => have := HK1.out; omega
        case rel => exact ⟨(y117), (wrap64 (x4_1 + 1)), zq1, H', ⟨zq4⟩, ⟨zq17⟩, ⟨zq6⟩⟩
       rw [if_neg c8] at H; exact absurd H (by simp)
      rw [if_neg c7] at H; exact absurd H (by simp)
     rw [if_neg c6] at H; have c6b0 := decide_eq_false c6; clear c6; obtain rfl := Option.some.inj H; go_wp2; go_ret; exact ⟨_, zq7, zq17, zq6⟩
  rw [if_neg c3] at H; exact absurd H (by simp)
 rw [if_neg c2] at H; exact absurd H (by simp)

/-! ### laws_toManifest: function 7 -/
def laws_toManifest.f (k : Nat) (a0_0 : ByteArray) (l0_1 : List ByteArray) : Option (ByteArray × List ByteArray) := (laws_toStringS.f k l0_1).bind fun t121 => (some (a0_0, t121))
theorem laws_toManifest.mono : ∀ a0 a1 k, LeO (laws_toManifest.f k a0 a1) (laws_toManifest.f (k + 1) a0 a1) := by
 intro a0 a1 k; unfold laws_toManifest.f
 repeat' first
   | (with_reducible apply laws_toStringS.mono)
   | (with_reducible exact LeO.refl _)
   | (with_reducible exact LeO.none _)
   | (with_reducible refine LeO.ite ?_ ?_)
   | (with_reducible refine LeO.bind ?_ (fun _ => ?_))
   | exact LeO.none _
   | refine LeO.ite ?_ ?_
   | refine LeO.bind ?_ (fun _ => ?_)
set_option maxHeartbeats 8000000 in
set_option maxRecDepth 100000 in
theorem laws_toManifest.calls (k : Nat) (a0_0 : ByteArray) (A0_1 : Option Addr) (c0_1 : Nat) (l0_1 : List ByteArray) (r1 : ByteArray) (r2 : List ByteArray) (w : World) (hr0_1 : Kd.C Kd.string w A0_1 l0_1.length l0_1) (hc0_1 : l0_1.length ≤ c0_1) (h : laws_toManifest.f k a0_0 l0_1 = some (r1, r2)) :
  Calls Tryd.prog 7 #[.agg #[.string a0_0, .slice A0_1 l0_1.length c0_1]] w fun e w' => ∃ v1_ : Value, e = .returned (.agg #[.string r1, v1_]) ∧ Kd.R Kd.string 9 w' w.heap.size (fun _ => True) v1_ r2 ∧ Below w.heap.size w w' := by
 have hu24 := Tryd.underlying24; have hu27 := Tryd.underlying27; have HR0_1 := aM hr0_1; have HC0_1 := aM hc0_1; clear hr0_1 hc0_1; have HB := aM (Below.refl w.heap.size w); unfold laws_toManifest.f at h; have H := h; clear h; replace H := Option.bind_eq_some_iff.mp H; obtain ⟨t121, A20, H⟩ := H; replace H : (some (a0_0, t121)) = some (r1, r2) := H; have A2 := aM A20; clear A20; simp only [Option.some.injEq, Prod.mk.injEq] at H; obtain ⟨rfl, rfl⟩ := H; go_enter Tryd.func7, Tryd.ntmps7
 go_wp2_with (first | ((with_reducible refine gD 1 rfl ?_); refine bE 1 #[.string a0_0, .slice A0_1 l0_1.length c0_1] 24 ?_; intro gb118 hg w3 hbox hb; have BK118 := aM hbox; have GW118 := aM (zq47 : w.heap.size ≤ gb118); have GE118 := GW118; replace HB := sB zq6 hb; clear hb hbox hg) | ((with_reducible refine gD 2 rfl ?_); refine bE 2 #[.string (⟨#[]⟩ : ByteArray), .slice none 0 0] 27 ?_; intro gb119 hg w4 hbox hb; have BK119 := aM hbox; have GW119 := aM (by rw [hg]; exact (below_size zq19) : w.heap.size ≤ gb119); have GE119 := GW119; replace HB := sB zq19 hb; have NB118_119 := aM (zq48 : gb118 ≠ gb119); have NB119_118 := aM (zq49 : gb119 ≠ gb118); replace BK118 := bG BK118 hb; clear hb hbox hg) | ((with_reducible refine gD 3 rfl ?_); refine bE 3 #[.string (⟨#[]⟩ : ByteArray), .slice none 0 0] 27 ?_; intro gb120 hg w5 hbox hb; have BK120 := aM hbox; have GW120 := aM (by rw [hg]; exact (below_size zq21) : w.heap.size ≤ gb120); have GE120 := GW120; replace HB := sB zq21 hb; have NB118_120 := aM (zq48 : gb118 ≠ gb120); have NB120_118 := aM (zq49 : gb120 ≠ gb118); replace BK118 := bG BK118 hb; have NB119_120 := aM (by rw [hg]; exact Nat.ne_of_lt (blk_lt (g := gb119) (o := .cells #[.string (⟨#[]⟩ : ByteArray), .slice none 0 0] 27 (0, 0)) zq20) : gb119 ≠ gb120); have NB120_119 := aM (by rw [hg]; exact Nat.ne_of_gt (blk_lt (g := gb119) (o := .cells #[.string (⟨#[]⟩ : ByteArray), .slice none 0 0] 27 (0, 0)) zq20) : gb120 ≠ gb119); replace BK119 := bG BK119 hb; clear hb hbox hg; have hnb6 := NB118_119.out; have hnc6 := NB119_118.out; have hnb7 := NB118_120.out; have hnc7 := NB120_118.out; obtain ⟨hcz8_0, hcz8_1, hfz8_0, hfz8_1⟩ := cells2_ (w := w5) BK118; have hnb9 := NB120_119.out; have hnc9 := NB119_120.out; obtain ⟨hcz10_0, hcz10_1, hfz10_0, hfz10_1⟩ := cells2_ (w := w5) BK120) | ((with_reducible refine gC 18 rfl ?_); refine gL 9 Tryd.func18 #[.slice A0_1 l0_1.length c0_1] ?_; (with_reducible refine (laws_toStringS.calls k _ _ l0_1 t121 _ ?_ ?_ A2.out).mono ?_); exact Kd.C_below HR0_1.out zq22; exact zq11; rintro e w11 ⟨v122, rfl, ho0, hb⟩; refine ⟨_, rfl, ?_⟩; have HO123 := aM (Kd.R_lower ho0 (below_size zq22)); replace BK118 := bF BK118 (by refine dW ?_; refine blk_far ?_ NB118_120.out _; refine dW ?_; exact BK118.out) hb; replace BK119 := bF BK119 (by refine dW ?_; refine blk_far ?_ NB119_120.out _; refine dW ?_; exact BK119.out) hb; replace BK120 := bB (g := gb120) (o := .cells #[.string a0_0, .slice none 0 0] 27 (0, 0)) (by refine dW ?_; refine blk_put (cs := #[.string (⟨#[]⟩ : ByteArray), .slice none 0 0]) ?_ 0 _ rfl; refine dW ?_; exact BK120.out) hb; replace HB := sB zq22 hb; clear hb; (try clear ho0); obtain ⟨Ao12, co12, eo12⟩ := Kd.R_slice HO123.out; subst eo12; obtain ⟨hcz13_0, hcz13_1, hfz13_0, hfz13_1⟩ := cells2_ (w := w11) BK120; obtain ⟨hcz14_0, hcz14_1, hfz14_0, hfz14_1⟩ := cells2_ (w := w11) BK119))
 refine bodyPost_ret (results_cell_row rfl _ _ gb119 27 #[.string a0_0, .slice Ao12 t121.length co12] (0, 0) _ rfl (by refine dW ?_; refine blk_put (cs := #[.string a0_0, .slice none 0 0]) ?_ 1 _ rfl; refine dW ?_; refine blk_put (cs := #[.string (⟨#[]⟩ : ByteArray), .slice none 0 0]) ?_ 0 _ rfl; refine dW ?_; refine blk_far ?_ NB119_120.out _; refine dW ?_; exact BK119.out) Tryd.underlying27 rfl (by kernel_rfl)) rfl ?_; exact ⟨_, zq7, by refine dR ?_; exact Kd.R_mono (Kd.R_far (p := ⟨gb119, 1, none⟩) (Kd.R_far (p := ⟨gb119, 0, none⟩) (Kd.R_far (p := ⟨gb120, 1, none⟩) (Kd.R_types (Kd.R_types HO123.out BK120.out (by decide)) BK119.out (by decide)) (fun _ hk => hk.1.2) (.slice Ao12 t121.length co12)) (fun _ hk => hk.2) (.string a0_0)) (fun _ hk => hk.2) (.slice Ao12 t121.length co12)) (fun _ hk => trivial), zq22⟩

/-! ### stringslite_HasPrefix: function 56 -/
def stringslite_HasPrefix.f (a0 : ByteArray) (a1 : ByteArray) : Option (Bool) := if (a0.size : Int) ≥ (a1.size : Int) then (if 0 ≤ (a1.size : Int) then (if (a1.size : Int) ≤ (a0.size : Int) then (some ((a0.extract 0 ((a1.size : Int) : Int).toNat).toList == a1.toList)) else (none)) else (none)) else (some false)
set_option maxHeartbeats 8000000 in
set_option maxRecDepth 100000 in
theorem stringslite_HasPrefix.calls (a0 : ByteArray) (a1 : ByteArray) (r : Bool) (w : World) (h : stringslite_HasPrefix.f a0 a1 = some r) :
  Calls Tryd.prog 56 #[.string a0, .string a1] w fun e w' => e = .returned (.bool r) ∧ Drawn0 w w' := by
 unfold stringslite_HasPrefix.f at h; have H := h; clear h; by_cases c3 : (a0.size : Int) ≥ (a1.size : Int)
 ·
  rw [if_pos c3] at H; have c3b0 : decide ((a1.size : Int) ≤ (a0.size : Int)) = true := decide_eq_true c3; have c3b1 : decide (a1.size ≤ a0.size) = true := decide_eq_true (Int.ofNat_le.mp c3); clear c3; by_cases c4 : 0 ≤ (a1.size : Int)
  ·
   rw [if_pos c4] at H; have c4b0 := eq_true c4; have c4b1 := decide_eq_true c4; clear c4; by_cases c5 : (a1.size : Int) ≤ (a0.size : Int)
   ·
    rw [if_pos c5] at H; have c5b0 := eq_true c5; have c5b1 := decide_eq_true c5; clear c5; obtain rfl := Option.some.inj H; go_enter Tryd.func56, Tryd.ntmps56; go_wp2; go_ret; exact ⟨zq1, zq2⟩
   exact zq56
  exact zq57
 rw [if_neg c3] at H; have c3b0 : decide ((a1.size : Int) ≤ (a0.size : Int)) = false := decide_eq_false c3; have c3b1 : decide (a1.size ≤ a0.size) = false := decide_eq_false (fun h => c3 (Int.ofNat_le.mpr h)); clear c3; obtain rfl := Option.some.inj H; go_enter Tryd.func56, Tryd.ntmps56; go_wp2; go_ret; exact ⟨zq1, zq2⟩

/-! ### stringslite_CutPrefix: function 37 -/
def stringslite_CutPrefix.f (a0 : ByteArray) (a1 : ByteArray) : Option (ByteArray × Bool) := (stringslite_HasPrefix.f a0 a1).bind fun t124 => (if t124 = true then (if 0 ≤ (a1.size : Int) then (if (a1.size : Int) ≤ (a0.size : Int) then (some (a0.extract ((a1.size : Int) : Int).toNat a0.size, true)) else (none)) else (none)) else (some (a0, false)))
set_option maxHeartbeats 8000000 in
set_option maxRecDepth 100000 in
theorem stringslite_CutPrefix.calls (a0 : ByteArray) (a1 : ByteArray) (r1 : ByteArray) (r2 : Bool) (w : World) (h : stringslite_CutPrefix.f a0 a1 = some (r1, r2)) :
  Calls Tryd.prog 37 #[.string a0, .string a1] w fun e w' => e = .returned (.tuple #[.string r1, .bool r2]) ∧ Drawn0 w w' := by
 unfold stringslite_CutPrefix.f at h; have H := h; clear h; replace H := Option.bind_eq_some_iff.mp H; obtain ⟨t124, A30, H⟩ := H; (try dsimp only at H); have A3 := aM A30; clear A30; by_cases c4 : t124 = true
 ·
  subst c4; rw [if_pos rfl] at H; by_cases c5 : 0 ≤ (a1.size : Int)
  ·
   rw [if_pos c5] at H; have c5b0 := eq_true c5; have c5b1 := decide_eq_true c5; clear c5; by_cases c6 : (a1.size : Int) ≤ (a0.size : Int)
   ·
    rw [if_pos c6] at H; have c6b0 := eq_true c6; have c6b1 := decide_eq_true c6; clear c6; simp only [Option.some.injEq, Prod.mk.injEq] at H; obtain ⟨rfl, rfl⟩ := H; go_enter Tryd.func37, Tryd.ntmps37
    go_wp2_with (first | ((with_reducible refine gC 56 rfl ?_); refine gL 8 Tryd.func56 #[.string a0, .string a1] ?_; (with_reducible refine (stringslite_HasPrefix.calls a0 a1 true _ A3.out).mono ?_); rintro e w' ⟨rfl, ⟨nd, rfl⟩⟩; refine ⟨_, rfl, ?_⟩))
    go_ret2
    exact ⟨zq1, zq2⟩
   rw [if_neg c6] at H; exact absurd H (by simp)
  exact zq56
 replace c4 := Bool.eq_false_iff.mpr c4; subst c4; rw [if_neg (show ¬ (false = true) by decide)] at H; simp only [Option.some.injEq, Prod.mk.injEq] at H; obtain ⟨rfl, rfl⟩ := H; go_enter Tryd.func37, Tryd.ntmps37
 go_wp2_with (first | ((with_reducible refine gC 56 rfl ?_); refine gL 8 Tryd.func56 #[.string a0, .string a1] ?_; (with_reducible refine (stringslite_HasPrefix.calls a0 a1 false _ A3.out).mono ?_); rintro e w' ⟨rfl, ⟨nd, rfl⟩⟩; refine ⟨_, rfl, ?_⟩))
 go_ret2
 exact ⟨zq1, zq2⟩

/-! ### strings_CutPrefix: function 31 -/
def strings_CutPrefix.f (a0 : ByteArray) (a1 : ByteArray) : Option (ByteArray × Bool) := (stringslite_CutPrefix.f a0 a1).bind fun bt125 => (some (bt125.1, bt125.2))
set_option maxHeartbeats 8000000 in
set_option maxRecDepth 100000 in
theorem strings_CutPrefix.calls (a0 : ByteArray) (a1 : ByteArray) (r1 : ByteArray) (r2 : Bool) (w : World) (h : strings_CutPrefix.f a0 a1 = some (r1, r2)) :
  Calls Tryd.prog 31 #[.string a0, .string a1] w fun e w' => e = .returned (.tuple #[.string r1, .bool r2]) ∧ Drawn0 w w' := by
 unfold strings_CutPrefix.f at h; have H := h; clear h; replace H := Option.bind_eq_some_iff.mp H; obtain ⟨⟨t125, t126⟩, A30, H⟩ := H; replace H : (some (t125, t126)) = some (r1, r2) := H; have A3 := aM A30; clear A30; simp only [Option.some.injEq, Prod.mk.injEq] at H; obtain ⟨rfl, rfl⟩ := H; go_enter Tryd.func31, Tryd.ntmps31
 go_wp2_with (first | ((with_reducible refine gC 37 rfl ?_); refine gL 8 Tryd.func37 #[.string a0, .string a1] ?_; (with_reducible refine (stringslite_CutPrefix.calls a0 a1 t125 t126 _ A3.out).mono ?_); rintro e w' ⟨rfl, ⟨nd, rfl⟩⟩; refine ⟨_, rfl, ?_⟩))
 go_ret2
 exact ⟨zq1, zq2⟩

/-! ### strings_Trim: function 32 (given) -/
def strings_Trim.f (a0 : ByteArray) (a1 : ByteArray) : Option ByteArray := if a0.size ≤ 9223372036854775807 ∧ a1.size < 4294967281 ∧ a1.data.toList.all (fun b => decide (b.toNat < 128)) = true then some ⟨(Lib.trimS a0.data.toList a1.data.toList).toArray⟩ else none
theorem strings_Trim.calls (a0 : ByteArray) (a1 : ByteArray) (r : ByteArray) (w : World) (h : strings_Trim.f a0 a1 = some r) :
    Calls Tryd.prog 32 #[.string a0, .string a1] w fun e w' => e = .returned (.string r) ∧ Below w.heap.size w w' := by
  unfold strings_Trim.f at h
  split at h
  · rename_i hg
    injection h with h
    subst h; exact Any.strings_Trim_laid Tryd.lays160 (by kernel_rfl) a0 a1 w hg.1 hg.2.1 (ascii_of_all hg.2.2)
  · exact absurd h (by simp)

/-! ### impl_isDigest: function 24 -/
def impl_isDigest.f (a0 : ByteArray) : Option (Bool) := (strings_CutPrefix.f a0 (⟨#[115, 104, 97, 50, 53, 54, 58]⟩ : ByteArray)).bind fun bt127 => (if bt127.2 = true then (if (bt127.1.size : Int) = 64 then ((strings_Trim.f bt127.1 (⟨#[48, 49, 50, 51, 52, 53, 54, 55, 56, 57, 97, 98, 99, 100, 101, 102]⟩ : ByteArray)).bind fun t129 => (some (t129.toList == ([] : List UInt8)))) else (some false)) else (some false))
set_option maxHeartbeats 8000000 in
set_option maxRecDepth 100000 in
theorem impl_isDigest.calls (a0 : ByteArray) (r : Bool) (w : World) (h : impl_isDigest.f a0 = some r) :
  Calls Tryd.prog 24 #[.string a0] w fun e w' => e = .returned (.bool r) ∧ Below w.heap.size w w' := by
 have HB := aM (Below.refl w.heap.size w); unfold impl_isDigest.f at h; have H := h; clear h; replace H := Option.bind_eq_some_iff.mp H; obtain ⟨⟨t127, t128⟩, A20, H⟩ := H; (try dsimp only at H); have A2 := aM A20; clear A20; by_cases c3 : t128 = true
 ·
  subst c3; rw [if_pos rfl] at H; by_cases c4 : (t127.size : Int) = 64
  ·
   rw [if_pos c4] at H; have c4b0 : ((t127.size : Int) == 64) = true := beq_iff_eq.mpr c4; have c4b1 : ((t127.size : Int) != 64) = false := bne_eq_false_iff_eq.mpr c4; clear c4; replace H := Option.bind_eq_some_iff.mp H; obtain ⟨t129, A50, H⟩ := H; (try dsimp only at H); have A5 := aM A50; clear A50; obtain rfl := Option.some.inj H; go_enter Tryd.func24, Tryd.ntmps24
   go_wp2_with (first | ((with_reducible refine gC 31 rfl ?_); refine gL 7 Tryd.func31 #[.string a0, .string (⟨#[115, 104, 97, 50, 53, 54, 58]⟩ : ByteArray)] ?_; (with_reducible refine (strings_CutPrefix.calls a0 (⟨#[115, 104, 97, 50, 53, 54, 58]⟩ : ByteArray) t127 true _ A2.out).mono ?_); rintro e w' ⟨rfl, ⟨nd, rfl⟩⟩; refine ⟨_, rfl, ?_⟩) | (go_at_call 32; (with_reducible refine (strings_Trim.calls t127 (⟨#[48, 49, 50, 51, 52, 53, 54, 55, 56, 57, 97, 98, 99, 100, 101, 102]⟩ : ByteArray) t129 _ A5.out).mono ?_); rintro e w6 ⟨rfl, hb⟩; replace HB := sB zq6 hb; clear hb))
   go_ret; exact ⟨zq7, zq6⟩
  rw [if_neg c4] at H; have c4b0 : ((t127.size : Int) == 64) = false := beq_eq_false_iff_ne.mpr c4; have c4b1 : ((t127.size : Int) != 64) = true := bne_iff_ne.mpr c4; obtain rfl := Option.some.inj H; go_enter Tryd.func24, Tryd.ntmps24
  go_wp2_with (first | ((with_reducible refine gC 31 rfl ?_); refine gL 7 Tryd.func31 #[.string a0, .string (⟨#[115, 104, 97, 50, 53, 54, 58]⟩ : ByteArray)] ?_; (with_reducible refine (strings_CutPrefix.calls a0 (⟨#[115, 104, 97, 50, 53, 54, 58]⟩ : ByteArray) t127 true _ A2.out).mono ?_); rintro e w' ⟨rfl, ⟨nd, rfl⟩⟩; refine ⟨_, rfl, ?_⟩))
  go_ret; exact ⟨zq7, zq6⟩
 replace c3 := Bool.eq_false_iff.mpr c3; subst c3; rw [if_neg (show ¬ (false = true) by decide)] at H; obtain rfl := Option.some.inj H; go_enter Tryd.func24, Tryd.ntmps24
 go_wp2_with (first | ((with_reducible refine gC 31 rfl ?_); refine gL 7 Tryd.func31 #[.string a0, .string (⟨#[115, 104, 97, 50, 53, 54, 58]⟩ : ByteArray)] ?_; (with_reducible refine (strings_CutPrefix.calls a0 (⟨#[115, 104, 97, 50, 53, 54, 58]⟩ : ByteArray) t127 false _ A2.out).mono ?_); rintro e w' ⟨rfl, ⟨nd, rfl⟩⟩; refine ⟨_, rfl, ?_⟩))
 go_ret; exact ⟨zq7, zq6⟩

/-! ### impl_isManifest: function 19 (walked by hand) -/
set_option maxHeartbeats 8000000 in
/-- The closure: a text that is no digest. -/
theorem impl_isManifest.clo (d : ByteArray) (t : Bool) (w : World) (h : impl_isDigest.f d = some t) :
  Calls Tryd.prog 26 #[.string d] w fun e w' => e = .returned (.bool (!t)) ∧ Below w.heap.size w w' := by
 go_enter Tryd.func26, Tryd.ntmps26
 go_wp2_with (fail)
 refine (impl_isDigest.calls d t _ h).mono ?_; rintro e w2 ⟨rfl, hb⟩
 try dsimp only
 go_wp2; go_ret; exact ⟨rfl, hb⟩
/-- The first place from i on at which there is no digest, or -1. -/
def impl_isManifest.at (l : List ByteArray) : Nat → Nat → Option Int
 | 0, _ => some (-1)
 | d + 1, i => (impl_isDigest.f (rdOf ByteArray.empty l (i : Int))).bind fun t => if t = true then impl_isManifest.at l d (i + 1) else some (i : Int)
set_option maxHeartbeats 8000000 in
theorem impl_isManifest.index (l : List ByteArray) (A : Option Addr) (c : Nat) (r : Int) (w : World) (hr : Kd.C Kd.string w A l.length l) (hc : l.length ≤ c) (hm : l.length ≤ 4611686018427387904) (h : impl_isManifest.at l l.length 0 = some r) :
  Calls Tryd.prog 33 #[.slice A l.length c, .func (.func 26) #[] #[]] w fun e w' => e = .returned (.int .i64 r) ∧ Below w.heap.size w w' := by
 have HR := aM hr; have HC := aM hc; have HM := aM hm; have H := aM h; clear hr hc hm h; go_enter Tryd.func33, Tryd.ntmps33; go_wp2
 go_loopg [8] l.length (fun kq v8 w' => ∃ (i : Nat) (x8 : Int), v8 = .int .i64 x8 ∧ Aside0 (x8 = (i : Int)) ∧ Aside0 (i + kq = l.length) ∧ Aside0 (impl_isManifest.at l kq i = some r) ∧ Aside0 (Below w.heap.size w w'))
 case atStart => exact ⟨0, 0, rfl, ⟨rfl⟩, ⟨by omega⟩, H, ⟨Below.refl _ _⟩⟩
 case round =>
  obtain ⟨i, x8, rfl, HI, hi, HE, HB⟩ := hrel
  cases gk with
  | zero =>
   have c1 : decide (x8 < (l.length : Int)) = false := decide_eq_false zq23; go_wp2; go_ret; have e1 := HE.out; unfold impl_isManifest.at at e1
   injection e1 with e1
   exact ⟨by first | (rw [← e1]; done) | (rw [← e1]; rfl), HB.out⟩
  | succ k1 =>
   have c1 : decide (x8 < (l.length : Int)) = true := decide_eq_true zq23; have b1 := eq_true (show 0 ≤ x8 by have := HI.out; omega); have b2 := eq_true (show x8 < (l.length : Int) by have := HI.out; have := hi.out; omega); obtain ⟨ad, e1, h0⟩ := Kd.at_string HR.out x8 (by have := HI.out; omega) zq23; subst e1; have hx0 : wr.cell? (ad.add x8.toNat) = some (.string (rdOf ByteArray.empty l x8)) := hxB HB h0; clear h0; have E := HE.out; unfold impl_isManifest.at at E; rw [← HI.out] at E; obtain ⟨t, ht, E⟩ := Option.bind_eq_some_iff.mp E; have HT := aM ht; have EE := aM E; clear ht E
   cases t with
   | true =>
    go_wp2_with (fail)
    refine (impl_isManifest.clo _ true _ HT.out).mono ?_; rintro e w7 ⟨rfl, hb⟩; have HB2 := aM (below_step HB.out hb); clear hb
    try dsimp only
    go_wp2
    go_roundg k1
    case measure => omega
    case rel =>
     refine ⟨i + 1, wrap64 (x8 + 1), rfl, ⟨?_⟩, ⟨by have := hi.out; omega⟩, ⟨?_⟩, HB2⟩
     ·
      rw [HI.out]; have := hi.out; have := HM.out; unfold wrap64; omega
     simpa using EE.out
   | false =>
    go_wp2_with (fail)
    refine (impl_isManifest.clo _ false _ HT.out).mono ?_; rintro e w7 ⟨rfl, hb⟩; have HB2 := aM (below_step HB.out hb); clear hb
    try dsimp only
    go_wp2; go_ret; have e2 := EE.out; rw [if_neg (by decide), Option.some.injEq] at e2; exact ⟨by first | (rw [← e2]; done) | (rw [← e2]; rfl), HB2.out⟩
set_option maxHeartbeats 8000000 in
theorem impl_isManifest.contains (l : List ByteArray) (A : Option Addr) (c : Nat) (r : Int) (w : World) (hr : Kd.C Kd.string w A l.length l) (hc : l.length ≤ c) (hm : l.length ≤ 4611686018427387904) (h : impl_isManifest.at l l.length 0 = some r) :
  Calls Tryd.prog 25 #[.slice A l.length c, .func (.func 26) #[] #[]] w fun e w' => e = .returned (.bool (decide (0 ≤ r))) ∧ Below w.heap.size w w' := by
 go_enter Tryd.func25, Tryd.ntmps25
 go_wp2_with (fail)
 refine (impl_isManifest.index l A c r _ hr hc hm h).mono ?_; rintro e w2 ⟨rfl, hb⟩
 try dsimp only
 go_wp2; go_ret; exact ⟨rfl, hb⟩
def impl_isManifest.f (a0_0 : ByteArray) (l0_1 : List ByteArray) : Option Bool := (impl_isDigest.f a0_0).bind fun t => if t = true then (if 1 ≤ (l0_1.length : Int) then (if (l0_1.length : Int) ≤ 40 then ((impl_isManifest.at l0_1 l0_1.length 0).bind fun i => some (!decide (0 ≤ i))) else some false) else some false) else some false
set_option maxHeartbeats 8000000 in
theorem impl_isManifest.calls (a0_0 : ByteArray) (A0_1 : Option Addr) (c0_1 : Nat) (l0_1 : List ByteArray) (r : Bool) (w : World) (hr0_1 : Kd.C Kd.string w A0_1 l0_1.length l0_1) (hc0_1 : l0_1.length ≤ c0_1) (h : impl_isManifest.f a0_0 l0_1 = some r) :
  Calls Tryd.prog 19 #[.agg #[.string a0_0, .slice A0_1 l0_1.length c0_1]] w fun e w' => e = .returned (.bool r) ∧ Below w.heap.size w w' := by
 have HR := aM hr0_1; have HC := aM hc0_1; have HB := aM (Below.refl w.heap.size w); unfold impl_isManifest.f at h; obtain ⟨t, ht, h⟩ := Option.bind_eq_some_iff.mp h; have HT := aM ht; clear hr0_1 hc0_1 ht
 cases t with
 | false =>
  rw [if_neg (by decide)] at h
  injection h with h
  subst h; go_enter Tryd.func19, Tryd.ntmps19
  go_wp2_with ((with_reducible refine gD 1 rfl ?_); refine bE 1 #[.string a0_0, .slice A0_1 l0_1.length c0_1] 27 ?_; intro gb hg w1 hbox hb; have BK := aM hbox; replace HB := sB HB.out hb; clear hb hbox hg; obtain ⟨z0, z1, f0, f1⟩ := cells2_ (w := w1) BK)
  refine (impl_isDigest.calls a0_0 false _ HT.out).mono ?_; rintro e w2 ⟨rfl, hb⟩; replace HB := sB HB.out hb; clear hb
  try dsimp only
  go_wp2; go_ret; exact ⟨rfl, HB.out⟩
 | true =>
  rw [if_pos rfl] at h; by_cases g1 : 1 ≤ (l0_1.length : Int)
  ·
   rw [if_pos g1] at h; have c1 := decide_eq_true g1; by_cases g2 : (l0_1.length : Int) ≤ 40
   ·
    rw [if_pos g2] at h; have c2 := decide_eq_true g2; have HM := aM (show l0_1.length ≤ 4611686018427387904 by omega); clear g1 g2; obtain ⟨i, hi, h⟩ := Option.bind_eq_some_iff.mp h; have HI := aM hi
    injection h with h
    subst h; clear hi; go_enter Tryd.func19, Tryd.ntmps19
    go_wp2_with ((with_reducible refine gD 1 rfl ?_); refine bE 1 #[.string a0_0, .slice A0_1 l0_1.length c0_1] 27 ?_; intro gb hg w1 hbox hb; have BK := aM hbox; replace HB := sB HB.out hb; clear hb hbox hg; obtain ⟨z0, z1, f0, f1⟩ := cells2_ (w := w1) BK)
    refine (impl_isDigest.calls a0_0 true _ HT.out).mono ?_; rintro e w2 ⟨rfl, hb⟩; replace HB := sB HB.out hb; replace BK := bF BK BK.out hb; clear hb
    try dsimp only
    obtain ⟨y0, y1, p0, p1⟩ := cells2_ (w := w2) BK
    go_wp2_with (fail)
    refine (impl_isManifest.contains l0_1 A0_1 c0_1 i _ (Kd.C_below HR.out HB.out) HC.out HM.out HI.out).mono ?_; rintro e w3 ⟨rfl, hb⟩; replace HB := sB HB.out hb; clear hb
    try dsimp only
    go_wp2; go_ret; exact ⟨rfl, HB.out⟩
   rw [if_neg g2] at h; have c2 := decide_eq_false g2
   injection h with h
   subst h; clear g1 g2; go_enter Tryd.func19, Tryd.ntmps19
   go_wp2_with ((with_reducible refine gD 1 rfl ?_); refine bE 1 #[.string a0_0, .slice A0_1 l0_1.length c0_1] 27 ?_; intro gb hg w1 hbox hb; have BK := aM hbox; replace HB := sB HB.out hb; clear hb hbox hg; obtain ⟨z0, z1, f0, f1⟩ := cells2_ (w := w1) BK)
   refine (impl_isDigest.calls a0_0 true _ HT.out).mono ?_; rintro e w2 ⟨rfl, hb⟩; replace HB := sB HB.out hb; replace BK := bF BK BK.out hb; clear hb
   try dsimp only
   obtain ⟨y0, y1, p0, p1⟩ := cells2_ (w := w2) BK; go_wp2; go_ret; exact ⟨rfl, HB.out⟩
  rw [if_neg g1] at h; have c1 := decide_eq_false g1
  injection h with h
  subst h; clear g1; go_enter Tryd.func19, Tryd.ntmps19
  go_wp2_with ((with_reducible refine gD 1 rfl ?_); refine bE 1 #[.string a0_0, .slice A0_1 l0_1.length c0_1] 27 ?_; intro gb hg w1 hbox hb; have BK := aM hbox; replace HB := sB HB.out hb; clear hb hbox hg; obtain ⟨z0, z1, f0, f1⟩ := cells2_ (w := w1) BK)
  refine (impl_isDigest.calls a0_0 true _ HT.out).mono ?_; rintro e w2 ⟨rfl, hb⟩; replace HB := sB HB.out hb; replace BK := bF BK BK.out hb; clear hb
  try dsimp only
  obtain ⟨y0, y1, p0, p1⟩ := cells2_ (w := w2) BK; go_wp2; go_ret; exact ⟨rfl, HB.out⟩

end Go.Proofs.YtkpbdfpmoeobnaaDoor.QFnExactWriteManifest
