/- Written by wip/myprint.py of this repo (the kit's print, with additions of this session). -/
import Derived.Test.YtldpdaifajjaeaaDoorQFnRefsx0
import Derived.Test.YtldpdaifajjaeaaDoorQFnRefsx4
import Derived.Test.YtldpdaifajjaeaaDoorQFnRefsx5
import Derived.Test.YtldpdaifajjaeaaDoorQFnRefsx7
set_option maxRecDepth 100000
namespace Go.Proofs.YtldpdaifajjaeaaDoor.QFnRefs
open Go.RowKit Go.Proofs.YtldpdaifajjaeaaDoorW.PrintWords Go.Proofs.YtldpdaifajjaeaaDoorW.PrintLast Go.Proofs.YtldpdaifajjaeaaDoorW.PrintMore
attribute [local go_sem] max2_int min2_int max_two min_two max_three min_three max_four min_four   -- for this text's walks alone
set_option linter.unusedVariables false
set_option linter.unusedSimpArgs false

/-! ### spec_ReadRef: function 14 -/
mutual
def spec_ReadRef.j0 : Nat → ByteArray → Bool → ByteArray → ByteArray → ByteArray → ByteArray → ByteArray → ByteArray → Option (ByteArray × ByteArray × ByteArray × Int)
 | 0, _, _, _, _, _, _, _, _ => none
 | k + 1, x7, x30, x154000, x154001, x154002, x156000, x156001, x156002 => if x30 = true then ((spec_l3Find.f k x7 64 64).bind fun t157 => (if 1 ≤ t157 then (if t157 ≤ (x7.size : Int) then ((spec_TagOk.f k (x7.extract 1 (t157 : Int).toNat)).bind fun t158 => (if t158 = true then (if 0 ≤ t157 then (spec_ReadRef.j1 k (x7.extract (t157 : Int).toNat x7.size) x154000 x154001 x154002 x156000 (x7.extract 1 (t157 : Int).toNat) x156002) else (none)) else (some (x154000, x154001, x154002, 2)))) else (none)) else (none))) else (spec_ReadRef.j1 k x7 x154000 x154001 x154002 x156000 x156001 x156002)
def spec_ReadRef.j1 : Nat → ByteArray → ByteArray → ByteArray → ByteArray → ByteArray → ByteArray → ByteArray → Option (ByteArray × ByteArray × ByteArray × Int)
 | 0, _, _, _, _, _, _, _ => none
 | k + 1, x7, x154000, x154001, x154002, x156000, x156001, x156002 => if x7.toList = ([] : List UInt8) then (some (x156000, x156001, x156002, 0)) else (if 1 ≤ (x7.size : Int) then ((spec_DigestOk.f k (x7.extract 1 x7.size)).bind fun t159 => (if t159 = true then (some (x156000, x156001, x7.extract 1 x7.size, 0)) else (some (x154000, x154001, x154002, 3)))) else (none))
end
def spec_ReadRef.f (k : Nat) (a0 : ByteArray) : Option (ByteArray × ByteArray × ByteArray × Int) := (spec_l3Find.f k a0 58 64).bind fun t154 => (if 0 ≤ t154 then (if t154 ≤ (a0.size : Int) then ((spec_RepoOk.f k (a0.extract 0 (t154 : Int).toNat)).bind fun t156 => (if t156 = true then (if (a0.extract (t154 : Int).toNat a0.size).toList = ([] : List UInt8) then (spec_ReadRef.j0 k (a0.extract (t154 : Int).toNat a0.size) false (⟨#[]⟩ : ByteArray) (⟨#[]⟩ : ByteArray) (⟨#[]⟩ : ByteArray) (a0.extract 0 (t154 : Int).toNat) (⟨#[]⟩ : ByteArray) (⟨#[]⟩ : ByteArray)) else (if 0 < ((a0.extract (t154 : Int).toNat a0.size).size : Int) then (spec_ReadRef.j0 k (a0.extract (t154 : Int).toNat a0.size) ((bt (a0.extract (t154 : Int).toNat a0.size) 0) == 58) (⟨#[]⟩ : ByteArray) (⟨#[]⟩ : ByteArray) (⟨#[]⟩ : ByteArray) (a0.extract 0 (t154 : Int).toNat) (⟨#[]⟩ : ByteArray) (⟨#[]⟩ : ByteArray)) else (none))) else (some ((⟨#[]⟩ : ByteArray), (⟨#[]⟩ : ByteArray), (⟨#[]⟩ : ByteArray), 1)))) else (none)) else (none))
theorem spec_ReadRef.mono_l : ∀ k, (∀ y0 y1 y2 y3 y4 y5 y6 y7, LeO (spec_ReadRef.j0 k y0 y1 y2 y3 y4 y5 y6 y7) (spec_ReadRef.j0 (k + 1) y0 y1 y2 y3 y4 y5 y6 y7)) ∧ (∀ y0 y1 y2 y3 y4 y5 y6, LeO (spec_ReadRef.j1 k y0 y1 y2 y3 y4 y5 y6) (spec_ReadRef.j1 (k + 1) y0 y1 y2 y3 y4 y5 y6))
 | 0 => ⟨fun _ _ _ _ _ _ _ _ r h => by simp [spec_ReadRef.j0] at h, fun _ _ _ _ _ _ _ r h => by simp [spec_ReadRef.j1] at h⟩
 | k + 1 => by
  obtain ⟨ih0, ih1⟩ := spec_ReadRef.mono_l k; refine ⟨?_, ?_⟩
  ·
   intro y0 y1 y2 y3 y4 y5 y6 y7; unfold spec_ReadRef.j0
   repeat' first
   | (with_reducible apply ih0)
   | (with_reducible apply ih1)
   | (with_reducible apply spec_DigestOk.mono)
   | (with_reducible apply spec_RepoOk.mono)
   | (with_reducible apply spec_TagOk.mono)
   | (with_reducible apply spec_l3Find.mono)
   | (with_reducible exact LeO.refl _)
   | (with_reducible exact LeO.none _)
   | (with_reducible refine LeO.ite ?_ ?_)
   | (with_reducible refine LeO.bind ?_ (fun _ => ?_))
   | exact LeO.none _
   | refine LeO.ite ?_ ?_
   | refine LeO.bind ?_ (fun _ => ?_)
  intro y0 y1 y2 y3 y4 y5 y6; unfold spec_ReadRef.j1
  repeat' first
  | (with_reducible apply ih0)
  | (with_reducible apply ih1)
  | (with_reducible apply spec_DigestOk.mono)
  | (with_reducible apply spec_RepoOk.mono)
  | (with_reducible apply spec_TagOk.mono)
  | (with_reducible apply spec_l3Find.mono)
  | (with_reducible exact LeO.refl _)
  | (with_reducible exact LeO.none _)
  | (with_reducible refine LeO.ite ?_ ?_)
  | (with_reducible refine LeO.bind ?_ (fun _ => ?_))
  | exact LeO.none _
  | refine LeO.ite ?_ ?_
  | refine LeO.bind ?_ (fun _ => ?_)
theorem spec_ReadRef.mono : ∀ a0 k, LeO (spec_ReadRef.f k a0) (spec_ReadRef.f (k + 1) a0) := by
 intro a0 k; obtain ⟨ih0, ih1⟩ := spec_ReadRef.mono_l k; unfold spec_ReadRef.f
 repeat' first
   | (with_reducible apply ih0)
   | (with_reducible apply ih1)
   | (with_reducible apply spec_DigestOk.mono)
   | (with_reducible apply spec_RepoOk.mono)
   | (with_reducible apply spec_TagOk.mono)
   | (with_reducible apply spec_l3Find.mono)
   | (with_reducible exact LeO.refl _)
   | (with_reducible exact LeO.none _)
   | (with_reducible refine LeO.ite ?_ ?_)
   | (with_reducible refine LeO.bind ?_ (fun _ => ?_))
   | exact LeO.none _
   | refine LeO.ite ?_ ?_
   | refine LeO.bind ?_ (fun _ => ?_)
set_option maxHeartbeats 8000000 in
set_option maxRecDepth 100000 in
theorem spec_ReadRef.calls (k : Nat) (a0 : ByteArray) (r1 : ByteArray) (r2 : ByteArray) (r3 : ByteArray) (r4 : Int) (w : World) (h : spec_ReadRef.f k a0 = some (r1, r2, r3, r4)) :
  Calls Tryd.prog 14 #[.string a0] w fun e w' => e = .returned (.tuple #[.agg #[.string r1, .string r2, .string r3], .int .i64 r4]) ∧ Below w.heap.size w w' := by
 have hu27 := Tryd.underlying27; have HB := aM (Below.refl w.heap.size w); unfold spec_ReadRef.f at h; have H := h; clear h; replace H := Option.bind_eq_some_iff.mp H; obtain ⟨t154, A20, H⟩ := H; (try dsimp only at H); have A2 := aM A20; clear A20; by_cases c3 : 0 ≤ t154
 ·
  rw [if_pos c3] at H; have c3b0 := eq_true c3; have c3b1 := decide_eq_true c3; clear c3; by_cases c4 : t154 ≤ (a0.size : Int)
  ·
   rw [if_pos c4] at H; have c4b0 := eq_true c4; have c4b1 := decide_eq_true c4; clear c4; replace H := Option.bind_eq_some_iff.mp H; obtain ⟨t156, A50, H⟩ := H; (try dsimp only at H); have A5 := aM A50; clear A50; by_cases c6 : t156 = true
   ·
    subst c6; rw [if_pos rfl] at H; have c7b0 := eq_true (of_decide_eq_true zq11 : 0 ≤ t154); have c8b0 := eq_true (of_decide_eq_true zq11 : t154 ≤ (a0.size : Int)); have HC9 := aM H; clear H; go_enter Tryd.func14, Tryd.ntmps14
    go_upto_region 7 with (first | ((with_reducible refine gD 2 rfl ?_); refine bE 2 #[.string (⟨#[]⟩ : ByteArray), .string (⟨#[]⟩ : ByteArray), .string (⟨#[]⟩ : ByteArray)] 27 ?_; intro gb152 hg w10 hbox hb; have BK152 := aM hbox; have GW152 := aM (zq97 : w.heap.size ≤ gb152); have GE152 := GW152; replace HB := sB zq2 hb; clear hb hbox hg) | ((with_reducible refine gD 4 rfl ?_); refine bE 4 #[.string (⟨#[]⟩ : ByteArray), .string (⟨#[]⟩ : ByteArray), .string (⟨#[]⟩ : ByteArray)] 27 ?_; intro gb153 hg w11 hbox hb; have BK153 := aM hbox; have GW153 := aM (zq116 : w.heap.size ≤ gb153); have GE153 := GW153; replace HB := sB zq87 hb; have NB152_153 := aM (zq117 : gb152 ≠ gb153); have NB153_152 := aM (zq118 : gb153 ≠ gb152); replace BK152 := bG BK152 hb; clear hb hbox hg; have hnb12 := NB153_152.out; have hnc12 := NB152_153.out; obtain ⟨hcz13_0, hcz13_1, hcz13_2, hfz13_0, hfz13_1, hfz13_2⟩ := cells3_ (w := w11) BK153) | ((with_reducible refine gC 32 rfl ?_); refine gL 11 Tryd.func32 #[.string a0, .int .u8 58, .int .u8 64] ?_; (with_reducible refine (spec_l3Find.calls k a0 58 64 t154 _ A2.out).mono ?_); rintro e w' ⟨rfl, ⟨nd, rfl⟩⟩; refine ⟨_, rfl, ?_⟩) | ((with_reducible refine gD 6 rfl ?_); refine bE 6 #[.string (⟨#[]⟩ : ByteArray), .string (⟨#[]⟩ : ByteArray), .string (⟨#[]⟩ : ByteArray)] 27 ?_; intro gb155 hg w14 hbox hb; have BK155 := aM hbox; have GW155 := aM (zq119 : w.heap.size ≤ gb155); have GE155 := GW155; replace HB := sB zq90 hb; have NB152_155 := aM (zq120 : gb152 ≠ gb155); have NB155_152 := aM (zq121 : gb155 ≠ gb152); replace BK152 := bF BK152 zq88 hb; have NB153_155 := aM (zq122 : gb153 ≠ gb155); have NB155_153 := aM (zq123 : gb155 ≠ gb153); replace BK153 := bB (g := gb153) (o := .cells #[.string (⟨#[]⟩ : ByteArray), .string (⟨#[]⟩ : ByteArray), .string (⟨#[]⟩ : ByteArray)] 27 (0, 0)) zq89 hb; clear hb hbox hg; have hnb15 := NB155_152.out; have hnc15 := NB152_155.out; have hnb16 := NB155_153.out; have hnc16 := NB153_155.out; obtain ⟨hcz17_0, hcz17_1, hcz17_2, hfz17_0, hfz17_1, hfz17_2⟩ := cells3_ (w := w14) BK155) | ((with_reducible refine gC 8 rfl ?_); refine gL 18 Tryd.func8 #[.string (a0.extract 0 (t154 : Int).toNat)] ?_; (with_reducible refine (spec_RepoOk.calls k (a0.extract 0 (t154 : Int).toNat) true _ A5.out).mono ?_); rintro e w18 ⟨rfl, hb⟩; refine ⟨_, rfl, ?_⟩; replace BK152 := bF BK152 zq91 hb; replace BK153 := bF BK153 zq92 hb; replace BK155 := bB (g := gb155) (o := .cells #[.string (a0.extract 0 (t154 : Int).toNat), .string (⟨#[]⟩ : ByteArray), .string (⟨#[]⟩ : ByteArray)] 27 (0, 0)) zq93 hb; replace HB := sB zq94 hb; clear hb))
    (try simp only [Act.put, List.setIfInBounds_toArray, List.set_cons_zero, List.set_cons_succ])
    go_cut [30] (fun v30 wc => ∃ (kq : Nat) (x30_8 : Bool), v30 = .bool x30_8 ∧ Aside0 (spec_ReadRef.j0 kq (a0.extract (t154 : Int).toNat a0.size) x30_8 (⟨#[]⟩ : ByteArray) (⟨#[]⟩ : ByteArray) (⟨#[]⟩ : ByteArray) (a0.extract 0 (t154 : Int).toNat) (⟨#[]⟩ : ByteArray) (⟨#[]⟩ : ByteArray) = some (r1, r2, r3, r4)) ∧ Aside0 (kq ≤ k) ∧ Aside0 (wc.heap[gb152]? = some (.cells #[.string (⟨#[]⟩ : ByteArray), .string (⟨#[]⟩ : ByteArray), .string (⟨#[]⟩ : ByteArray)] 27 (0, 0))) ∧ Aside0 (wc.heap[gb153]? = some (.cells #[.string (⟨#[]⟩ : ByteArray), .string (⟨#[]⟩ : ByteArray), .string (⟨#[]⟩ : ByteArray)] 27 (0, 0))) ∧ Aside0 (wc.heap[gb155]? = some (.cells #[.string (a0.extract 0 (t154 : Int).toNat), .string (⟨#[]⟩ : ByteArray), .string (⟨#[]⟩ : ByteArray)] 27 (0, 0))) ∧ Aside0 (Below w.heap.size w wc))
    case first =>
     have H := HC9.out; clear HC9; by_cases c19 : (a0.extract (t154 : Int).toNat a0.size).toList = ([] : List UInt8)
     ·
      rw [if_pos c19] at H; have c19b0 : ((a0.extract (t154 : Int).toNat a0.size).toList == ([] : List UInt8)) = true := beq_iff_eq.mpr c19; have c19b1 : ((a0.extract (t154 : Int).toNat a0.size).toList != ([] : List UInt8)) = false := bne_eq_false_iff_eq.mpr c19; have c19b2 : (a0.extract (t154 : Int).toNat a0.size).toList.isEmpty = true := by simpa using c19
      clear c19
      (first | rw [c19b0] | (simp only [i64_w, i32_w]; rw [c19b0]) | (rw [c19b2]; try simp only [Bool.not_true, Bool.not_false]) | skip)
      have H' := aM H; clear H; go_wp2
      go_meet
      case rel => exact ⟨_, (false), zq6, H', ⟨zq7⟩, ⟨zq86⟩, ⟨zq95⟩, ⟨zq96⟩, ⟨zq94⟩⟩
     rw [if_neg c19] at H; have c19b0 : ((a0.extract (t154 : Int).toNat a0.size).toList == ([] : List UInt8)) = false := beq_eq_false_iff_ne.mpr c19; have c19b1 : ((a0.extract (t154 : Int).toNat a0.size).toList != ([] : List UInt8)) = true := bne_iff_ne.mpr c19; have c19b2 : (a0.extract (t154 : Int).toNat a0.size).toList.isEmpty = false := by simpa using c19
     (first | rw [c19b0] | (simp only [i64_w, i32_w]; rw [c19b0]) | (rw [c19b2]; try simp only [Bool.not_true, Bool.not_false]) | skip)
     by_cases c20 : 0 < ((a0.extract (t154 : Int).toNat a0.size).size : Int)
     ·
      rw [if_pos c20] at H; have c20b0 := decide_eq_true c20; have c20b1 : decide (0 < (a0.extract (t154 : Int).toNat a0.size).size) = true := decide_eq_true (by omega); have c20z := eq_true (by rw [ByteArray.size_extract] at c20; omega : 0 < a0.size - (t154 : Int).toNat); clear c20; have H' := aM H; clear H; have p21 : 0 ≤ (0 : Int) := (by omega); have q21 : 0 < (a0.extract (t154 : Int).toNat a0.size).size := (by have : (0 : Int) < ((a0.extract (t154 : Int).toNat a0.size).size : Int) := of_decide_eq_true zq11; omega); have hx21 : ∀ h : 0 < (a0.extract (t154 : Int).toNat a0.size).size, (((a0.extract (t154 : Int).toNat a0.size)[0]'h).toNat : Int) = bt (a0.extract (t154 : Int).toNat a0.size) 0 := bt_at (a0.extract (t154 : Int).toNat a0.size) 0; clear p21; have qi21 : (0 < ((a0.extract (t154 : Int).toNat a0.size).size : Int)) = True := eq_true (of_decide_eq_true zq11); replace q21 := eq_true q21; go_wp2
      go_meet
      case rel => exact ⟨_, (((bt (a0.extract (t154 : Int).toNat a0.size) 0) == 58)), zq6, H', ⟨zq7⟩, ⟨zq86⟩, ⟨zq95⟩, ⟨zq96⟩, ⟨zq94⟩⟩
     rw [if_neg c20] at H; exact absurd H (by simp)
    case rest =>
     clear HC9; (try clear c1); (try clear c2); (try clear p2); (try clear q2); (try clear hx2); (try clear qi2); (try clear c3); (try clear c3b0); (try clear c3b1); (try clear c4); (try clear c4b0); (try clear c4b1); (try clear c6); (try clear c7); (try clear c7b0); (try clear c8); (try clear c8b0); (try clear c12); (try clear c14); (try clear c15); (try clear c16); (try clear c19); (try clear c19b0); (try clear c19b1); (try clear c19b2); (try clear c20); (try clear c20b0); (try clear c20b1); (try clear p21); (try clear q21); (try clear hx21); (try clear qi21); (try clear hcz13_0); (try clear hcz13_1); (try clear hcz13_2); (try clear hcz17_0); (try clear hcz17_1); (try clear hcz17_2); (try clear hfz13_0); (try clear hfz13_1); (try clear hfz13_2); (try clear hfz17_0); (try clear hfz17_1); (try clear hfz17_2); (try clear p21); (try clear q21); obtain ⟨kq, x30_8, rfl, HA, HJ8, BK152, BK153, BK155, HB⟩ := hcut
     cases kq with
     | zero => exact absurd HA.out (by simp [spec_ReadRef.j0])
     | succ kj8 =>
      have H := HA.out; clear HA; simp only [spec_ReadRef.j0] at H; have HC22 := aM H; clear H
      go_upto_if 30 with (fail)
      go_cut [7] (fun v7 wc => ∃ (kq : Nat) (x7_21 : ByteArray) (x153000_21 : ByteArray) (x153001_21 : ByteArray) (x153002_21 : ByteArray) (x156001_21 : ByteArray), v7 = .string x7_21 ∧ Aside0 (spec_ReadRef.j1 kq x7_21 (⟨#[]⟩ : ByteArray) (⟨#[]⟩ : ByteArray) (⟨#[]⟩ : ByteArray) (a0.extract 0 (t154 : Int).toNat) x156001_21 (⟨#[]⟩ : ByteArray) = some (r1, r2, r3, r4)) ∧ Aside0 (kq ≤ kj8) ∧ Aside0 (wc.heap[gb152]? = some (.cells #[.string x153000_21, .string x153001_21, .string x153002_21] 27 (0, 0))) ∧ Aside0 (wc.heap[gb153]? = some (.cells #[.string (⟨#[]⟩ : ByteArray), .string (⟨#[]⟩ : ByteArray), .string (⟨#[]⟩ : ByteArray)] 27 (0, 0))) ∧ Aside0 (wc.heap[gb155]? = some (.cells #[.string (a0.extract 0 (t154 : Int).toNat), .string x156001_21, .string (⟨#[]⟩ : ByteArray)] 27 (0, 0))) ∧ Aside0 (Below w.heap.size w wc))
      case first =>
       have H := HC22.out; clear HC22; by_cases c23 : x30_8 = true
       ·
        subst c23; rw [if_pos rfl] at H; replace H := Option.bind_eq_some_iff.mp H; obtain ⟨t157, A240, H⟩ := H; (try dsimp only at H); have A24 := aM A240; clear A240; by_cases c25 : 1 ≤ t157
        ·
         rw [if_pos c25] at H; have c25b0 := eq_true c25; have c25b1 := decide_eq_true c25; clear c25; by_cases c26 : t157 ≤ ((a0.extract (t154 : Int).toNat a0.size).size : Int)
         ·
          rw [if_pos c26] at H; have c26b0 := eq_true c26
          try (have c26n0 := c26b0; conv at c26n0 => (lhs; rhs; simp))
          have c26b1 := decide_eq_true c26; clear c26; replace H := Option.bind_eq_some_iff.mp H; obtain ⟨t158, A270, H⟩ := H; (try dsimp only at H); have A27 := aM A270; clear A270; by_cases c28 : t158 = true
          ·
           subst c28; rw [if_pos rfl] at H; by_cases c29 : 0 ≤ t157
           ·
            rw [if_pos c29] at H; have c29b0 := eq_true c29; have c29b1 := decide_eq_true c29; clear c29; have c30b0 := eq_true (of_decide_eq_true zq11 : t157 ≤ ((a0.extract (t154 : Int).toNat a0.size).size : Int)); have H' := aM H; clear H
            go_wp2_with (first | ((with_reducible refine gC 32 rfl ?_); refine gL 32 Tryd.func32 #[.string (a0.extract (t154 : Int).toNat a0.size), .int .u8 64, .int .u8 64] ?_; (with_reducible refine (spec_l3Find.calls kj8 (a0.extract (t154 : Int).toNat a0.size) 64 64 t157 _ A24.out).mono ?_); rintro e w' ⟨rfl, ⟨nd, rfl⟩⟩; refine ⟨_, rfl, ?_⟩; repeat (rw [drewN_self wc]; generalize hq_ : World.drewN wc _ = wc; have n0_ : Aside0 (wc.heap[gb152]? = some (.cells #[.string (⟨#[]⟩ : ByteArray), .string (⟨#[]⟩ : ByteArray), .string (⟨#[]⟩ : ByteArray)] 27 (0, 0))) := ⟨by rw [← hq_]; exact zq86⟩; have n1_ : Aside0 (wc.heap[gb153]? = some (.cells #[.string (⟨#[]⟩ : ByteArray), .string (⟨#[]⟩ : ByteArray), .string (⟨#[]⟩ : ByteArray)] 27 (0, 0))) := ⟨by rw [← hq_]; exact zq95⟩; have n2_ : Aside0 (wc.heap[gb155]? = some (.cells #[.string (a0.extract 0 (t154 : Int).toNat), .string (⟨#[]⟩ : ByteArray), .string (⟨#[]⟩ : ByteArray)] 27 (0, 0))) := ⟨by rw [← hq_]; exact zq96⟩; have n3_ : Aside0 (Below w.heap.size w wc) := ⟨by rw [← hq_]; exact zq94⟩; clear BK152 BK153 BK155 HB hq_; have BK152 := n0_; have BK153 := n1_; have BK155 := n2_; have HB := n3_; clear n0_ n1_ n2_ n3_); have hnb31 := NB155_152.out; have hnc31 := NB152_155.out; have hnb32 := NB155_153.out; have hnc32 := NB153_155.out; obtain ⟨hcz33_0, hcz33_1, hcz33_2, hfz33_0, hfz33_1, hfz33_2⟩ := cells3_ (w := wc) BK155) | ((with_reducible refine gC 33 rfl ?_); refine gL 39 Tryd.func33 #[.string ((a0.extract (t154 : Int).toNat a0.size).extract 1 (t157 : Int).toNat)] ?_; (with_reducible refine (spec_TagOk.calls kj8 ((a0.extract (t154 : Int).toNat a0.size).extract 1 (t157 : Int).toNat) true _ A27.out).mono ?_); rintro e w' ⟨rfl, ⟨nd, rfl⟩⟩; refine ⟨_, rfl, ?_⟩))
            go_meet
            case rel => exact ⟨_, ((a0.extract (t154 : Int).toNat a0.size).extract (t157 : Int).toNat (a0.extract (t154 : Int).toNat a0.size).size), ((⟨#[]⟩ : ByteArray)), ((⟨#[]⟩ : ByteArray)), ((⟨#[]⟩ : ByteArray)), ((a0.extract (t154 : Int).toNat a0.size).extract 1 (t157 : Int).toNat), zq6, H', ⟨by have := HJ8.out; first | omega | exact Nat.le_refl _⟩, ⟨by refine dW ?_; refine blk_far ?_ NB152_155.out _; refine dW ?_; exact BK152.out⟩, ⟨by refine dW ?_; refine blk_far ?_ NB153_155.out _; refine dW ?_; exact BK153.out⟩, ⟨by refine dW ?_; refine blk_put (cs := #[.string (a0.extract 0 (t154 : Int).toNat), .string (⟨#[]⟩ : ByteArray), .string (⟨#[]⟩ : ByteArray)]) ?_ 1 _ rfl; refine dW ?_; exact BK155.out⟩, ⟨zq94⟩⟩
           rw [if_neg c29] at H; exact absurd H (by simp)
          replace c28 := Bool.eq_false_iff.mpr c28; subst c28; rw [if_neg (show ¬ (false = true) by decide)] at H; simp only [Option.some.injEq, Prod.mk.injEq] at H; obtain ⟨rfl, rfl, rfl, rfl⟩ := H
          go_wp2_with (first | ((with_reducible refine gC 32 rfl ?_); refine gL 32 Tryd.func32 #[.string (a0.extract (t154 : Int).toNat a0.size), .int .u8 64, .int .u8 64] ?_; (with_reducible refine (spec_l3Find.calls kj8 (a0.extract (t154 : Int).toNat a0.size) 64 64 t157 _ A24.out).mono ?_); rintro e w' ⟨rfl, ⟨nd, rfl⟩⟩; refine ⟨_, rfl, ?_⟩; repeat (rw [drewN_self wc]; generalize hq_ : World.drewN wc _ = wc; have n0_ : Aside0 (wc.heap[gb152]? = some (.cells #[.string (⟨#[]⟩ : ByteArray), .string (⟨#[]⟩ : ByteArray), .string (⟨#[]⟩ : ByteArray)] 27 (0, 0))) := ⟨by rw [← hq_]; exact zq86⟩; have n1_ : Aside0 (wc.heap[gb153]? = some (.cells #[.string (⟨#[]⟩ : ByteArray), .string (⟨#[]⟩ : ByteArray), .string (⟨#[]⟩ : ByteArray)] 27 (0, 0))) := ⟨by rw [← hq_]; exact zq95⟩; have n2_ : Aside0 (wc.heap[gb155]? = some (.cells #[.string (a0.extract 0 (t154 : Int).toNat), .string (⟨#[]⟩ : ByteArray), .string (⟨#[]⟩ : ByteArray)] 27 (0, 0))) := ⟨by rw [← hq_]; exact zq96⟩; have n3_ : Aside0 (Below w.heap.size w wc) := ⟨by rw [← hq_]; exact zq94⟩; clear BK152 BK153 BK155 HB hq_; have BK152 := n0_; have BK153 := n1_; have BK155 := n2_; have HB := n3_; clear n0_ n1_ n2_ n3_); have hnb34 := NB155_152.out; have hnc34 := NB152_155.out; have hnb35 := NB155_153.out; have hnc35 := NB153_155.out; obtain ⟨hcz36_0, hcz36_1, hcz36_2, hfz36_0, hfz36_1, hfz36_2⟩ := cells3_ (w := wc) BK155) | ((with_reducible refine gC 33 rfl ?_); refine gL 39 Tryd.func33 #[.string ((a0.extract (t154 : Int).toNat a0.size).extract 1 (t157 : Int).toNat)] ?_; (with_reducible refine (spec_TagOk.calls kj8 ((a0.extract (t154 : Int).toNat a0.size).extract 1 (t157 : Int).toNat) false _ A27.out).mono ?_); rintro e w' ⟨rfl, ⟨nd, rfl⟩⟩; refine ⟨_, rfl, ?_⟩; have hnb37 := NB153_152.out; have hnc37 := NB152_153.out; obtain ⟨hcz38_0, hcz38_1, hcz38_2, hfz38_0, hfz38_1, hfz38_2⟩ := cells3_ (w := wc) BK153; obtain ⟨hcz39_0, hcz39_1, hcz39_2, hfz39_0, hfz39_1, hfz39_2⟩ := cells3_ (w := wc) BK152))
          refine bodyPost_ret (results_ct rfl _ _ gb152 27 #[.string (⟨#[]⟩ : ByteArray), .string (⟨#[]⟩ : ByteArray), .string (⟨#[]⟩ : ByteArray)] (0, 0) _ rfl (by refine dW ?_; refine blk_put (cs := #[.string (⟨#[]⟩ : ByteArray), .string (⟨#[]⟩ : ByteArray), .string (⟨#[]⟩ : ByteArray)]) ?_ 2 _ rfl; refine dW ?_; refine blk_put (cs := #[.string (⟨#[]⟩ : ByteArray), .string (⟨#[]⟩ : ByteArray), .string (⟨#[]⟩ : ByteArray)]) ?_ 1 _ rfl; refine dW ?_; refine blk_put (cs := #[.string (⟨#[]⟩ : ByteArray), .string (⟨#[]⟩ : ByteArray), .string (⟨#[]⟩ : ByteArray)]) ?_ 0 _ rfl; refine dW ?_; refine blk_far ?_ NB152_155.out _; refine dW ?_; exact BK152.out) Tryd.underlying27 rfl (by kernel_rfl)) rfl ?_; exact ⟨zq19, zq94⟩
         rw [if_neg c26] at H; exact absurd H (by simp)
        rw [if_neg c25] at H; exact absurd H (by simp)
       replace c23 := Bool.eq_false_iff.mpr c23; subst c23; rw [if_neg (show ¬ (false = true) by decide)] at H; have H' := aM H; clear H; go_wp2
       go_meet
       case rel => exact ⟨_, ((a0.extract (t154 : Int).toNat a0.size)), ((⟨#[]⟩ : ByteArray)), ((⟨#[]⟩ : ByteArray)), ((⟨#[]⟩ : ByteArray)), ((⟨#[]⟩ : ByteArray)), zq6, H', ⟨by have := HJ8.out; first | omega | exact Nat.le_refl _⟩, ⟨zq86⟩, ⟨zq95⟩, ⟨zq96⟩, ⟨zq94⟩⟩
      case rest =>
       clear HC22; (try clear c1); (try clear c2); (try clear p2); (try clear q2); (try clear hx2); (try clear qi2); (try clear c3); (try clear c3b0); (try clear c3b1); (try clear c4); (try clear c4b0); (try clear c4b1); (try clear c6); (try clear c7); (try clear c7b0); (try clear c8); (try clear c8b0); (try clear c12); (try clear c14); (try clear c15); (try clear c16); (try clear c19); (try clear c19b0); (try clear c19b1); (try clear c19b2); (try clear c20); (try clear c20b0); (try clear c20b1); (try clear p21); (try clear q21); (try clear hx21); (try clear qi21); (try clear c23); (try clear c25); (try clear c25b0); (try clear c25b1); (try clear c26); (try clear c26b0); (try clear c26b1); (try clear c28); (try clear c29); (try clear c29b0); (try clear c29b1); (try clear c30); (try clear c30b0); (try clear c31); (try clear c32); (try clear c33); (try clear c34); (try clear c35); (try clear c37); (try clear hcz13_0); (try clear hcz13_1); (try clear hcz13_2); (try clear hcz17_0); (try clear hcz17_1); (try clear hcz17_2); (try clear hcz33_0); (try clear hcz33_1); (try clear hcz33_2); (try clear hcz36_0); (try clear hcz36_1); (try clear hcz36_2); (try clear hcz38_0); (try clear hcz38_1); (try clear hcz38_2); (try clear hcz39_0); (try clear hcz39_1); (try clear hcz39_2); (try clear hfz13_0); (try clear hfz13_1); (try clear hfz13_2); (try clear hfz17_0); (try clear hfz17_1); (try clear hfz17_2); (try clear hfz33_0); (try clear hfz33_1); (try clear hfz33_2); (try clear hfz36_0)
       (try clear hfz36_1); (try clear hfz36_2); (try clear hfz38_0); (try clear hfz38_1); (try clear hfz38_2); (try clear hfz39_0); (try clear hfz39_1); (try clear hfz39_2); (try clear p2); (try clear p21); (try clear q2); (try clear q21); obtain ⟨kq, x7_21, x153000_21, x153001_21, x153002_21, x156001_21, rfl, HA, HJ21, BK152, BK153, BK155, HB⟩ := hcut
       cases kq with
       | zero => exact absurd HA.out (by simp [spec_ReadRef.j1])
       | succ kj21 =>
        have H := HA.out; clear HA; simp only [spec_ReadRef.j1] at H; by_cases c40 : x7_21.toList = ([] : List UInt8)
        ·
         rw [if_pos c40] at H; have c40b0 : (x7_21.toList == ([] : List UInt8)) = true := beq_iff_eq.mpr c40; have c40b1 : (x7_21.toList != ([] : List UInt8)) = false := bne_eq_false_iff_eq.mpr c40; have c40b2 : x7_21.toList.isEmpty = true := by simpa using c40
         clear c40; simp only [Option.some.injEq, Prod.mk.injEq] at H; obtain ⟨rfl, rfl, rfl, rfl⟩ := H; have hnb41 := NB155_152.out; have hnc41 := NB152_155.out; have hnb42 := NB155_153.out; have hnc42 := NB153_155.out; obtain ⟨hcz43_0, hcz43_1, hcz43_2, hfz43_0, hfz43_1, hfz43_2⟩ := cells3_ (w := wc) BK155; have hnb44 := NB152_153.out; have hnc44 := NB153_152.out; obtain ⟨hcz45_0, hcz45_1, hcz45_2, hfz45_0, hfz45_1, hfz45_2⟩ := cells3_ (w := wc) BK152; go_wp2; refine bodyPost_ret (results_ct rfl _ _ gb152 27 #[.string (a0.extract 0 (t154 : Int).toNat), .string x156001_21, .string (⟨#[]⟩ : ByteArray)] (0, 0) _ rfl (by refine dW ?_; refine blk_put (cs := #[.string (a0.extract 0 (t154 : Int).toNat), .string x156001_21, .string x153002_21]) ?_ 2 _ rfl; refine dW ?_; refine blk_put (cs := #[.string (a0.extract 0 (t154 : Int).toNat), .string x153001_21, .string x153002_21]) ?_ 1 _ rfl; refine dW ?_; refine blk_put (cs := #[.string x153000_21, .string x153001_21, .string x153002_21]) ?_ 0 _ rfl; refine dW ?_; exact BK152.out) Tryd.underlying27 rfl (by kernel_rfl)) rfl ?_; exact ⟨zq19, zq94⟩
        rw [if_neg c40] at H; have c40b0 : (x7_21.toList == ([] : List UInt8)) = false := beq_eq_false_iff_ne.mpr c40; have c40b1 : (x7_21.toList != ([] : List UInt8)) = true := bne_iff_ne.mpr c40; have c40b2 : x7_21.toList.isEmpty = false := by simpa using c40
        by_cases c46 : 1 ≤ (x7_21.size : Int)
        ·
         rw [if_pos c46] at H; have c46b0 := eq_true c46; have c46b1 := decide_eq_true c46; clear c46; replace H := Option.bind_eq_some_iff.mp H; obtain ⟨t159, A470, H⟩ := H; (try dsimp only at H); have A47 := aM A470; clear A470; by_cases c48 : t159 = true
         ·
          subst c48; rw [if_pos rfl] at H; simp only [Option.some.injEq, Prod.mk.injEq] at H; obtain ⟨rfl, rfl, rfl, rfl⟩ := H; have hnb49 := NB155_152.out; have hnc49 := NB152_155.out; have hnb50 := NB155_153.out; have hnc50 := NB153_155.out; obtain ⟨hcz51_0, hcz51_1, hcz51_2, hfz51_0, hfz51_1, hfz51_2⟩ := cells3_ (w := wc) BK155
          go_wp2_with (first | ((with_reducible refine gC 34 rfl ?_); refine gL 52 Tryd.func34 #[.string (x7_21.extract 1 x7_21.size)] ?_; (with_reducible refine (spec_DigestOk.calls kj21 (x7_21.extract 1 x7_21.size) true _ A47.out).mono ?_); rintro e w' ⟨rfl, ⟨nd, rfl⟩⟩; refine ⟨_, rfl, ?_⟩; have hnb52 := NB152_153.out; have hnc52 := NB153_152.out; obtain ⟨hcz53_0, hcz53_1, hcz53_2, hfz53_0, hfz53_1, hfz53_2⟩ := cells3_ (w := wc) BK152))
          refine bodyPost_ret (results_ct rfl _ _ gb152 27 #[.string (a0.extract 0 (t154 : Int).toNat), .string x156001_21, .string (x7_21.extract 1 x7_21.size)] (0, 0) _ rfl (by refine dW ?_; refine blk_put (cs := #[.string (a0.extract 0 (t154 : Int).toNat), .string x156001_21, .string x153002_21]) ?_ 2 _ rfl; refine dW ?_; refine blk_put (cs := #[.string (a0.extract 0 (t154 : Int).toNat), .string x153001_21, .string x153002_21]) ?_ 1 _ rfl; refine dW ?_; refine blk_put (cs := #[.string x153000_21, .string x153001_21, .string x153002_21]) ?_ 0 _ rfl; refine dW ?_; refine blk_far ?_ NB152_155.out _; refine dW ?_; exact BK152.out) Tryd.underlying27 rfl (by kernel_rfl)) rfl ?_; exact ⟨zq19, zq94⟩
         replace c48 := Bool.eq_false_iff.mpr c48; subst c48; rw [if_neg (show ¬ (false = true) by decide)] at H; simp only [Option.some.injEq, Prod.mk.injEq] at H; obtain ⟨rfl, rfl, rfl, rfl⟩ := H; have hnb54 := NB155_152.out; have hnc54 := NB152_155.out; have hnb55 := NB155_153.out; have hnc55 := NB153_155.out; obtain ⟨hcz56_0, hcz56_1, hcz56_2, hfz56_0, hfz56_1, hfz56_2⟩ := cells3_ (w := wc) BK155
         go_wp2_with (first | ((with_reducible refine gC 34 rfl ?_); refine gL 52 Tryd.func34 #[.string (x7_21.extract 1 x7_21.size)] ?_; (with_reducible refine (spec_DigestOk.calls kj21 (x7_21.extract 1 x7_21.size) false _ A47.out).mono ?_); rintro e w' ⟨rfl, ⟨nd, rfl⟩⟩; refine ⟨_, rfl, ?_⟩; have hnb57 := NB153_152.out; have hnc57 := NB152_153.out; obtain ⟨hcz58_0, hcz58_1, hcz58_2, hfz58_0, hfz58_1, hfz58_2⟩ := cells3_ (w := wc) BK153; obtain ⟨hcz59_0, hcz59_1, hcz59_2, hfz59_0, hfz59_1, hfz59_2⟩ := cells3_ (w := wc) BK152))
         refine bodyPost_ret (results_ct rfl _ _ gb152 27 #[.string (⟨#[]⟩ : ByteArray), .string (⟨#[]⟩ : ByteArray), .string (⟨#[]⟩ : ByteArray)] (0, 0) _ rfl (by refine dW ?_; refine blk_put (cs := #[.string (⟨#[]⟩ : ByteArray), .string (⟨#[]⟩ : ByteArray), .string x153002_21]) ?_ 2 _ rfl; refine dW ?_; refine blk_put (cs := #[.string (⟨#[]⟩ : ByteArray), .string x153001_21, .string x153002_21]) ?_ 1 _ rfl; refine dW ?_; refine blk_put (cs := #[.string x153000_21, .string x153001_21, .string x153002_21]) ?_ 0 _ rfl; refine dW ?_; refine blk_far ?_ NB152_155.out _; refine dW ?_; exact BK152.out) Tryd.underlying27 rfl (by kernel_rfl)) rfl ?_; exact ⟨zq19, zq94⟩
        rw [if_neg c46] at H; exact absurd H (by simp)
   replace c6 := Bool.eq_false_iff.mpr c6; subst c6; rw [if_neg (show ¬ (false = true) by decide)] at H; simp only [Option.some.injEq, Prod.mk.injEq] at H; obtain ⟨rfl, rfl, rfl, rfl⟩ := H; go_enter Tryd.func14, Tryd.ntmps14
   go_wp2_with (first | ((with_reducible refine gD 2 rfl ?_); refine bE 2 #[.string (⟨#[]⟩ : ByteArray), .string (⟨#[]⟩ : ByteArray), .string (⟨#[]⟩ : ByteArray)] 27 ?_; intro gb152 hg w60 hbox hb; have BK152 := aM hbox; have GW152 := aM (zq97 : w.heap.size ≤ gb152); have GE152 := GW152; replace HB := sB zq2 hb; clear hb hbox hg) | ((with_reducible refine gD 4 rfl ?_); refine bE 4 #[.string (⟨#[]⟩ : ByteArray), .string (⟨#[]⟩ : ByteArray), .string (⟨#[]⟩ : ByteArray)] 27 ?_; intro gb153 hg w61 hbox hb; have BK153 := aM hbox; have GW153 := aM (zq116 : w.heap.size ≤ gb153); have GE153 := GW153; replace HB := sB zq87 hb; have NB152_153 := aM (zq117 : gb152 ≠ gb153); have NB153_152 := aM (zq118 : gb153 ≠ gb152); replace BK152 := bG BK152 hb; clear hb hbox hg; have hnb62 := NB153_152.out; have hnc62 := NB152_153.out; obtain ⟨hcz63_0, hcz63_1, hcz63_2, hfz63_0, hfz63_1, hfz63_2⟩ := cells3_ (w := w61) BK153) | ((with_reducible refine gC 32 rfl ?_); refine gL 11 Tryd.func32 #[.string a0, .int .u8 58, .int .u8 64] ?_; (with_reducible refine (spec_l3Find.calls k a0 58 64 t154 _ A2.out).mono ?_); rintro e w' ⟨rfl, ⟨nd, rfl⟩⟩; refine ⟨_, rfl, ?_⟩) | ((with_reducible refine gD 6 rfl ?_); refine bE 6 #[.string (⟨#[]⟩ : ByteArray), .string (⟨#[]⟩ : ByteArray), .string (⟨#[]⟩ : ByteArray)] 27 ?_; intro gb155 hg w64 hbox hb; have BK155 := aM hbox; have GW155 := aM (zq119 : w.heap.size ≤ gb155); have GE155 := GW155; replace HB := sB zq90 hb; have NB152_155 := aM (zq120 : gb152 ≠ gb155); have NB155_152 := aM (zq121 : gb155 ≠ gb152); replace BK152 := bF BK152 zq88 hb; have NB153_155 := aM (zq122 : gb153 ≠ gb155); have NB155_153 := aM (zq123 : gb155 ≠ gb153); replace BK153 := bB (g := gb153) (o := .cells #[.string (⟨#[]⟩ : ByteArray), .string (⟨#[]⟩ : ByteArray), .string (⟨#[]⟩ : ByteArray)] 27 (0, 0)) zq89 hb; clear hb hbox hg; have hnb65 := NB155_152.out; have hnc65 := NB152_155.out; have hnb66 := NB155_153.out; have hnc66 := NB153_155.out; obtain ⟨hcz67_0, hcz67_1, hcz67_2, hfz67_0, hfz67_1, hfz67_2⟩ := cells3_ (w := w64) BK155) | ((with_reducible refine gC 8 rfl ?_); refine gL 18 Tryd.func8 #[.string (a0.extract 0 (t154 : Int).toNat)] ?_; (with_reducible refine (spec_RepoOk.calls k (a0.extract 0 (t154 : Int).toNat) false _ A5.out).mono ?_); rintro e w68 ⟨rfl, hb⟩; refine ⟨_, rfl, ?_⟩; replace BK152 := bF BK152 zq91 hb; replace BK153 := bF BK153 zq92 hb; replace BK155 := bB (g := gb155) (o := .cells #[.string (a0.extract 0 (t154 : Int).toNat), .string (⟨#[]⟩ : ByteArray), .string (⟨#[]⟩ : ByteArray)] 27 (0, 0)) zq93 hb; replace HB := sB zq94 hb; clear hb; obtain ⟨hcz69_0, hcz69_1, hcz69_2, hfz69_0, hfz69_1, hfz69_2⟩ := cells3_ (w := w68) BK153; obtain ⟨hcz70_0, hcz70_1, hcz70_2, hfz70_0, hfz70_1, hfz70_2⟩ := cells3_ (w := w68) BK152))
   refine bodyPost_ret (results_ct rfl _ _ gb152 27 #[.string (⟨#[]⟩ : ByteArray), .string (⟨#[]⟩ : ByteArray), .string (⟨#[]⟩ : ByteArray)] (0, 0) _ rfl (by refine dW ?_; refine blk_put (cs := #[.string (⟨#[]⟩ : ByteArray), .string (⟨#[]⟩ : ByteArray), .string (⟨#[]⟩ : ByteArray)]) ?_ 2 _ rfl; refine dW ?_; refine blk_put (cs := #[.string (⟨#[]⟩ : ByteArray), .string (⟨#[]⟩ : ByteArray), .string (⟨#[]⟩ : ByteArray)]) ?_ 1 _ rfl; refine dW ?_; refine blk_put (cs := #[.string (⟨#[]⟩ : ByteArray), .string (⟨#[]⟩ : ByteArray), .string (⟨#[]⟩ : ByteArray)]) ?_ 0 _ rfl; refine dW ?_; exact BK152.out) Tryd.underlying27 rfl (by kernel_rfl)) rfl ?_; exact ⟨zq19, zq94⟩
  exact zq129
 exact zq130

end Go.Proofs.YtldpdaifajjaeaaDoor.QFnRefs
