/- Written by wip/myprint.py of this repo (the kit's print, with additions of this session). -/
import Derived.Test.YtldpdaifajjaeaaDoorQFnExactReadRefx0
import Derived.Test.YtldpdaifajjaeaaDoorQFnExactReadRefx2
import Derived.Test.YtldpdaifajjaeaaDoorQFnExactReadRefx3
set_option maxRecDepth 100000
namespace Go.Proofs.YtldpdaifajjaeaaDoor.QFnExactReadRef
open Go.RowKit Go.Proofs.YtldpdaifajjaeaaDoorW.PrintWords Go.Proofs.YtldpdaifajjaeaaDoorW.PrintLast Go.Proofs.YtldpdaifajjaeaaDoorW.PrintMore
attribute [local go_sem] max2_int min2_int max_two min_two max_three min_three max_four min_four   -- for this text's walks alone
set_option linter.unusedVariables false
set_option linter.unusedSimpArgs false

/-! ### spec_ReadRef: function 14 -/
mutual
def spec_ReadRef.j0 : Nat → ByteArray → Bool → ByteArray → ByteArray → ByteArray → ByteArray → ByteArray → ByteArray → Option (ByteArray × ByteArray × ByteArray × Int)
 | 0, _, _, _, _, _, _, _, _ => none
 | k + 1, x7, x30, x126000, x126001, x126002, x128000, x128001, x128002 => if x30 = true then ((spec_l3Find.f k x7 64 64).bind fun t129 => (if 1 ≤ t129 then (if t129 ≤ (x7.size : Int) then ((spec_TagOk.f k (x7.extract 1 (t129 : Int).toNat)).bind fun t130 => (if t130 = true then (if 0 ≤ t129 then (spec_ReadRef.j1 k (x7.extract (t129 : Int).toNat x7.size) x126000 x126001 x126002 x128000 (x7.extract 1 (t129 : Int).toNat) x128002) else (none)) else (some (x126000, x126001, x126002, 2)))) else (none)) else (none))) else (spec_ReadRef.j1 k x7 x126000 x126001 x126002 x128000 x128001 x128002)
def spec_ReadRef.j1 : Nat → ByteArray → ByteArray → ByteArray → ByteArray → ByteArray → ByteArray → ByteArray → Option (ByteArray × ByteArray × ByteArray × Int)
 | 0, _, _, _, _, _, _, _ => none
 | k + 1, x7, x126000, x126001, x126002, x128000, x128001, x128002 => if x7.toList = ([] : List UInt8) then (some (x128000, x128001, x128002, 0)) else (if 1 ≤ (x7.size : Int) then ((spec_DigestOk.f k (x7.extract 1 x7.size)).bind fun t131 => (if t131 = true then (some (x128000, x128001, x7.extract 1 x7.size, 0)) else (some (x126000, x126001, x126002, 3)))) else (none))
end
def spec_ReadRef.f (k : Nat) (a0 : ByteArray) : Option (ByteArray × ByteArray × ByteArray × Int) := (spec_l3Find.f k a0 58 64).bind fun t126 => (if 0 ≤ t126 then (if t126 ≤ (a0.size : Int) then ((spec_RepoOk.f k (a0.extract 0 (t126 : Int).toNat)).bind fun t128 => (if t128 = true then (if (a0.extract (t126 : Int).toNat a0.size).toList = ([] : List UInt8) then (spec_ReadRef.j0 k (a0.extract (t126 : Int).toNat a0.size) false (⟨#[]⟩ : ByteArray) (⟨#[]⟩ : ByteArray) (⟨#[]⟩ : ByteArray) (a0.extract 0 (t126 : Int).toNat) (⟨#[]⟩ : ByteArray) (⟨#[]⟩ : ByteArray)) else (if 0 < ((a0.extract (t126 : Int).toNat a0.size).size : Int) then (spec_ReadRef.j0 k (a0.extract (t126 : Int).toNat a0.size) ((bt (a0.extract (t126 : Int).toNat a0.size) 0) == 58) (⟨#[]⟩ : ByteArray) (⟨#[]⟩ : ByteArray) (⟨#[]⟩ : ByteArray) (a0.extract 0 (t126 : Int).toNat) (⟨#[]⟩ : ByteArray) (⟨#[]⟩ : ByteArray)) else (none))) else (some ((⟨#[]⟩ : ByteArray), (⟨#[]⟩ : ByteArray), (⟨#[]⟩ : ByteArray), 1)))) else (none)) else (none))
theorem spec_ReadRef.mono_l : ∀ k, (∀ y0 y1 y2 y3 y4 y5 y6 y7, LeO (spec_ReadRef.j0 k y0 y1 y2 y3 y4 y5 y6 y7) (spec_ReadRef.j0 (k + 1) y0 y1 y2 y3 y4 y5 y6 y7)) ∧ (∀ y0 y1 y2 y3 y4 y5 y6, LeO (spec_ReadRef.j1 k y0 y1 y2 y3 y4 y5 y6) (spec_ReadRef.j1 (k + 1) y0 y1 y2 y3 y4 y5 y6))
 | 0 => ⟨fun _ _ _ _ _ _ _ _ r h => by simp [spec_ReadRef.j0] at h, fun _ _ _ _ _ _ _ r h => by simp [spec_ReadRef.j1] at h⟩
 | k + 1 => by
  obtain ⟨ih0, ih1⟩ := spec_ReadRef.mono_l k; refine ⟨?_, ?_⟩
  ·
   intro y0 y1 y2 y3 y4 y5 y6 y7; unfold spec_ReadRef.j0
   repeat' first
   | (with_reducible apply ih0)
   | (with_reducible apply ih1)
   | (with_reducible apply spec_DigestOk.mono)
   | (with_reducible apply spec_RepoOk.mono)
   | (with_reducible apply spec_TagOk.mono)
   | (with_reducible apply spec_l3Find.mono)
   | (with_reducible exact LeO.refl _)
   | (with_reducible exact LeO.none _)
   | (with_reducible refine LeO.ite ?_ ?_)
   | (with_reducible refine LeO.bind ?_ (fun _ => ?_))
   | exact LeO.none _
   | refine LeO.ite ?_ ?_
   | refine LeO.bind ?_ (fun _ => ?_)
  intro y0 y1 y2 y3 y4 y5 y6; unfold spec_ReadRef.j1
  repeat' first
  | (with_reducible apply ih0)
  | (with_reducible apply ih1)
  | (with_reducible apply spec_DigestOk.mono)
  | (with_reducible apply spec_RepoOk.mono)
  | (with_reducible apply spec_TagOk.mono)
  | (with_reducible apply spec_l3Find.mono)
  | (with_reducible exact LeO.refl _)
  | (with_reducible exact LeO.none _)
  | (with_reducible refine LeO.ite ?_ ?_)
  | (with_reducible refine LeO.bind ?_ (fun _ => ?_))
  | exact LeO.none _
  | refine LeO.ite ?_ ?_
  | refine LeO.bind ?_ (fun _ => ?_)
theorem spec_ReadRef.mono : ∀ a0 k, LeO (spec_ReadRef.f k a0) (spec_ReadRef.f (k + 1) a0) := by
 intro a0 k; obtain ⟨ih0, ih1⟩ := spec_ReadRef.mono_l k; unfold spec_ReadRef.f
 repeat' first
   | (with_reducible apply ih0)
   | (with_reducible apply ih1)
   | (with_reducible apply spec_DigestOk.mono)
   | (with_reducible apply spec_RepoOk.mono)
   | (with_reducible apply spec_TagOk.mono)
   | (with_reducible apply spec_l3Find.mono)
   | (with_reducible exact LeO.refl _)
   | (with_reducible exact LeO.none _)
   | (with_reducible refine LeO.ite ?_ ?_)
   | (with_reducible refine LeO.bind ?_ (fun _ => ?_))
   | exact LeO.none _
   | refine LeO.ite ?_ ?_
   | refine LeO.bind ?_ (fun _ => ?_)
set_option maxHeartbeats 8000000 in
set_option maxRecDepth 100000 in
theorem spec_ReadRef.calls (k : Nat) (a0 : ByteArray) (r1 : ByteArray) (r2 : ByteArray) (r3 : ByteArray) (r4 : Int) (w : World) (h : spec_ReadRef.f k a0 = some (r1, r2, r3, r4)) :
  Calls Tryd.prog 14 #[.string a0] w fun e w' => e = .returned (.tuple #[.agg #[.string r1, .string r2, .string r3], .int .i64 r4]) ∧ Below w.heap.size w w' := by
 have hu27 := Tryd.underlying27; have HB := aM (Below.refl w.heap.size w); unfold spec_ReadRef.f at h; have H := h; clear h; replace H := Option.bind_eq_some_iff.mp H; obtain ⟨t126, A20, H⟩ := H; (try dsimp only at H); have A2 := aM A20; clear A20; by_cases c3 : 0 ≤ t126
 ·
  rw [if_pos c3] at H; have c3b0 := eq_true c3; have c3b1 := decide_eq_true c3; clear c3; by_cases c4 : t126 ≤ (a0.size : Int)
  ·
   rw [if_pos c4] at H; have c4b0 := eq_true c4; have c4b1 := decide_eq_true c4; clear c4; replace H := Option.bind_eq_some_iff.mp H; obtain ⟨t128, A50, H⟩ := H; (try dsimp only at H); have A5 := aM A50; clear A50; by_cases c6 : t128 = true
   ·
    subst c6; rw [if_pos rfl] at H; have c7b0 := eq_true (of_decide_eq_true zq4 : 0 ≤ t126); have c8b0 := eq_true (of_decide_eq_true zq4 : t126 ≤ (a0.size : Int)); have HC9 := aM H; clear H; go_enter Tryd.func14, Tryd.ntmps14
    go_upto_region 7 with (first | ((with_reducible refine gD 2 rfl ?_); refine bE 2 #[.string (⟨#[]⟩ : ByteArray), .string (⟨#[]⟩ : ByteArray), .string (⟨#[]⟩ : ByteArray)] 27 ?_; intro gb124 hg w10 hbox hb; have BK124 := aM hbox; have GW124 := aM (zq47 : w.heap.size ≤ gb124); have GE124 := GW124; replace HB := sB zq2 hb; clear hb hbox hg) | ((with_reducible refine gD 4 rfl ?_); refine bE 4 #[.string (⟨#[]⟩ : ByteArray), .string (⟨#[]⟩ : ByteArray), .string (⟨#[]⟩ : ByteArray)] 27 ?_; intro gb125 hg w11 hbox hb; have BK125 := aM hbox; have GW125 := aM (zq48 : w.heap.size ≤ gb125); have GE125 := GW125; replace HB := sB zq14 hb; have NB124_125 := aM (zq49 : gb124 ≠ gb125); have NB125_124 := aM (zq50 : gb125 ≠ gb124); replace BK124 := bG BK124 hb; clear hb hbox hg; have hnb12 := NB125_124.out; have hnc12 := NB124_125.out; obtain ⟨hcz13_0, hcz13_1, hcz13_2, hfz13_0, hfz13_1, hfz13_2⟩ := cells3_ (w := w11) BK125) | ((with_reducible refine gC 32 rfl ?_); refine gL 11 Tryd.func32 #[.string a0, .int .u8 58, .int .u8 64] ?_; (with_reducible refine (spec_l3Find.calls k a0 58 64 t126 _ A2.out).mono ?_); rintro e w' ⟨rfl, ⟨nd, rfl⟩⟩; refine ⟨_, rfl, ?_⟩) | ((with_reducible refine gD 6 rfl ?_); refine bE 6 #[.string (⟨#[]⟩ : ByteArray), .string (⟨#[]⟩ : ByteArray), .string (⟨#[]⟩ : ByteArray)] 27 ?_; intro gb127 hg w14 hbox hb; have BK127 := aM hbox; have GW127 := aM (zq51 : w.heap.size ≤ gb127); have GE127 := GW127; replace HB := sB zq17 hb; have NB124_127 := aM (zq52 : gb124 ≠ gb127); have NB127_124 := aM (zq53 : gb127 ≠ gb124); replace BK124 := bF BK124 zq15 hb; have NB125_127 := aM (zq54 : gb125 ≠ gb127); have NB127_125 := aM (zq55 : gb127 ≠ gb125); replace BK125 := bB (g := gb125) (o := .cells #[.string (⟨#[]⟩ : ByteArray), .string (⟨#[]⟩ : ByteArray), .string (⟨#[]⟩ : ByteArray)] 27 (0, 0)) zq16 hb; clear hb hbox hg; have hnb15 := NB127_124.out; have hnc15 := NB124_127.out; have hnb16 := NB127_125.out; have hnc16 := NB125_127.out; obtain ⟨hcz17_0, hcz17_1, hcz17_2, hfz17_0, hfz17_1, hfz17_2⟩ := cells3_ (w := w14) BK127) | ((with_reducible refine gC 8 rfl ?_); refine gL 18 Tryd.func8 #[.string (a0.extract 0 (t126 : Int).toNat)] ?_; (with_reducible refine (spec_RepoOk.calls k (a0.extract 0 (t126 : Int).toNat) true _ A5.out).mono ?_); rintro e w18 ⟨rfl, hb⟩; refine ⟨_, rfl, ?_⟩; replace BK124 := bF BK124 zq18 hb; replace BK125 := bF BK125 zq19 hb; replace BK127 := bB (g := gb127) (o := .cells #[.string (a0.extract 0 (t126 : Int).toNat), .string (⟨#[]⟩ : ByteArray), .string (⟨#[]⟩ : ByteArray)] 27 (0, 0)) zq20 hb; replace HB := sB zq21 hb; clear hb))
    (try simp only [Act.put, List.setIfInBounds_toArray, List.set_cons_zero, List.set_cons_succ])
    go_cut [30] (fun v30 wc => ∃ (kq : Nat) (x30_8 : Bool), v30 = .bool x30_8 ∧ Aside0 (spec_ReadRef.j0 kq (a0.extract (t126 : Int).toNat a0.size) x30_8 (⟨#[]⟩ : ByteArray) (⟨#[]⟩ : ByteArray) (⟨#[]⟩ : ByteArray) (a0.extract 0 (t126 : Int).toNat) (⟨#[]⟩ : ByteArray) (⟨#[]⟩ : ByteArray) = some (r1, r2, r3, r4)) ∧ Aside0 (kq ≤ k) ∧ Aside0 (wc.heap[gb124]? = some (.cells #[.string (⟨#[]⟩ : ByteArray), .string (⟨#[]⟩ : ByteArray), .string (⟨#[]⟩ : ByteArray)] 27 (0, 0))) ∧ Aside0 (wc.heap[gb125]? = some (.cells #[.string (⟨#[]⟩ : ByteArray), .string (⟨#[]⟩ : ByteArray), .string (⟨#[]⟩ : ByteArray)] 27 (0, 0))) ∧ Aside0 (wc.heap[gb127]? = some (.cells #[.string (a0.extract 0 (t126 : Int).toNat), .string (⟨#[]⟩ : ByteArray), .string (⟨#[]⟩ : ByteArray)] 27 (0, 0))) ∧ Aside0 (Below w.heap.size w wc))
    case first =>
     have H := HC9.out; clear HC9; by_cases c19 : (a0.extract (t126 : Int).toNat a0.size).toList = ([] : List UInt8)
     ·
      rw [if_pos c19] at H; have c19b0 : ((a0.extract (t126 : Int).toNat a0.size).toList == ([] : List UInt8)) = true := beq_iff_eq.mpr c19; have c19b1 : ((a0.extract (t126 : Int).toNat a0.size).toList != ([] : List UInt8)) = false := bne_eq_false_iff_eq.mpr c19; have c19b2 : (a0.extract (t126 : Int).toNat a0.size).toList.isEmpty = true := by simpa using c19
      clear c19
      (first | rw [c19b0] | (simp only [i64_w, i32_w]; rw [c19b0]) | (rw [c19b2]; try simp only [Bool.not_true, Bool.not_false]) | skip)
      have H' := aM H; clear H; go_wp2
      go_meet
      case rel => exact ⟨_, (false), zq3, H', ⟨zq10⟩, ⟨zq13⟩, ⟨zq22⟩, ⟨zq23⟩, ⟨zq21⟩⟩
     rw [if_neg c19] at H; have c19b0 : ((a0.extract (t126 : Int).toNat a0.size).toList == ([] : List UInt8)) = false := beq_eq_false_iff_ne.mpr c19; have c19b1 : ((a0.extract (t126 : Int).toNat a0.size).toList != ([] : List UInt8)) = true := bne_iff_ne.mpr c19; have c19b2 : (a0.extract (t126 : Int).toNat a0.size).toList.isEmpty = false := by simpa using c19
     (first | rw [c19b0] | (simp only [i64_w, i32_w]; rw [c19b0]) | (rw [c19b2]; try simp only [Bool.not_true, Bool.not_false]) | skip)
     by_cases c20 : 0 < ((a0.extract (t126 : Int).toNat a0.size).size : Int)
     ·
      rw [if_pos c20] at H; have c20b0 := decide_eq_true c20; have c20b1 : decide (0 < (a0.extract (t126 : Int).toNat a0.size).size) = true := decide_eq_true (by omega); have c20z := eq_true (by rw [ByteArray.size_extract] at c20; omega : 0 < a0.size - (t126 : Int).toNat); clear c20; have H' := aM H; clear H; have p21 : 0 ≤ (0 : Int) := (by omega); have q21 : 0 < (a0.extract (t126 : Int).toNat a0.size).size := (by have : (0 : Int) < ((a0.extract (t126 : Int).toNat a0.size).size : Int) := of_decide_eq_true zq4; omega); have hx21 : ∀ h : 0 < (a0.extract (t126 : Int).toNat a0.size).size, (((a0.extract (t126 : Int).toNat a0.size)[0]'h).toNat : Int) = bt (a0.extract (t126 : Int).toNat a0.size) 0 := bt_at (a0.extract (t126 : Int).toNat a0.size) 0; clear p21; have qi21 : (0 < ((a0.extract (t126 : Int).toNat a0.size).size : Int)) = True := eq_true (of_decide_eq_true zq4); replace q21 := eq_true q21; go_wp2
      go_meet
      case rel => exact ⟨_, (((bt (a0.extract (t126 : Int).toNat a0.size) 0) == 58)), zq3, H', ⟨zq10⟩, ⟨zq13⟩, ⟨zq22⟩, ⟨zq23⟩, ⟨zq21⟩⟩
     rw [if_neg c20] at H; exact absurd H (by simp)
    case rest =>
     clear HC9; (try clear c1); (try clear c2); (try clear p2); (try clear q2); (try clear hx2); (try clear qi2); (try clear c3); (try clear c3b0); (try clear c3b1); (try clear c4); (try clear c4b0); (try clear c4b1); (try clear c6); (try clear c7); (try clear c7b0); (try clear c8); (try clear c8b0); (try clear c12); (try clear c14); (try clear c15); (try clear c16); (try clear c19); (try clear c19b0); (try clear c19b1); (try clear c19b2); (try clear c20); (try clear c20b0); (try clear c20b1); (try clear p21); (try clear q21); (try clear hx21); (try clear qi21); (try clear hcz13_0); (try clear hcz13_1); (try clear hcz13_2); (try clear hcz17_0); (try clear hcz17_1); (try clear hcz17_2); (try clear hfz13_0); (try clear hfz13_1); (try clear hfz13_2); (try clear hfz17_0); (try clear hfz17_1); (try clear hfz17_2); (try clear p21); (try clear q21); obtain ⟨kq, x30_8, rfl, HA, HJ8, BK124, BK125, BK127, HB⟩ := hcut
     cases kq with
     | zero => exact absurd HA.out (by simp [spec_ReadRef.j0])
     | succ kj8 =>
      have H := HA.out; clear HA; simp only [spec_ReadRef.j0] at H; have HC22 := aM H; clear H
      go_upto_if 30 with (fail)
      go_cut [7] (fun v7 wc => ∃ (kq : Nat) (x7_21 : ByteArray) (x125000_21 : ByteArray) (x125001_21 : ByteArray) (x125002_21 : ByteArray) (x128001_21 : ByteArray), v7 = .string x7_21 ∧ Aside0 (spec_ReadRef.j1 kq x7_21 (⟨#[]⟩ : ByteArray) (⟨#[]⟩ : ByteArray) (⟨#[]⟩ : ByteArray) (a0.extract 0 (t126 : Int).toNat) x128001_21 (⟨#[]⟩ : ByteArray) = some (r1, r2, r3, r4)) ∧ Aside0 (kq ≤ kj8) ∧ Aside0 (wc.heap[gb124]? = some (.cells #[.string x125000_21, .string x125001_21, .string x125002_21] 27 (0, 0))) ∧ Aside0 (wc.heap[gb125]? = some (.cells #[.string (⟨#[]⟩ : ByteArray), .string (⟨#[]⟩ : ByteArray), .string (⟨#[]⟩ : ByteArray)] 27 (0, 0))) ∧ Aside0 (wc.heap[gb127]? = some (.cells #[.string (a0.extract 0 (t126 : Int).toNat), .string x128001_21, .string (⟨#[]⟩ : ByteArray)] 27 (0, 0))) ∧ Aside0 (Below w.heap.size w wc))
      case first =>
       have H := HC22.out; clear HC22; by_cases c23 : x30_8 = true
       ·
        subst c23; rw [if_pos rfl] at H; replace H := Option.bind_eq_some_iff.mp H; obtain ⟨t129, A240, H⟩ := H; (try dsimp only at H); have A24 := aM A240; clear A240; by_cases c25 : 1 ≤ t129
        ·
         rw [if_pos c25] at H; have c25b0 := eq_true c25; have c25b1 := decide_eq_true c25; clear c25; by_cases c26 : t129 ≤ ((a0.extract (t126 : Int).toNat a0.size).size : Int)
         ·
          rw [if_pos c26] at H; have c26b0 := eq_true c26
          try (have c26n0 := c26b0; conv at c26n0 => (lhs; rhs; simp))
          have c26b1 := decide_eq_true c26; clear c26; replace H := Option.bind_eq_some_iff.mp H; obtain ⟨t130, A270, H⟩ := H; (try dsimp only at H); have A27 := aM A270; clear A270; by_cases c28 : t130 = true
          ·
           subst c28; rw [if_pos rfl] at H; by_cases c29 : 0 ≤ t129
           ·
            rw [if_pos c29] at H; have c29b0 := eq_true c29; have c29b1 := decide_eq_true c29; clear c29; have c30b0 := eq_true (of_decide_eq_true zq4 : t129 ≤ ((a0.extract (t126 : Int).toNat a0.size).size : Int)); have H' := aM H; clear H
            go_wp2_with (first | ((with_reducible refine gC 32 rfl ?_); refine gL 32 Tryd.func32 #[.string (a0.extract (t126 : Int).toNat a0.size), .int .u8 64, .int .u8 64] ?_; (with_reducible refine (spec_l3Find.calls kj8 (a0.extract (t126 : Int).toNat a0.size) 64 64 t129 _ A24.out).mono ?_); rintro e w' ⟨rfl, ⟨nd, rfl⟩⟩; refine ⟨_, rfl, ?_⟩; repeat (rw [drewN_self wc]; generalize hq_ : World.drewN wc _ = wc; have n0_ : Aside0 (wc.heap[gb124]? = some (.cells #[.string (⟨#[]⟩ : ByteArray), .string (⟨#[]⟩ : ByteArray), .string (⟨#[]⟩ : ByteArray)] 27 (0, 0))) := ⟨by rw [← hq_]; exact zq13⟩; have n1_ : Aside0 (wc.heap[gb125]? = some (.cells #[.string (⟨#[]⟩ : ByteArray), .string (⟨#[]⟩ : ByteArray), .string (⟨#[]⟩ : ByteArray)] 27 (0, 0))) := ⟨by rw [← hq_]; exact zq22⟩; have n2_ : Aside0 (wc.heap[gb127]? = some (.cells #[.string (a0.extract 0 (t126 : Int).toNat), .string (⟨#[]⟩ : ByteArray), .string (⟨#[]⟩ : ByteArray)] 27 (0, 0))) := ⟨by rw [← hq_]; exact zq23⟩; have n3_ : Aside0 (Below w.heap.size w wc) := ⟨by rw [← hq_]; exact zq21⟩; clear BK124 BK125 BK127 HB hq_; have BK124 := n0_; have BK125 := n1_; have BK127 := n2_; have HB := n3_; clear n0_ n1_ n2_ n3_); have hnb31 := NB127_124.out; have hnc31 := NB124_127.out; have hnb32 := NB127_125.out; have hnc32 := NB125_127.out; obtain ⟨hcz33_0, hcz33_1, hcz33_2, hfz33_0, hfz33_1, hfz33_2⟩ := cells3_ (w := wc) BK127) | ((with_reducible refine gC 33 rfl ?_); refine gL 39 Tryd.func33 #[.string ((a0.extract (t126 : Int).toNat a0.size).extract 1 (t129 : Int).toNat)] ?_; (with_reducible refine (spec_TagOk.calls kj8 ((a0.extract (t126 : Int).toNat a0.size).extract 1 (t129 : Int).toNat) true _ A27.out).mono ?_); rintro e w' ⟨rfl, ⟨nd, rfl⟩⟩; refine ⟨_, rfl, ?_⟩))
            go_meet
            case rel => exact ⟨_, ((a0.extract (t126 : Int).toNat a0.size).extract (t129 : Int).toNat (a0.extract (t126 : Int).toNat a0.size).size), ((⟨#[]⟩ : ByteArray)), ((⟨#[]⟩ : ByteArray)), ((⟨#[]⟩ : ByteArray)), ((a0.extract (t126 : Int).toNat a0.size).extract 1 (t129 : Int).toNat), zq3, H', ⟨by have := HJ8.out; first | omega | exact Nat.le_refl _⟩, ⟨by refine dW ?_; refine blk_far ?_ NB124_127.out _; refine dW ?_; exact BK124.out⟩, ⟨by refine dW ?_; refine blk_far ?_ NB125_127.out _; refine dW ?_; exact BK125.out⟩, ⟨by refine dW ?_; refine blk_put (cs := #[.string (a0.extract 0 (t126 : Int).toNat), .string (⟨#[]⟩ : ByteArray), .string (⟨#[]⟩ : ByteArray)]) ?_ 1 _ rfl; refine dW ?_; exact BK127.out⟩, ⟨zq21⟩⟩
           rw [if_neg c29] at H; exact absurd H (by simp)
          replace c28 := Bool.eq_false_iff.mpr c28; subst c28; rw [if_neg (show ¬ (false = true) by decide)] at H; simp only [Option.some.injEq, Prod.mk.injEq] at H; obtain ⟨rfl, rfl, rfl, rfl⟩ := H
          go_wp2_with (first | ((with_reducible refine gC 32 rfl ?_); refine gL 32 Tryd.func32 #[.string (a0.extract (t126 : Int).toNat a0.size), .int .u8 64, .int .u8 64] ?_; (with_reducible refine (spec_l3Find.calls kj8 (a0.extract (t126 : Int).toNat a0.size) 64 64 t129 _ A24.out).mono ?_); rintro e w' ⟨rfl, ⟨nd, rfl⟩⟩; refine ⟨_, rfl, ?_⟩; repeat (rw [drewN_self wc]; generalize hq_ : World.drewN wc _ = wc; have n0_ : Aside0 (wc.heap[gb124]? = some (.cells #[.string (⟨#[]⟩ : ByteArray), .string (⟨#[]⟩ : ByteArray), .string (⟨#[]⟩ : ByteArray)] 27 (0, 0))) := ⟨by rw [← hq_]; exact zq13⟩; have n1_ : Aside0 (wc.heap[gb125]? = some (.cells #[.string (⟨#[]⟩ : ByteArray), .string (⟨#[]⟩ : ByteArray), .string (⟨#[]⟩ : ByteArray)] 27 (0, 0))) := ⟨by rw [← hq_]; exact zq22⟩; have n2_ : Aside0 (wc.heap[gb127]? = some (.cells #[.string (a0.extract 0 (t126 : Int).toNat), .string (⟨#[]⟩ : ByteArray), .string (⟨#[]⟩ : ByteArray)] 27 (0, 0))) := ⟨by rw [← hq_]; exact zq23⟩; have n3_ : Aside0 (Below w.heap.size w wc) := ⟨by rw [← hq_]; exact zq21⟩; clear BK124 BK125 BK127 HB hq_; have BK124 := n0_; have BK125 := n1_; have BK127 := n2_; have HB := n3_; clear n0_ n1_ n2_ n3_); have hnb34 := NB127_124.out; have hnc34 := NB124_127.out; have hnb35 := NB127_125.out; have hnc35 := NB125_127.out; obtain ⟨hcz36_0, hcz36_1, hcz36_2, hfz36_0, hfz36_1, hfz36_2⟩ := cells3_ (w := wc) BK127) | ((with_reducible refine gC 33 rfl ?_); refine gL 39 Tryd.func33 #[.string ((a0.extract (t126 : Int).toNat a0.size).extract 1 (t129 : Int).toNat)] ?_; (with_reducible refine (spec_TagOk.calls kj8 ((a0.extract (t126 : Int).toNat a0.size).extract 1 (t129 : Int).toNat) false _ A27.out).mono ?_); rintro e w' ⟨rfl, ⟨nd, rfl⟩⟩; refine ⟨_, rfl, ?_⟩; have hnb37 := NB125_124.out; have hnc37 := NB124_125.out; obtain ⟨hcz38_0, hcz38_1, hcz38_2, hfz38_0, hfz38_1, hfz38_2⟩ := cells3_ (w := wc) BK125; obtain ⟨hcz39_0, hcz39_1, hcz39_2, hfz39_0, hfz39_1, hfz39_2⟩ := cells3_ (w := wc) BK124))
          refine bodyPost_ret (results_ct rfl _ _ gb124 27 #[.string (⟨#[]⟩ : ByteArray), .string (⟨#[]⟩ : ByteArray), .string (⟨#[]⟩ : ByteArray)] (0, 0) _ rfl (by refine dW ?_; refine blk_put (cs := #[.string (⟨#[]⟩ : ByteArray), .string (⟨#[]⟩ : ByteArray), .string (⟨#[]⟩ : ByteArray)]) ?_ 2 _ rfl; refine dW ?_; refine blk_put (cs := #[.string (⟨#[]⟩ : ByteArray), .string (⟨#[]⟩ : ByteArray), .string (⟨#[]⟩ : ByteArray)]) ?_ 1 _ rfl; refine dW ?_; refine blk_put (cs := #[.string (⟨#[]⟩ : ByteArray), .string (⟨#[]⟩ : ByteArray), .string (⟨#[]⟩ : ByteArray)]) ?_ 0 _ rfl; refine dW ?_; refine blk_far ?_ NB124_127.out _; refine dW ?_; exact BK124.out) Tryd.underlying27 rfl (by kernel_rfl)) rfl ?_; exact ⟨zq7, zq21⟩
         rw [if_neg c26] at H; exact absurd H (by simp)
        rw [if_neg c25] at H; exact absurd H (by simp)
       replace c23 := Bool.eq_false_iff.mpr c23; subst c23; rw [if_neg (show ¬ (false = true) by decide)] at H; have H' := aM H; clear H; go_wp2
       go_meet
       case rel => exact ⟨_, ((a0.extract (t126 : Int).toNat a0.size)), ((⟨#[]⟩ : ByteArray)), ((⟨#[]⟩ : ByteArray)), ((⟨#[]⟩ : ByteArray)), ((⟨#[]⟩ : ByteArray)), zq3, H', ⟨by have := HJ8.out; first | omega | exact Nat.le_refl _⟩, ⟨zq13⟩, ⟨zq22⟩, ⟨zq23⟩, ⟨zq21⟩⟩
      case rest =>
       clear HC22; (try clear c1); (try clear c2); (try clear p2); (try clear q2); (try clear hx2); (try clear qi2); (try clear c3); (try clear c3b0); (try clear c3b1); (try clear c4); (try clear c4b0); (try clear c4b1); (try clear c6); (try clear c7); (try clear c7b0); (try clear c8); (try clear c8b0); (try clear c12); (try clear c14); (try clear c15); (try clear c16); (try clear c19); (try clear c19b0); (try clear c19b1); (try clear c19b2); (try clear c20); (try clear c20b0); (try clear c20b1); (try clear p21); (try clear q21); (try clear hx21); (try clear qi21); (try clear c23); (try clear c25); (try clear c25b0); (try clear c25b1); (try clear c26); (try clear c26b0); (try clear c26b1); (try clear c28); (try clear c29); (try clear c29b0); (try clear c29b1); (try clear c30); (try clear c30b0); (try clear c31); (try clear c32); (try clear c33); (try clear c34); (try clear c35); (try clear c37); (try clear hcz13_0); (try clear hcz13_1); (try clear hcz13_2); (try clear hcz17_0); (try clear hcz17_1); (try clear hcz17_2); (try clear hcz33_0); (try clear hcz33_1); (try clear hcz33_2); (try clear hcz36_0); (try clear hcz36_1); (try clear hcz36_2); (try clear hcz38_0); (try clear hcz38_1); (try clear hcz38_2); (try clear hcz39_0); (try clear hcz39_1); (try clear hcz39_2); (try clear hfz13_0); (try clear hfz13_1); (try clear hfz13_2); (try clear hfz17_0); (try clear hfz17_1); (try clear hfz17_2); (try clear hfz33_0); (try clear hfz33_1); (try clear hfz33_2); (try clear hfz36_0)
       (try clear hfz36_1); (try clear hfz36_2); (try clear hfz38_0); (try clear hfz38_1); (try clear hfz38_2); (try clear hfz39_0); (try clear hfz39_1); (try clear hfz39_2); (try clear p2); (try clear p21); (try clear q2); (try clear q21); obtain ⟨kq, x7_21, x125000_21, x125001_21, x125002_21, x128001_21, rfl, HA, HJ21, BK124, BK125, BK127, HB⟩ := hcut
       cases kq with
       | zero => exact absurd HA.out (by simp [spec_ReadRef.j1])
       | succ kj21 =>
        have H := HA.out; clear HA; simp only [spec_ReadRef.j1] at H; by_cases c40 : x7_21.toList = ([] : List UInt8)
        ·
         rw [if_pos c40] at H; have c40b0 : (x7_21.toList == ([] : List UInt8)) = true := beq_iff_eq.mpr c40; have c40b1 : (x7_21.toList != ([] : List UInt8)) = false := bne_eq_false_iff_eq.mpr c40; have c40b2 : x7_21.toList.isEmpty = true := by simpa using c40
         clear c40; simp only [Option.some.injEq, Prod.mk.injEq] at H; obtain ⟨rfl, rfl, rfl, rfl⟩ := H; have hnb41 := NB127_124.out; have hnc41 := NB124_127.out; have hnb42 := NB127_125.out; have hnc42 := NB125_127.out; obtain ⟨hcz43_0, hcz43_1, hcz43_2, hfz43_0, hfz43_1, hfz43_2⟩ := cells3_ (w := wc) BK127; have hnb44 := NB124_125.out; have hnc44 := NB125_124.out; obtain ⟨hcz45_0, hcz45_1, hcz45_2, hfz45_0, hfz45_1, hfz45_2⟩ := cells3_ (w := wc) BK124; go_wp2; refine bodyPost_ret (results_ct rfl _ _ gb124 27 #[.string (a0.extract 0 (t126 : Int).toNat), .string x128001_21, .string (⟨#[]⟩ : ByteArray)] (0, 0) _ rfl (by refine dW ?_; refine blk_put (cs := #[.string (a0.extract 0 (t126 : Int).toNat), .string x128001_21, .string x125002_21]) ?_ 2 _ rfl; refine dW ?_; refine blk_put (cs := #[.string (a0.extract 0 (t126 : Int).toNat), .string x125001_21, .string x125002_21]) ?_ 1 _ rfl; refine dW ?_; refine blk_put (cs := #[.string x125000_21, .string x125001_21, .string x125002_21]) ?_ 0 _ rfl; refine dW ?_; exact BK124.out) Tryd.underlying27 rfl (by kernel_rfl)) rfl ?_; exact ⟨zq7, zq21⟩
        rw [if_neg c40] at H; have c40b0 : (x7_21.toList == ([] : List UInt8)) = false := beq_eq_false_iff_ne.mpr c40; have c40b1 : (x7_21.toList != ([] : List UInt8)) = true := bne_iff_ne.mpr c40; have c40b2 : x7_21.toList.isEmpty = false := by simpa using c40
        by_cases c46 : 1 ≤ (x7_21.size : Int)
        ·
         rw [if_pos c46] at H; have c46b0 := eq_true c46; have c46b1 := decide_eq_true c46; clear c46; replace H := Option.bind_eq_some_iff.mp H; obtain ⟨t131, A470, H⟩ := H; (try dsimp only at H); have A47 := aM A470; clear A470; by_cases c48 : t131 = true
         ·
          subst c48; rw [if_pos rfl] at H; simp only [Option.some.injEq, Prod.mk.injEq] at H; obtain ⟨rfl, rfl, rfl, rfl⟩ := H; have hnb49 := NB127_124.out; have hnc49 := NB124_127.out; have hnb50 := NB127_125.out; have hnc50 := NB125_127.out; obtain ⟨hcz51_0, hcz51_1, hcz51_2, hfz51_0, hfz51_1, hfz51_2⟩ := cells3_ (w := wc) BK127
          go_wp2_with (first | ((with_reducible refine gC 34 rfl ?_); refine gL 52 Tryd.func34 #[.string (x7_21.extract 1 x7_21.size)] ?_; (with_reducible refine (spec_DigestOk.calls kj21 (x7_21.extract 1 x7_21.size) true _ A47.out).mono ?_); rintro e w' ⟨rfl, ⟨nd, rfl⟩⟩; refine ⟨_, rfl, ?_⟩; have hnb52 := NB124_125.out; have hnc52 := NB125_124.out; obtain ⟨hcz53_0, hcz53_1, hcz53_2, hfz53_0, hfz53_1, hfz53_2⟩ := cells3_ (w := wc) BK124))
          refine bodyPost_ret (results_ct rfl _ _ gb124 27 #[.string (a0.extract 0 (t126 : Int).toNat), .string x128001_21, .string (x7_21.extract 1 x7_21.size)] (0, 0) _ rfl (by refine dW ?_; refine blk_put (cs := #[.string (a0.extract 0 (t126 : Int).toNat), .string x128001_21, .string x125002_21]) ?_ 2 _ rfl; refine dW ?_; refine blk_put (cs := #[.string (a0.extract 0 (t126 : Int).toNat), .string x125001_21, .string x125002_21]) ?_ 1 _ rfl; refine dW ?_; refine blk_put (cs := #[.string x125000_21, .string x125001_21, .string x125002_21]) ?_ 0 _ rfl; refine dW ?_; refine blk_far ?_ NB124_127.out _; refine dW ?_; exact BK124.out) Tryd.underlying27 rfl (by kernel_rfl)) rfl ?_; exact ⟨zq7, zq21⟩
         replace c48 := Bool.eq_false_iff.mpr c48; subst c48; rw [if_neg (show ¬ (false = true) by decide)] at H; simp only [Option.some.injEq, Prod.mk.injEq] at H; obtain ⟨rfl, rfl, rfl, rfl⟩ := H; have hnb54 := NB127_124.out; have hnc54 := NB124_127.out; have hnb55 := NB127_125.out; have hnc55 := NB125_127.out; obtain ⟨hcz56_0, hcz56_1, hcz56_2, hfz56_0, hfz56_1, hfz56_2⟩ := cells3_ (w := wc) BK127
         go_wp2_with (first | ((with_reducible refine gC 34 rfl ?_); refine gL 52 Tryd.func34 #[.string (x7_21.extract 1 x7_21.size)] ?_; (with_reducible refine (spec_DigestOk.calls kj21 (x7_21.extract 1 x7_21.size) false _ A47.out).mono ?_); rintro e w' ⟨rfl, ⟨nd, rfl⟩⟩; refine ⟨_, rfl, ?_⟩; have hnb57 := NB125_124.out; have hnc57 := NB124_125.out; obtain ⟨hcz58_0, hcz58_1, hcz58_2, hfz58_0, hfz58_1, hfz58_2⟩ := cells3_ (w := wc) BK125; obtain ⟨hcz59_0, hcz59_1, hcz59_2, hfz59_0, hfz59_1, hfz59_2⟩ := cells3_ (w := wc) BK124))
         refine bodyPost_ret (results_ct rfl _ _ gb124 27 #[.string (⟨#[]⟩ : ByteArray), .string (⟨#[]⟩ : ByteArray), .string (⟨#[]⟩ : ByteArray)] (0, 0) _ rfl (by refine dW ?_; refine blk_put (cs := #[.string (⟨#[]⟩ : ByteArray), .string (⟨#[]⟩ : ByteArray), .string x125002_21]) ?_ 2 _ rfl; refine dW ?_; refine blk_put (cs := #[.string (⟨#[]⟩ : ByteArray), .string x125001_21, .string x125002_21]) ?_ 1 _ rfl; refine dW ?_; refine blk_put (cs := #[.string x125000_21, .string x125001_21, .string x125002_21]) ?_ 0 _ rfl; refine dW ?_; refine blk_far ?_ NB124_127.out _; refine dW ?_; exact BK124.out) Tryd.underlying27 rfl (by kernel_rfl)) rfl ?_; exact ⟨zq7, zq21⟩
        rw [if_neg c46] at H; exact absurd H (by simp)
   replace c6 := Bool.eq_false_iff.mpr c6; subst c6; rw [if_neg (show ¬ (false = true) by decide)] at H; simp only [Option.some.injEq, Prod.mk.injEq] at H; obtain ⟨rfl, rfl, rfl, rfl⟩ := H; go_enter Tryd.func14, Tryd.ntmps14
   go_wp2_with (first | ((with_reducible refine gD 2 rfl ?_); refine bE 2 #[.string (⟨#[]⟩ : ByteArray), .string (⟨#[]⟩ : ByteArray), .string (⟨#[]⟩ : ByteArray)] 27 ?_; intro gb124 hg w60 hbox hb; have BK124 := aM hbox; have GW124 := aM (zq47 : w.heap.size ≤ gb124); have GE124 := GW124; replace HB := sB zq2 hb; clear hb hbox hg) | ((with_reducible refine gD 4 rfl ?_); refine bE 4 #[.string (⟨#[]⟩ : ByteArray), .string (⟨#[]⟩ : ByteArray), .string (⟨#[]⟩ : ByteArray)] 27 ?_; intro gb125 hg w61 hbox hb; have BK125 := aM hbox; have GW125 := aM (zq48 : w.heap.size ≤ gb125); have GE125 := GW125; replace HB := sB zq14 hb; have NB124_125 := aM (zq49 : gb124 ≠ gb125); have NB125_124 := aM (zq50 : gb125 ≠ gb124); replace BK124 := bG BK124 hb; clear hb hbox hg; have hnb62 := NB125_124.out; have hnc62 := NB124_125.out; obtain ⟨hcz63_0, hcz63_1, hcz63_2, hfz63_0, hfz63_1, hfz63_2⟩ := cells3_ (w := w61) BK125) | ((with_reducible refine gC 32 rfl ?_); refine gL 11 Tryd.func32 #[.string a0, .int .u8 58, .int .u8 64] ?_; (with_reducible refine (spec_l3Find.calls k a0 58 64 t126 _ A2.out).mono ?_); rintro e w' ⟨rfl, ⟨nd, rfl⟩⟩; refine ⟨_, rfl, ?_⟩) | ((with_reducible refine gD 6 rfl ?_); refine bE 6 #[.string (⟨#[]⟩ : ByteArray), .string (⟨#[]⟩ : ByteArray), .string (⟨#[]⟩ : ByteArray)] 27 ?_; intro gb127 hg w64 hbox hb; have BK127 := aM hbox; have GW127 := aM (zq51 : w.heap.size ≤ gb127); have GE127 := GW127; replace HB := sB zq17 hb; have NB124_127 := aM (zq52 : gb124 ≠ gb127); have NB127_124 := aM (zq53 : gb127 ≠ gb124); replace BK124 := bF BK124 zq15 hb; have NB125_127 := aM (zq54 : gb125 ≠ gb127); have NB127_125 := aM (zq55 : gb127 ≠ gb125); replace BK125 := bB (g := gb125) (o := .cells #[.string (⟨#[]⟩ : ByteArray), .string (⟨#[]⟩ : ByteArray), .string (⟨#[]⟩ : ByteArray)] 27 (0, 0)) zq16 hb; clear hb hbox hg; have hnb65 := NB127_124.out; have hnc65 := NB124_127.out; have hnb66 := NB127_125.out; have hnc66 := NB125_127.out; obtain ⟨hcz67_0, hcz67_1, hcz67_2, hfz67_0, hfz67_1, hfz67_2⟩ := cells3_ (w := w64) BK127) | ((with_reducible refine gC 8 rfl ?_); refine gL 18 Tryd.func8 #[.string (a0.extract 0 (t126 : Int).toNat)] ?_; (with_reducible refine (spec_RepoOk.calls k (a0.extract 0 (t126 : Int).toNat) false _ A5.out).mono ?_); rintro e w68 ⟨rfl, hb⟩; refine ⟨_, rfl, ?_⟩; replace BK124 := bF BK124 zq18 hb; replace BK125 := bF BK125 zq19 hb; replace BK127 := bB (g := gb127) (o := .cells #[.string (a0.extract 0 (t126 : Int).toNat), .string (⟨#[]⟩ : ByteArray), .string (⟨#[]⟩ : ByteArray)] 27 (0, 0)) zq20 hb; replace HB := sB zq21 hb; clear hb; obtain ⟨hcz69_0, hcz69_1, hcz69_2, hfz69_0, hfz69_1, hfz69_2⟩ := cells3_ (w := w68) BK125; obtain ⟨hcz70_0, hcz70_1, hcz70_2, hfz70_0, hfz70_1, hfz70_2⟩ := cells3_ (w := w68) BK124))
   refine bodyPost_ret (results_ct rfl _ _ gb124 27 #[.string (⟨#[]⟩ : ByteArray), .string (⟨#[]⟩ : ByteArray), .string (⟨#[]⟩ : ByteArray)] (0, 0) _ rfl (by refine dW ?_; refine blk_put (cs := #[.string (⟨#[]⟩ : ByteArray), .string (⟨#[]⟩ : ByteArray), .string (⟨#[]⟩ : ByteArray)]) ?_ 2 _ rfl; refine dW ?_; refine blk_put (cs := #[.string (⟨#[]⟩ : ByteArray), .string (⟨#[]⟩ : ByteArray), .string (⟨#[]⟩ : ByteArray)]) ?_ 1 _ rfl; refine dW ?_; refine blk_put (cs := #[.string (⟨#[]⟩ : ByteArray), .string (⟨#[]⟩ : ByteArray), .string (⟨#[]⟩ : ByteArray)]) ?_ 0 _ rfl; refine dW ?_; exact BK124.out) Tryd.underlying27 rfl (by kernel_rfl)) rfl ?_; exact ⟨zq7, zq21⟩
  exact zq67
 rw [if_neg c3] at H; exact absurd H (by simp)

/-! ### strings_genSplit: function 68 (given) -/
def strings_genSplit.f (a0 : ByteArray) (a1 : ByteArray) (a2 : Int) (a3 : Int) : Option (List ByteArray) := if a0.size < 4294967281 ∧ a1.size = 1 ∧ a2 = 0 ∧ a3 = -1 then some (Lib.splitB a1 0 (Lib.countB a0 a1) a0) else none
set_option maxRecDepth 100000 in
theorem strings_genSplit.calls (a0 : ByteArray) (a1 : ByteArray) (a2 : Int) (a3 : Int) (r : List ByteArray) (w : World) (h : strings_genSplit.f a0 a1 a2 a3 = some r) :
    Calls Tryd.prog 68 #[.string a0, .string a1, .int .i64 a2, .int .i64 a3] w fun e w' => ∃ v0_ : Value, e = .returned (v0_) ∧ Kd.R Kd.string 9 w' w.heap.size (fun _ => True) v0_ r ∧ Below w.heap.size w w' := by
  unfold strings_genSplit.f at h
  split at h
  case isFalse => exact absurd h (by simp)
  rename_i hg
  injection h with h
  subst h; obtain ⟨hs, h1, rfl, rfl⟩ := hg; obtain ⟨c, rfl⟩ := Lib.one_byte a1 h1; have hle := Lib.countB_le (⟨#[c]⟩ : ByteArray) (Nat.le_of_eq h1.symm) a0.size a0 (Nat.le_refl _); have hlen := Lib.splitB_all (⟨#[c]⟩ : ByteArray) (Nat.le_of_eq h1.symm) 0 _ a0 rfl
  have hcl : Lib.countB a0 (⟨#[c]⟩ : ByteArray) ≤ a0.size := by
    exact hle
  have hC : Calls Tryd.prog (Tryd.lays221_ren.f 138) #[.string a0, .string (⟨#[c]⟩ : ByteArray)] w fun e w' => e = .returned (.int .i64 (Lib.countB a0 (⟨#[c]⟩ : ByteArray))) ∧ w' = w := by
    refine (Any.strings_Count_one { Tryd.lays221 with } a0 c w).mono ?_; rintro e w' ⟨rfl, rfl⟩; refine ⟨?_, rfl⟩; show _ = Ending.returned (Value.int .i64 ((Lib.count a0.data.toList [c] : Nat) : Int)); rw [Lib.count_one]
    rfl
  have hI : ∀ (x : ByteArray) (cc : Array Value), x.size ≤ a0.size → Calls Tryd.prog (Tryd.lays221_ren.f 143) #[.string x, .string (⟨#[c]⟩ : ByteArray)] (w.alloc (.cells cc (Tryd.lays221_ren.t 9))) fun e w' => e = .returned (.int .i64 (Lib.indexB x (⟨#[c]⟩ : ByteArray))) ∧ w' = w.alloc (.cells cc (Tryd.lays221_ren.t 9)) := by
    intro x cc _; refine (Any.strings_Index_one { Tryd.lays221 with } x c _).mono ?_; rintro e w' ⟨rfl, rfl⟩; refine ⟨?_, rfl⟩; show _ = Ending.returned (Value.int .i64 (Lib.index x.data.toList [c])); rw [Lib.index_one]
  have hc := Any.strings_genSplit_core Tryd.lays221 (by kernel_rfl) a0 (⟨#[c]⟩ : ByteArray) 0 (-1) (Lib.countB a0 (⟨#[c]⟩ : ByteArray) + 1) w hs (Nat.le_of_eq h1.symm) (Nat.zero_le _) hI hC (by decide) (by decide) (by rw [if_pos (by decide)]; omega); rw [Nat.add_sub_cancel, hlen] at hc; have e2 : Lib.cellsOf (Lib.splitB (⟨#[c]⟩ : ByteArray) 0 (Lib.countB a0 (⟨#[c]⟩ : ByteArray)) a0) (Lib.countB a0 (⟨#[c]⟩ : ByteArray) + 1) = ((Lib.splitB (⟨#[c]⟩ : ByteArray) 0 (Lib.countB a0 (⟨#[c]⟩ : ByteArray)) a0).map Value.string).toArray := by rw [← hlen]; exact Lib.cellsOf_full _
  rw [e2] at hc; refine hc.mono ?_; rintro e w' ⟨rfl, rfl⟩; generalize Lib.splitB (⟨#[c]⟩ : ByteArray) 0 (Lib.countB a0 (⟨#[c]⟩ : ByteArray)) a0 = l at hlen; generalize Lib.countB a0 (⟨#[c]⟩ : ByteArray) = n at hlen hcl; have hm : l.length ≤ maxLen := by simp only [maxLen]; omega
  rw [← hlen]; refine ⟨_, rfl, Kd.R_of_own (enc := Value.string) ⟨by simp [encs], .inr ⟨w.heap.size, l.length, (l.map Value.string).toArray, rfl, Nat.le_refl _, Held.of (heap_alloc_new w _), Nat.le_refl _, hm, by simp, by rw [Nat.mul_one, List.toList_toArray]; exact List.take_of_length_le (by simp)⟩⟩ (fun _ _ => trivial), below_alloc (Below.refl _ _) _⟩

/-! ### strings_Split: function 49 -/
def strings_Split.f (a0 : ByteArray) (a1 : ByteArray) : Option (List ByteArray) := (strings_genSplit.f a0 a1 0 (-1)).bind fun t132 => (some t132)
set_option maxHeartbeats 8000000 in
set_option maxRecDepth 100000 in
theorem strings_Split.calls (a0 : ByteArray) (a1 : ByteArray) (r : List ByteArray) (w : World) (h : strings_Split.f a0 a1 = some r) :
  Calls Tryd.prog 49 #[.string a0, .string a1] w fun e w' => ∃ v0_ : Value, e = .returned (v0_) ∧ Kd.R Kd.string 9 w' w.heap.size (fun _ => True) v0_ r ∧ Below w.heap.size w w' := by
 have HB := aM (Below.refl w.heap.size w); unfold strings_Split.f at h; have H := h; clear h; replace H := Option.bind_eq_some_iff.mp H; obtain ⟨t132, A30, H⟩ := H; replace H : (some t132) = some r := H; have A3 := aM A30; clear A30; obtain rfl := Option.some.inj H; go_enter Tryd.func49, Tryd.ntmps49
 go_wp2_with (first | ((with_reducible refine gC 68 rfl ?_); refine gL 7 Tryd.func68 #[.string a0, .string a1, .int .i64 0, .int .i64 (-1)] ?_; (with_reducible refine (strings_genSplit.calls a0 a1 0 (-1) t132 _ A3.out).mono ?_); rintro e w4 ⟨v133, rfl, ho0, hb⟩; refine ⟨_, rfl, ?_⟩; have HO134 := aM (Kd.R_lower ho0 (below_size zq2)); replace HB := sB zq2 hb; clear hb; (try clear ho0)))
 go_ret; exact ⟨_, zq7, by refine dR ?_; exact HO134.out, zq2⟩

/-! ### impl_isWordByte: function 51 -/
def impl_isWordByte.f (a0 : Int) : Option (Bool) := if a0 ≥ 97 then (if a0 ≤ 122 then (some true) else (if a0 ≥ 48 then (some (decide (a0 ≤ 57))) else (some false))) else (if a0 ≥ 48 then (some (decide (a0 ≤ 57))) else (some false))
set_option maxHeartbeats 8000000 in
set_option maxRecDepth 100000 in
theorem impl_isWordByte.calls (a0 : Int) (r : Bool) (w : World) (h : impl_isWordByte.f a0 = some r) :
  Calls Tryd.prog 51 #[.int .u8 a0] w fun e w' => e = .returned (.bool r) ∧ Drawn0 w w' := by
 unfold impl_isWordByte.f at h; have H := h; clear h; by_cases c2 : a0 ≥ 97
 ·
  rw [if_pos c2] at H; have c2b0 : decide (97 ≤ a0) = true := decide_eq_true c2; clear c2; by_cases c3 : a0 ≤ 122
  ·
   rw [if_pos c3] at H; have c3b0 := decide_eq_true c3; clear c3; obtain rfl := Option.some.inj H; go_enter Tryd.func51, Tryd.ntmps51; go_wp2; go_ret; exact ⟨zq3, zq8⟩
  rw [if_neg c3] at H; have c3b0 := decide_eq_false c3; clear c3; by_cases c4 : a0 ≥ 48
  ·
   rw [if_pos c4] at H; have c4b0 : decide (48 ≤ a0) = true := decide_eq_true c4; clear c4; obtain rfl := Option.some.inj H; go_enter Tryd.func51, Tryd.ntmps51; go_wp2; go_ret; exact ⟨zq3, zq8⟩
  rw [if_neg c4] at H; have c4b0 : decide (48 ≤ a0) = false := decide_eq_false c4; clear c4; obtain rfl := Option.some.inj H; go_enter Tryd.func51, Tryd.ntmps51; go_wp2; go_ret; exact ⟨zq3, zq8⟩
 rw [if_neg c2] at H; have c2b0 : decide (97 ≤ a0) = false := decide_eq_false c2; clear c2; by_cases c5 : a0 ≥ 48
 ·
  rw [if_pos c5] at H; have c5b0 : decide (48 ≤ a0) = true := decide_eq_true c5; clear c5; obtain rfl := Option.some.inj H; go_enter Tryd.func51, Tryd.ntmps51; go_wp2; go_ret; exact ⟨zq3, zq8⟩
 rw [if_neg c5] at H; have c5b0 : decide (48 ≤ a0) = false := decide_eq_false c5; clear c5; obtain rfl := Option.some.inj H; go_enter Tryd.func51, Tryd.ntmps51; go_wp2; go_ret; exact ⟨zq3, zq8⟩

end Go.Proofs.YtldpdaifajjaeaaDoor.QFnExactReadRef
