/- Written by wip/myprint.py of this repo (the kit's print, with additions of this session). -/
import Derived.Test.YtkpbdfpmoeobnaaDoorQFnExactBlobsOfx0
import Derived.Test.YtkpbdfpmoeobnaaDoorQFnExactBlobsOfx2
set_option maxRecDepth 100000
namespace Go.Proofs.YtkpbdfpmoeobnaaDoor.QFnExactBlobsOf
open Go.RowKit Go.Proofs.YtkpbdfpmoeobnaaDoorW.PrintWords Go.Proofs.YtkpbdfpmoeobnaaDoorW.PrintLast Go.Proofs.YtkpbdfpmoeobnaaDoorW.PrintMore
attribute [local go_sem] max2_int min2_int max_two min_two max_three min_three max_four min_four   -- for this text's walks alone
set_option linter.unusedVariables false
set_option linter.unusedSimpArgs false

attribute [local go_sem high] binOp_leqS binOp_gtrS
/-! ### spec_l1Rising: function 20 -/
mutual
def spec_l1Rising.l0 : Nat → List ByteArray → List ByteArray → Int → Option (List ByteArray)
 | 0, _, _, _ => none
 | k + 1, x0, x3, x4 => if x4 < (x0.length : Int) then (if 0 ≤ x4 then ((spec_l1Has.f k x3 (rdOf ByteArray.empty x0 x4)).bind fun t131 => (if t131 = true then (spec_l1Rising.l0 k x0 x3 (wrap64 (x4 + 1))) else (if x3.length < 8796093022208 then (spec_l1Rising.l1 k x0 (x3 ++ [rdOf ByteArray.empty x0 x4]) x4 (x3.length : Int)) else (none)))) else (none)) else (some x3)
def spec_l1Rising.l1 : Nat → List ByteArray → List ByteArray → Int → Int → Option (List ByteArray)
 | 0, _, _, _, _ => none
 | k + 1, x0, x3, x4, x5 => if x5 > 0 then (if 0 ≤ (wrap64 (x5 - 1)) then (if (wrap64 (x5 - 1)) < (x3.length : Int) then (if 0 ≤ x4 then (if x4 < (x0.length : Int) then (if (Op.bytesLess ((rdOf ByteArray.empty x0 x4).toList) ((rdOf ByteArray.empty x3 (wrap64 (x5 - 1))).toList)) = true then (if 0 ≤ x5 then (if x5 < (x3.length : Int) then (spec_l1Rising.l1 k x0 (x3.set (x5 : Int).toNat (rdOf ByteArray.empty x3 (wrap64 (x5 - 1)))) x4 (wrap64 (x5 - 1))) else (none)) else (none)) else (if 0 ≤ x5 then (if x5 < (x3.length : Int) then (spec_l1Rising.l0 k x0 (x3.set (x5 : Int).toNat (rdOf ByteArray.empty x0 x4)) (wrap64 (x4 + 1))) else (none)) else (none))) else (none)) else (none)) else (none)) else (none)) else (if 0 ≤ x4 then (if x4 < (x0.length : Int) then (if 0 ≤ x5 then (if x5 < (x3.length : Int) then (spec_l1Rising.l0 k x0 (x3.set (x5 : Int).toNat (rdOf ByteArray.empty x0 x4)) (wrap64 (x4 + 1))) else (none)) else (none)) else (none)) else (none))
end
def spec_l1Rising.f (k : Nat) (l0 : List ByteArray) : Option (List ByteArray) := spec_l1Rising.l0 k l0 (([] : List ByteArray)) 0
theorem spec_l1Rising.mono_l : ∀ k, (∀ y0 y1 y2, LeO (spec_l1Rising.l0 k y0 y1 y2) (spec_l1Rising.l0 (k + 1) y0 y1 y2)) ∧ (∀ y0 y1 y2 y3, LeO (spec_l1Rising.l1 k y0 y1 y2 y3) (spec_l1Rising.l1 (k + 1) y0 y1 y2 y3))
 | 0 => ⟨fun _ _ _ r h => by simp [spec_l1Rising.l0] at h, fun _ _ _ _ r h => by simp [spec_l1Rising.l1] at h⟩
 | k + 1 => by
  obtain ⟨ih0, ih1⟩ := spec_l1Rising.mono_l k; refine ⟨?_, ?_⟩
  ·
   intro y0 y1 y2; unfold spec_l1Rising.l0
   repeat' first
   | (with_reducible apply ih0)
   | (with_reducible apply ih1)
   | (with_reducible apply spec_l1Has.mono)
   | (with_reducible exact LeO.refl _)
   | (with_reducible exact LeO.none _)
   | (with_reducible refine LeO.ite ?_ ?_)
   | (with_reducible refine LeO.bind ?_ (fun _ => ?_))
   | exact LeO.none _
   | refine LeO.ite ?_ ?_
   | refine LeO.bind ?_ (fun _ => ?_)
  intro y0 y1 y2 y3; unfold spec_l1Rising.l1
  repeat' first
  | (with_reducible apply ih0)
  | (with_reducible apply ih1)
  | (with_reducible apply spec_l1Has.mono)
  | (with_reducible exact LeO.refl _)
  | (with_reducible exact LeO.none _)
  | (with_reducible refine LeO.ite ?_ ?_)
  | (with_reducible refine LeO.bind ?_ (fun _ => ?_))
  | exact LeO.none _
  | refine LeO.ite ?_ ?_
  | refine LeO.bind ?_ (fun _ => ?_)
theorem spec_l1Rising.mono : ∀ a0 k, LeO (spec_l1Rising.f k a0) (spec_l1Rising.f (k + 1) a0) := by
 intro a0 k; obtain ⟨ih0, ih1⟩ := spec_l1Rising.mono_l k; unfold spec_l1Rising.f
 repeat' first
   | (with_reducible apply ih0)
   | (with_reducible apply ih1)
   | (with_reducible apply spec_l1Has.mono)
   | (with_reducible exact LeO.refl _)
   | (with_reducible exact LeO.none _)
   | (with_reducible refine LeO.ite ?_ ?_)
   | (with_reducible refine LeO.bind ?_ (fun _ => ?_))
   | exact LeO.none _
   | refine LeO.ite ?_ ?_
   | refine LeO.bind ?_ (fun _ => ?_)
set_option maxHeartbeats 8000000 in
set_option maxRecDepth 100000 in
theorem spec_l1Rising.calls (k : Nat) (A0 : Option Addr) (c0 : Nat) (l0 : List ByteArray) (r : List ByteArray) (w : World) (hr0 : Kd.C Kd.string w A0 l0.length l0) (hc0 : l0.length ≤ c0) (h : spec_l1Rising.f k l0 = some r) :
  Calls Tryd.prog 20 #[.slice A0 l0.length c0] w fun e w' => ∃ v0_ : Value, e = .returned (v0_) ∧ Kd.R Kd.string 9 w' w.heap.size (fun _ => True) v0_ r ∧ Below w.heap.size w w' := by
 have HR0 := aM hr0; have HC0 := aM hc0; clear hr0 hc0; have HB := aM (Below.refl w.heap.size w); unfold spec_l1Rising.f at h; have H := h; clear h; obtain ⟨y127, hy127⟩ : ∃ y_ : List ByteArray, y_ = (([] : List ByteArray)) := ⟨_, rfl⟩; have hy_ := hy127; replace H : (spec_l1Rising.l0 k l0 y127 0) = some r := hyE; clear hy_; have Ny127 := aM hy127; clear hy127; have H' := aM H; clear H; go_enter Tryd.func20, Tryd.ntmps20
 go_wp2_with (first | ((with_reducible refine gD 6 rfl ?_); refine Kd.R_lit Kd.string _ 9 ?hg (N := 6) ?hd (xs := ([] : List ByteArray)) (inner := []) (ok := fun _ => True) (okp := fun _ => True) ?hr ?hp (fun _ hk => hk) trivial (Below.refl _ _) (Nat.le_refl _) (by simp) ?_; (case hd => rfl); (case hg => rfl); (case hr => exact zq5); (case hp => exact zq25); intro v128 w2 ho3 hb hg_ hnew_; clear hg_ hnew_; (first | rw [← Ny127.out] at ho3 | (simp only [Int.reduceToNat] at ho3; rw [← Ny127.out] at ho3)); have HO129 := aM (Kd.R_lower ho3 (below_size zq6)); replace HB := sB zq6 hb; clear hb ho3))
 repeat (go_quiet (first | ((with_reducible refine gD 6 rfl ?_); refine Kd.R_lit Kd.string _ 9 ?hg (N := 6) ?hd (xs := ([] : List ByteArray)) (inner := []) (ok := fun _ => True) (okp := fun _ => True) ?hr ?hp (fun _ hk => hk) trivial (Below.refl _ _) (Nat.le_refl _) (by simp) ?_; (case hd => rfl); (case hg => rfl); (case hr => exact zq5); (case hp => exact zq25); intro v128 w2 ho3 hb hg_ hnew_; clear hg_ hnew_; (first | rw [← Ny127.out] at ho3 | (simp only [Int.reduceToNat] at ho3; rw [← Ny127.out] at ho3)); have HO129 := aM (Kd.R_lower ho3 (below_size zq6)); replace HB := sB zq6 hb; clear hb ho3)); try go_wp2_with (first | ((with_reducible refine gD 6 rfl ?_); refine Kd.R_lit Kd.string _ 9 ?hg (N := 6) ?hd (xs := ([] : List ByteArray)) (inner := []) (ok := fun _ => True) (okp := fun _ => True) ?hr ?hp (fun _ hk => hk) trivial (Below.refl _ _) (Nat.le_refl _) (by simp) ?_; (case hd => rfl); (case hg => rfl); (case hr => exact zq5); (case hp => exact zq25); intro v128 w2 ho3 hb hg_ hnew_; clear hg_ hnew_; (first | rw [← Ny127.out] at ho3 | (simp only [Int.reduceToNat] at ho3; rw [← Ny127.out] at ho3)); have HO129 := aM (Kd.R_lower ho3 (below_size zq6)); replace HB := sB zq6 hb; clear hb ho3)))
 go_loopg [3, 4] k (fun kq v3 v4 w' => ∃ (x3_1 : List ByteArray) (x4_1 : Int), v4 = .int .i64 x4_1 ∧ Aside0 (spec_l1Rising.l0 kq l0 x3_1 x4_1 = some r) ∧ Aside0 (kq ≤ k) ∧ Aside0 (Kd.R Kd.string 9 w' w.heap.size (fun _ => True) v3 x3_1) ∧ Aside0 (Below w.heap.size w w'))
 case atStart => exact ⟨(y127), (0), zq1, H', ⟨Nat.le_refl _⟩, ⟨by refine dR ?_; exact HO129.out⟩, ⟨zq6⟩⟩
 case round =>
  clear H'; (try clear c2); (try clear p2); obtain ⟨x3_1, x4_1, rfl, HA, HK1, HO_3, HB⟩ := hrel
  cases gk with
  | zero => exact absurd HA.out (by simp [spec_l1Rising.l0])
  | succ k1 =>
   have H := HA.out; clear HA; simp only [spec_l1Rising.l0] at H; by_cases c4 : x4_1 < (l0.length : Int)
   ·
    rw [if_pos c4] at H; have c4b0 := decide_eq_true c4; clear c4; by_cases c5 : 0 ≤ x4_1
    ·
     rw [if_pos c5] at H; have c5b0 := decide_eq_true c5; clear c5; replace H := Option.bind_eq_some_iff.mp H; obtain ⟨t131, A60, H⟩ := H; (try dsimp only at H); have A6 := aM A60; clear A60; by_cases c7 : t131 = true
     ·
      subst c7; rw [if_pos rfl] at H; have H' := aM H; clear H; have p130 : 0 ≤ (x4_1 : Int) := of_decide_eq_true zq3; have q130 : x4_1 < (l0.length : Int) := of_decide_eq_true zq3; obtain ⟨ad130, e130, hx130_0⟩ := Kd.at_string HR0.out x4_1 p130 q130; cases e130; replace hx130_0 := hxB HB hx130_0; replace p130 := eq_true p130; replace q130 := eq_true q130; obtain ⟨Ao8, co8, eo8⟩ := Kd.R_slice HO_3.out; subst eo8
      go_wp2_with (first | (go_at_call 27; (with_reducible refine (spec_l1Has.calls k1 _ _ x3_1 (rdOf ByteArray.empty l0 x4_1) true _ ?side1 ?side2 A6.out).mono ?_); (case side1 => exact zq26); (case side2 => exact zq27); rintro e w' ⟨rfl, ⟨nd, rfl⟩⟩; (try first | exact ⟨rfl, _, World.drewN_drewN _ _ _⟩ | exact ⟨rfl, _, Eq.trans (World.drewN_drewN _ _ _) (congrArg (World.drewN _) (Nat.add_assoc _ _ _))⟩)))
      repeat (go_quiet (first | (go_at_call 27; (with_reducible refine (spec_l1Has.calls k1 _ _ x3_1 (rdOf ByteArray.empty l0 x4_1) true _ ?side1 ?side2 A6.out).mono ?_); (case side1 => exact zq26); (case side2 => exact zq27); rintro e w' ⟨rfl, ⟨nd, rfl⟩⟩; (try first | exact ⟨rfl, _, World.drewN_drewN _ _ _⟩ | exact ⟨rfl, _, Eq.trans (World.drewN_drewN _ _ _) (congrArg (World.drewN _) (Nat.add_assoc _ _ _))⟩))); try go_wp2_with (first | (go_at_call 27; (with_reducible refine (spec_l1Has.calls k1 _ _ x3_1 (rdOf ByteArray.empty l0 x4_1) true _ ?side1 ?side2 A6.out).mono ?_); (case side1 => exact zq26); (case side2 => exact zq27); rintro e w' ⟨rfl, ⟨nd, rfl⟩⟩; (try first | exact ⟨rfl, _, World.drewN_drewN _ _ _⟩ | exact ⟨rfl, _, Eq.trans (World.drewN_drewN _ _ _) (congrArg (World.drewN _) (Nat.add_assoc _ _ _))⟩))))
      go_roundg k1
      case measure => have := HK1.out; omega
      case rel => exact ⟨(x3_1), (wrap64 (x4_1 + 1)), zq1, H', ⟨zq4⟩, ⟨zq12⟩, ⟨zq6⟩⟩
     replace c7 := Bool.eq_false_iff.mpr c7; subst c7; rw [if_neg (show ¬ (false = true) by decide)] at H; by_cases c9 : x3_1.length < 8796093022208
     ·
      rw [if_pos c9] at H; have LMc9 := aM c9; clear c9; obtain ⟨y133, hy133⟩ : ∃ y_ : List ByteArray, y_ = (x3_1 ++ [rdOf ByteArray.empty l0 x4_1]) := ⟨_, rfl⟩; have hy_ := hy133; replace H : (spec_l1Rising.l1 k1 l0 y133 x4_1 (x3_1.length : Int)) = some r := hyE; clear hy_; have Ny133 := aM hy133; clear hy133; have H' := aM H; clear H; have p130 : 0 ≤ (x4_1 : Int) := of_decide_eq_true zq3; have q130 : x4_1 < (l0.length : Int) := of_decide_eq_true zq3; obtain ⟨ad130, e130, hx130_0⟩ := Kd.at_string HR0.out x4_1 p130 q130; cases e130; replace hx130_0 := hxB HB hx130_0; replace p130 := eq_true p130; replace q130 := eq_true q130; obtain ⟨Ao10, co10, eo10⟩ := Kd.R_slice HO_3.out; subst eo10
      go_wp2_with (first | (go_at_call 27; (with_reducible refine (spec_l1Has.calls k1 _ _ x3_1 (rdOf ByteArray.empty l0 x4_1) false _ ?_ ?_ A6.out).mono ?_); exact zq26; exact zq27; rintro e w' ⟨rfl, ⟨nd, rfl⟩⟩; (try first | exact ⟨rfl, _, World.drewN_drewN _ _ _⟩ | exact ⟨rfl, _, Eq.trans (World.drewN_drewN _ _ _) (congrArg (World.drewN _) (Nat.add_assoc _ _ _))⟩); have p132 : 0 ≤ (x4_1 : Int) := of_decide_eq_true zq3; have q132 : x4_1 < (l0.length : Int) := of_decide_eq_true zq3; obtain ⟨ad132, e132, hx132_0⟩ := Kd.at_string HR0.out x4_1 p132 q132; obtain rfl : ad130 = ad132 := (by injection e132); replace hx132_0 := hxB HB hx132_0; replace p132 := eq_true p132; replace q132 := eq_true q132) | ((with_reducible refine gate_builtin (b := .append) (xs := #[.tmp 21, .tmp 26]) rfl ?_); at_builtin; refine Kd.R_append Kd.string (w0 := w) w.heap.size rfl (.tmp 21) (.tmp 26) 22 9 (.string ⟨#[]⟩) 16 rfl Tryd.underlying22 info9 rfl (by decide) (by omega) (.slice Ao10 x3_1.length co10) x3_1 (rdOf ByteArray.empty l0 x4_1) [.string (rdOf ByteArray.empty l0 x4_1)] (fun _ => True) (fun _ => False) rfl rfl ?aP (fun _ hk => hk.elim) ?aF ?aO ?aB ?aS ?aL ?_; (case aP => exact rfl); (case aB => exact zq6); (case aF => exact zq28); (case aO => exact zq12); (case aS => exact (below_size zq6)); (case aL => have := LMc9.out; omega); intro v134 w11 ho hb hg hat; rw [← Ny133.out] at ho; have n0_ := aM (hb); have n1_ := aM (ho); clear HB; clear HO_3; have HB := n0_; have HO135 := n1_; clear n0_ n1_; clear ho hb hg hat))
      repeat (go_quiet (first | (go_at_call 27; (with_reducible refine (spec_l1Has.calls k1 _ _ x3_1 (rdOf ByteArray.empty l0 x4_1) false _ ?_ ?_ A6.out).mono ?_); exact zq26; exact zq27; rintro e w' ⟨rfl, ⟨nd, rfl⟩⟩; (try first | exact ⟨rfl, _, World.drewN_drewN _ _ _⟩ | exact ⟨rfl, _, Eq.trans (World.drewN_drewN _ _ _) (congrArg (World.drewN _) (Nat.add_assoc _ _ _))⟩); have p132 : 0 ≤ (x4_1 : Int) := of_decide_eq_true zq3; have q132 : x4_1 < (l0.length : Int) := of_decide_eq_true zq3; obtain ⟨ad132, e132, hx132_0⟩ := Kd.at_string HR0.out x4_1 p132 q132; obtain rfl : ad130 = ad132 := (by injection e132); replace hx132_0 := hxB HB hx132_0; replace p132 := eq_true p132; replace q132 := eq_true q132) | ((with_reducible refine gate_builtin (b := .append) (xs := #[.tmp 21, .tmp 26]) rfl ?_); at_builtin; refine Kd.R_append Kd.string (w0 := w) w.heap.size rfl (.tmp 21) (.tmp 26) 22 9 (.string ⟨#[]⟩) 16 rfl Tryd.underlying22 info9 rfl (by decide) (by omega) (.slice Ao10 x3_1.length co10) x3_1 (rdOf ByteArray.empty l0 x4_1) [.string (rdOf ByteArray.empty l0 x4_1)] (fun _ => True) (fun _ => False) rfl rfl ?aP (fun _ hk => hk.elim) ?aF ?aO ?aB ?aS ?aL ?_; (case aP => exact rfl); (case aB => exact zq6); (case aF => exact zq28); (case aO => exact zq12); (case aS => exact (below_size zq6)); (case aL => have := LMc9.out; omega); intro v134 w11 ho hb hg hat; rw [← Ny133.out] at ho; have n0_ := aM (hb); have n1_ := aM (ho); clear HB; clear HO_3; have HB := n0_; have HO135 := n1_; clear n0_ n1_; clear ho hb hg hat)); try go_wp2_with (first | (go_at_call 27; (with_reducible refine (spec_l1Has.calls k1 _ _ x3_1 (rdOf ByteArray.empty l0 x4_1) false _ ?_ ?_ A6.out).mono ?_); exact zq26; exact zq27; rintro e w' ⟨rfl, ⟨nd, rfl⟩⟩; (try first | exact ⟨rfl, _, World.drewN_drewN _ _ _⟩ | exact ⟨rfl, _, Eq.trans (World.drewN_drewN _ _ _) (congrArg (World.drewN _) (Nat.add_assoc _ _ _))⟩); have p132 : 0 ≤ (x4_1 : Int) := of_decide_eq_true zq3; have q132 : x4_1 < (l0.length : Int) := of_decide_eq_true zq3; obtain ⟨ad132, e132, hx132_0⟩ := Kd.at_string HR0.out x4_1 p132 q132; obtain rfl : ad130 = ad132 := (by injection e132); replace hx132_0 := hxB HB hx132_0; replace p132 := eq_true p132; replace q132 := eq_true q132) | ((with_reducible refine gate_builtin (b := .append) (xs := #[.tmp 21, .tmp 26]) rfl ?_); at_builtin; refine Kd.R_append Kd.string (w0 := w) w.heap.size rfl (.tmp 21) (.tmp 26) 22 9 (.string ⟨#[]⟩) 16 rfl Tryd.underlying22 info9 rfl (by decide) (by omega) (.slice Ao10 x3_1.length co10) x3_1 (rdOf ByteArray.empty l0 x4_1) [.string (rdOf ByteArray.empty l0 x4_1)] (fun _ => True) (fun _ => False) rfl rfl ?aP (fun _ hk => hk.elim) ?aF ?aO ?aB ?aS ?aL ?_; (case aP => exact rfl); (case aB => exact zq6); (case aF => exact zq28); (case aO => exact zq12); (case aS => exact (below_size zq6)); (case aL => have := LMc9.out; omega); intro v134 w11 ho hb hg hat; rw [← Ny133.out] at ho; have n0_ := aM (hb); have n1_ := aM (ho); clear HB; clear HO_3; have HB := n0_; have HO135 := n1_; clear n0_ n1_; clear ho hb hg hat)))
      go_loopg [5] k1 (fun kq v5 w' => ∃ (x3_2 : List ByteArray) (x5_2 : Int), v5 = .int .i64 x5_2 ∧ Aside0 (spec_l1Rising.l1 kq l0 x3_2 x4_1 x5_2 = some r) ∧ Aside0 (kq ≤ k1) ∧ Aside0 (Kd.R Kd.string 9 w' w.heap.size (fun _ => True) v134 x3_2) ∧ Aside0 (Below w.heap.size w w'))
      case atStart => exact ⟨(y133), ((x3_1.length : Int)), zq1, H', ⟨Nat.le_refl _⟩, ⟨by refine dR ?_; exact HO135.out⟩, ⟨zq6⟩⟩
      case round =>
       clear H'; (try clear p1); (try clear q1); (try clear hx1); (try clear c2); (try clear p2); (try clear c4); (try clear c4b0); (try clear c5); (try clear c5b0); (try clear p6); (try clear c7); (try clear c9); (try clear hx130_0); (try clear hx132_0); (try clear p130); (try clear p132); (try clear p2); (try clear q130); (try clear q132); obtain ⟨x3_2, x5_2, rfl, HA, HK2, HO_3, HB⟩ := hrel
       cases gk with
       | zero => exact absurd HA.out (by simp [spec_l1Rising.l1])
       | succ k2 =>
        have H := HA.out; clear HA; simp only [spec_l1Rising.l1] at H; by_cases c12 : x5_2 > 0
        ·
         rw [if_pos c12] at H; have c12b0 : decide (0 < x5_2) = true := decide_eq_true c12; clear c12; obtain ⟨ji13, hji13⟩ : ∃ j_ : Int, (wrap64 (x5_2 - 1)) = j_ := ⟨_, rfl⟩; replace H : (if 0 ≤ (ji13) then (if (ji13) < (x3_2.length : Int) then (if 0 ≤ x4_1 then (if x4_1 < (l0.length : Int) then (if (Op.bytesLess ((rdOf ByteArray.empty l0 x4_1).toList) ((rdOf ByteArray.empty x3_2 (ji13)).toList)) = true then (if 0 ≤ x5_2 then (if x5_2 < (x3_2.length : Int) then (spec_l1Rising.l1 k2 l0 (x3_2.set (x5_2 : Int).toNat (rdOf ByteArray.empty x3_2 (ji13))) x4_1 ji13) else (none)) else (none)) else (if 0 ≤ x5_2 then (if x5_2 < (x3_2.length : Int) then (spec_l1Rising.l0 k2 l0 (x3_2.set (x5_2 : Int).toNat (rdOf ByteArray.empty l0 x4_1)) (wrap64 (x4_1 + 1))) else (none)) else (none))) else (none)) else (none)) else (none)) else (none)) = some r := by first | (rw [hji13] at H; exact H) | (simp only [hji13] at H ⊢; exact H)
         have hji13w : (IntKind.i64.wrap (x5_2 - 1)) = ji13 := (i64_w _).trans hji13; by_cases c14 : 0 ≤ (ji13)
         ·
          rw [if_pos c14] at H; have c14b0 := decide_eq_true c14; clear c14; by_cases c15 : (ji13) < (x3_2.length : Int)
          ·
           rw [if_pos c15] at H; have c15b0 := decide_eq_true c15; clear c15; by_cases c16 : 0 ≤ x4_1
           ·
            rw [if_pos c16] at H; have c16b0 := decide_eq_true c16; clear c16; by_cases c17 : x4_1 < (l0.length : Int)
            ·
             rw [if_pos c17] at H; have c17b0 := decide_eq_true c17; clear c17; by_cases c18 : (Op.bytesLess ((rdOf ByteArray.empty l0 x4_1).toList) ((rdOf ByteArray.empty x3_2 (ji13)).toList)) = true
             ·
              rw [if_pos c18] at H; have c18b0 : (Op.bytesLess ((rdOf ByteArray.empty l0 x4_1).toList) ((rdOf ByteArray.empty x3_2 (ji13)).toList)) = true := c18; clear c18; by_cases c19 : 0 ≤ x5_2
              ·
               rw [if_pos c19] at H; have c19b0 := decide_eq_true c19; clear c19; by_cases c20 : x5_2 < (x3_2.length : Int)
               ·
                rw [if_pos c20] at H; have c20b0 := decide_eq_true c20; clear c20; obtain ⟨y139, hy139⟩ : ∃ y_ : List ByteArray, y_ = (x3_2.set (x5_2 : Int).toNat (rdOf ByteArray.empty x3_2 (ji13))) := ⟨_, rfl⟩; have hy_ := hy139; replace H : (spec_l1Rising.l1 k2 l0 y139 x4_1 ji13) = some r := hyE; clear hy_; have Ny139 := aM hy139; clear hy139; have H' := aM H; clear H; obtain ⟨Ao22, co22, eo22⟩ := Kd.R_slice HO_3.out; subst eo22; have p136 : 0 ≤ ((ji13) : Int) := of_decide_eq_true zq3; have q136 : (ji13) < (x3_2.length : Int) := of_decide_eq_true zq3; obtain ⟨ad136, e136, hx136_0⟩ := Kd.at_string (Kd.R_reads' HO_3.out).2.2 (ji13) p136 q136; cases e136; replace p136 := eq_true p136; replace q136 := eq_true q136; have p137 : 0 ≤ (x4_1 : Int) := of_decide_eq_true zq3; have q137 : x4_1 < (l0.length : Int) := of_decide_eq_true zq3; obtain ⟨ad137, e137, hx137_0⟩ := Kd.at_string HR0.out x4_1 p137 q137; obtain rfl : ad130 = ad137 := (by injection e137); replace hx137_0 := hxB HB hx137_0; replace p137 := eq_true p137; replace q137 := eq_true q137; have p138 : 0 ≤ ((ji13) : Int) := of_decide_eq_true zq3; have q138 : (ji13) < (x3_2.length : Int) := of_decide_eq_true zq3; obtain ⟨ad138, e138, hx138_0⟩ := Kd.at_string (Kd.R_reads' HO_3.out).2.2 (ji13) p138 q138; obtain rfl : ad136 = ad138 := (by injection e138); replace p138 := eq_true p138; replace q138 := eq_true q138; have p21 : 0 ≤ (x5_2 : Int) := of_decide_eq_true zq3
                have q21 : (x5_2 : Int) < ((x3_2.length : Int) : Int) := of_decide_eq_true zq3; obtain ⟨go21, co21, eo21, gb21, gl21, cl21, HG21⟩ := Kd.R_form HO_3.out (by omega)
                (first | cases eo21 | (injection eo21 with ea_ en_ ec_; (first | subst ea_ | (injection ea_ with ea_; subst ea_)); subst ec_; clear en_))
                have GB21 := aM gb21; have GG21 := aM HG21; clear gb21 gl21 HG21
                (first | simp only [add_plain] at hx136_0 | skip)
                (first | simp only [add_plain] at hx138_0 | skip)
                obtain ⟨hx21_0, hf21_0⟩ := Kd.R_celln (⟨#[]⟩ : ByteArray) HO_3.out (x5_2 : Int) p21 q21; replace p21 := eq_true p21; replace q21 := eq_true q21; have HP23 := Kd.R_putg HO_3.out (x5_2 : Int) (rdOf ByteArray.empty x3_2 (ji13))
                go_wp2_with (first | ((with_reducible refine gate_store (t := 9) (p := 49) rfl ?_); (try (rw [drewN_self wr]; generalize hq_ : World.drewN wr _ = wr; have n0_ := aM (Kd.R_at hq_ HO_3.out); have n1_ := aM (below_at hq_ HB.out); clear hq_ HO_3 HB; have HO_3 := n0_; have HB := n1_; clear n0_ n1_; (try (obtain ⟨hx21_0, hf21_0⟩ := Kd.R_celln (⟨#[]⟩ : ByteArray) HO_3.out (x5_2 : Int) (of_eq_true p21) (of_eq_true q21))); (try (have HP23 := Kd.R_putg HO_3.out (x5_2 : Int) (rdOf ByteArray.empty x3_2 (ji13)))))); refine store_event (t := 9) (p := 49) (v := ?vo_w24) (w1 := (wr.setCell ⟨go21, (x5_2 : Int).toNat, none⟩ (.string (rdOf ByteArray.empty x3_2 (ji13))))) ?hg ?ho ?hn ?hr ?_; (case ho => rfl); (case hg => rfl); (case hn => rfl); (case hr => exact zq5); intro w24 hw; have hg : wr.grownBy w24 (some go21) := (by rw [hw]; exact HP23.2); have hp_ : Kd.R Kd.string 9 w24 w.heap.size (fun _ => True) (.slice (some ⟨go21, 0, none⟩) x3_2.length co22) y139 := zq29; clear HP23; replace HO_3 := aM hp_; replace HB := aM (zq30 : Below w.heap.size w w24); clear hg hw hp_))
                repeat (go_quiet (first | ((with_reducible refine gate_store (t := 9) (p := 49) rfl ?_); (try (rw [drewN_self wr]; generalize hq_ : World.drewN wr _ = wr; have n0_ := aM (Kd.R_at hq_ HO_3.out); have n1_ := aM (below_at hq_ HB.out); clear hq_ HO_3 HB; have HO_3 := n0_; have HB := n1_; clear n0_ n1_; (try (obtain ⟨hx21_0, hf21_0⟩ := Kd.R_celln (⟨#[]⟩ : ByteArray) HO_3.out (x5_2 : Int) (of_eq_true p21) (of_eq_true q21))); (try (have HP23 := Kd.R_putg HO_3.out (x5_2 : Int) (rdOf ByteArray.empty x3_2 (ji13)))))); refine store_event (t := 9) (p := 49) (v := ?vo_w24) (w1 := (wr.setCell ⟨go21, (x5_2 : Int).toNat, none⟩ (.string (rdOf ByteArray.empty x3_2 (ji13))))) ?hg ?ho ?hn ?hr ?_; (case ho => rfl); (case hg => rfl); (case hn => rfl); (case hr => exact zq5); intro w24 hw; have hg : wr.grownBy w24 (some go21) := (by rw [hw]; exact HP23.2); have hp_ : Kd.R Kd.string 9 w24 w.heap.size (fun _ => True) (.slice (some ⟨go21, 0, none⟩) x3_2.length co22) y139 := zq29; clear HP23; replace HO_3 := aM hp_; replace HB := aM (zq30 : Below w.heap.size w w24); clear hg hw hp_)); try go_wp2_with (first | ((with_reducible refine gate_store (t := 9) (p := 49) rfl ?_); (try (rw [drewN_self wr]; generalize hq_ : World.drewN wr _ = wr; have n0_ := aM (Kd.R_at hq_ HO_3.out); have n1_ := aM (below_at hq_ HB.out); clear hq_ HO_3 HB; have HO_3 := n0_; have HB := n1_; clear n0_ n1_; (try (obtain ⟨hx21_0, hf21_0⟩ := Kd.R_celln (⟨#[]⟩ : ByteArray) HO_3.out (x5_2 : Int) (of_eq_true p21) (of_eq_true q21))); (try (have HP23 := Kd.R_putg HO_3.out (x5_2 : Int) (rdOf ByteArray.empty x3_2 (ji13)))))); refine store_event (t := 9) (p := 49) (v := ?vo_w24) (w1 := (wr.setCell ⟨go21, (x5_2 : Int).toNat, none⟩ (.string (rdOf ByteArray.empty x3_2 (ji13))))) ?hg ?ho ?hn ?hr ?_; (case ho => rfl); (case hg => rfl); (case hn => rfl); (case hr => exact zq5); intro w24 hw; have hg : wr.grownBy w24 (some go21) := (by rw [hw]; exact HP23.2); have hp_ : Kd.R Kd.string 9 w24 w.heap.size (fun _ => True) (.slice (some ⟨go21, 0, none⟩) x3_2.length co22) y139 := zq29; clear HP23; replace HO_3 := aM hp_; replace HB := aM (zq30 : Below w.heap.size w w24); clear hg hw hp_)))
                go_roundg k2
                case measure => have := HK1.out; have := HK2.out; omega
                case rel => exact ⟨(y139), (ji13), (by first | rfl | (simp; done) | (simp only [← hji13] <;> (first | rfl | simp)) | (simp [*]; done)), H', ⟨zq31⟩, ⟨zq12⟩, ⟨zq6⟩⟩
               rw [if_neg c20] at H; exact absurd H (by simp)
              rw [if_neg c19] at H; exact absurd H (by simp)
             rw [if_neg c18] at H; have c18b0 : (Op.bytesLess ((rdOf ByteArray.empty l0 x4_1).toList) ((rdOf ByteArray.empty x3_2 (ji13)).toList)) = false := by simpa using c18
             clear c18; by_cases c25 : 0 ≤ x5_2
             ·
              rw [if_pos c25] at H; have c25b0 := decide_eq_true c25; clear c25; by_cases c26 : x5_2 < (x3_2.length : Int)
              ·
               rw [if_pos c26] at H; have c26b0 := decide_eq_true c26; clear c26; obtain ⟨y141, hy141⟩ : ∃ y_ : List ByteArray, y_ = (x3_2.set (x5_2 : Int).toNat (rdOf ByteArray.empty l0 x4_1)) := ⟨_, rfl⟩; have hy_ := hy141; replace H : (spec_l1Rising.l0 k2 l0 y141 (wrap64 (x4_1 + 1))) = some r := hyE; clear hy_; have Ny141 := aM hy141; clear hy141; have H' := aM H; clear H; obtain ⟨Ao28, co28, eo28⟩ := Kd.R_slice HO_3.out; subst eo28; have p136 : 0 ≤ ((ji13) : Int) := of_decide_eq_true zq3; have q136 : (ji13) < (x3_2.length : Int) := of_decide_eq_true zq3; obtain ⟨ad136, e136, hx136_0⟩ := Kd.at_string (Kd.R_reads' HO_3.out).2.2 (ji13) p136 q136; cases e136; replace p136 := eq_true p136; replace q136 := eq_true q136; have p137 : 0 ≤ (x4_1 : Int) := of_decide_eq_true zq3; have q137 : x4_1 < (l0.length : Int) := of_decide_eq_true zq3; obtain ⟨ad137, e137, hx137_0⟩ := Kd.at_string HR0.out x4_1 p137 q137; obtain rfl : ad130 = ad137 := (by injection e137); replace hx137_0 := hxB HB hx137_0; replace p137 := eq_true p137; replace q137 := eq_true q137; have p140 : 0 ≤ (x4_1 : Int) := of_decide_eq_true zq3; have q140 : x4_1 < (l0.length : Int) := of_decide_eq_true zq3; obtain ⟨ad140, e140, hx140_0⟩ := Kd.at_string HR0.out x4_1 p140 q140; obtain rfl : ad130 = ad140 := (by injection e140); replace hx140_0 := hxB HB hx140_0; replace p140 := eq_true p140
               replace q140 := eq_true q140; have p27 : 0 ≤ (x5_2 : Int) := of_decide_eq_true zq3; have q27 : (x5_2 : Int) < ((x3_2.length : Int) : Int) := of_decide_eq_true zq3; obtain ⟨go27, co27, eo27, gb27, gl27, cl27, HG27⟩ := Kd.R_form HO_3.out (by omega)
               (first | cases eo27 | (injection eo27 with ea_ en_ ec_; (first | subst ea_ | (injection ea_ with ea_; subst ea_)); subst ec_; clear en_))
               have GB27 := aM gb27; have GG27 := aM HG27; clear gb27 gl27 HG27
               (first | simp only [add_plain] at hx136_0 | skip)
               obtain ⟨hx27_0, hf27_0⟩ := Kd.R_celln (⟨#[]⟩ : ByteArray) HO_3.out (x5_2 : Int) p27 q27; replace p27 := eq_true p27; replace q27 := eq_true q27; have HP29 := Kd.R_putg HO_3.out (x5_2 : Int) (rdOf ByteArray.empty l0 x4_1)
               go_wp2_with (first | ((with_reducible refine gate_store (t := 9) (p := 58) rfl ?_); (try (rw [drewN_self wr]; generalize hq_ : World.drewN wr _ = wr; have n0_ := aM (Kd.R_at hq_ HO_3.out); have n1_ := aM (below_at hq_ HB.out); clear hq_ HO_3 HB; have HO_3 := n0_; have HB := n1_; clear n0_ n1_; (try (obtain ⟨hx27_0, hf27_0⟩ := Kd.R_celln (⟨#[]⟩ : ByteArray) HO_3.out (x5_2 : Int) (of_eq_true p27) (of_eq_true q27))); (try (have HP29 := Kd.R_putg HO_3.out (x5_2 : Int) (rdOf ByteArray.empty l0 x4_1))))); refine store_event (t := 9) (p := 58) (v := ?vo_w30) (w1 := (wr.setCell ⟨go27, (x5_2 : Int).toNat, none⟩ (.string (rdOf ByteArray.empty l0 x4_1)))) ?hg ?ho ?hn ?hr ?_; (case ho => rfl); (case hg => rfl); (case hn => rfl); (case hr => exact zq5); intro w30 hw; have hg : wr.grownBy w30 (some go27) := (by rw [hw]; exact HP29.2); have hp_ : Kd.R Kd.string 9 w30 w.heap.size (fun _ => True) (.slice (some ⟨go27, 0, none⟩) x3_2.length co28) y141 := zq32; clear HP29; replace HO_3 := aM hp_; replace HB := aM (zq33 : Below w.heap.size w w30); clear hg hw hp_))
               repeat (go_quiet (first | ((with_reducible refine gate_store (t := 9) (p := 58) rfl ?_); (try (rw [drewN_self wr]; generalize hq_ : World.drewN wr _ = wr; have n0_ := aM (Kd.R_at hq_ HO_3.out); have n1_ := aM (below_at hq_ HB.out); clear hq_ HO_3 HB; have HO_3 := n0_; have HB := n1_; clear n0_ n1_; (try (obtain ⟨hx27_0, hf27_0⟩ := Kd.R_celln (⟨#[]⟩ : ByteArray) HO_3.out (x5_2 : Int) (of_eq_true p27) (of_eq_true q27))); (try (have HP29 := Kd.R_putg HO_3.out (x5_2 : Int) (rdOf ByteArray.empty l0 x4_1))))); refine store_event (t := 9) (p := 58) (v := ?vo_w30) (w1 := (wr.setCell ⟨go27, (x5_2 : Int).toNat, none⟩ (.string (rdOf ByteArray.empty l0 x4_1)))) ?hg ?ho ?hn ?hr ?_; (case ho => rfl); (case hg => rfl); (case hn => rfl); (case hr => exact zq5); intro w30 hw; have hg : wr.grownBy w30 (some go27) := (by rw [hw]; exact HP29.2); have hp_ : Kd.R Kd.string 9 w30 w.heap.size (fun _ => True) (.slice (some ⟨go27, 0, none⟩) x3_2.length co28) y141 := zq32; clear HP29; replace HO_3 := aM hp_; replace HB := aM (zq33 : Below w.heap.size w w30); clear hg hw hp_)); try go_wp2_with (first | ((with_reducible refine gate_store (t := 9) (p := 58) rfl ?_); (try (rw [drewN_self wr]; generalize hq_ : World.drewN wr _ = wr; have n0_ := aM (Kd.R_at hq_ HO_3.out); have n1_ := aM (below_at hq_ HB.out); clear hq_ HO_3 HB; have HO_3 := n0_; have HB := n1_; clear n0_ n1_; (try (obtain ⟨hx27_0, hf27_0⟩ := Kd.R_celln (⟨#[]⟩ : ByteArray) HO_3.out (x5_2 : Int) (of_eq_true p27) (of_eq_true q27))); (try (have HP29 := Kd.R_putg HO_3.out (x5_2 : Int) (rdOf ByteArray.empty l0 x4_1))))); refine store_event (t := 9) (p := 58) (v := ?vo_w30) (w1 := (wr.setCell ⟨go27, (x5_2 : Int).toNat, none⟩ (.string (rdOf ByteArray.empty l0 x4_1)))) ?hg ?ho ?hn ?hr ?_; (case ho => rfl); (case hg => rfl); (case hn => rfl); (case hr => exact zq5); intro w30 hw; have hg : wr.grownBy w30 (some go27) := (by rw [hw]; exact HP29.2); have hp_ : Kd.R Kd.string 9 w30 w.heap.size (fun _ => True) (.slice (some ⟨go27, 0, none⟩) x3_2.length co28) y141 := zq32; clear HP29; replace HO_3 := aM hp_; replace HB := aM (zq33 : Below w.heap.size w w30); clear hg hw hp_)))
               go_roundg k2
               case measure => have := HK1.out; have := HK2.out; omega
               case rel => exact ⟨(y141), (wrap64 (x4_1 + 1)), zq1, H', ⟨zq31⟩, ⟨zq12⟩, ⟨zq6⟩⟩
              rw [if_neg c26] at H; exact absurd H (by simp)
             rw [if_neg c25] at H; exact absurd H (by simp)
            rw [if_neg c17] at H; exact absurd H (by simp)
           rw [if_neg c16] at H; exact absurd H (by simp)
          rw [if_neg c15] at H; exact absurd H (by simp)
         rw [if_neg c14] at H; exact absurd H (by simp)
        rw [if_neg c12] at H; have c12b0 : decide (0 < x5_2) = false := decide_eq_false c12; clear c12; by_cases c31 : 0 ≤ x4_1
        ·
         rw [if_pos c31] at H; have c31b0 := decide_eq_true c31; clear c31; by_cases c32 : x4_1 < (l0.length : Int)
         ·
          rw [if_pos c32] at H; have c32b0 := decide_eq_true c32; clear c32; by_cases c33 : 0 ≤ x5_2
          ·
           rw [if_pos c33] at H; have c33b0 := decide_eq_true c33; clear c33; by_cases c34 : x5_2 < (x3_2.length : Int)
           ·
            rw [if_pos c34] at H; have c34b0 := decide_eq_true c34; clear c34; obtain ⟨y143, hy143⟩ : ∃ y_ : List ByteArray, y_ = (x3_2.set (x5_2 : Int).toNat (rdOf ByteArray.empty l0 x4_1)) := ⟨_, rfl⟩; have hy_ := hy143; replace H : (spec_l1Rising.l0 k2 l0 y143 (wrap64 (x4_1 + 1))) = some r := hyE; clear hy_; have Ny143 := aM hy143; clear hy143; have H' := aM H; clear H; have p142 : 0 ≤ (x4_1 : Int) := of_decide_eq_true zq3; have q142 : x4_1 < (l0.length : Int) := of_decide_eq_true zq3; obtain ⟨ad142, e142, hx142_0⟩ := Kd.at_string HR0.out x4_1 p142 q142; obtain rfl : ad130 = ad142 := (by injection e142); replace hx142_0 := hxB HB hx142_0; replace p142 := eq_true p142; replace q142 := eq_true q142; have p35 : 0 ≤ (x5_2 : Int) := of_decide_eq_true zq3; have q35 : (x5_2 : Int) < ((x3_2.length : Int) : Int) := of_decide_eq_true zq3; obtain ⟨go35, co35, eo35, gb35, gl35, cl35, HG35⟩ := Kd.R_form HO_3.out (by omega)
            (first | cases eo35 | (injection eo35 with ea_ en_ ec_; (first | subst ea_ | (injection ea_ with ea_; subst ea_)); subst ec_; clear en_))
            have GB35 := aM gb35; have GG35 := aM HG35; clear gb35 gl35 HG35; obtain ⟨hx35_0, hf35_0⟩ := Kd.R_celln (⟨#[]⟩ : ByteArray) HO_3.out (x5_2 : Int) p35 q35; replace p35 := eq_true p35; replace q35 := eq_true q35; have HP36 := Kd.R_putg HO_3.out (x5_2 : Int) (rdOf ByteArray.empty l0 x4_1)
            go_wp2_with (first | ((with_reducible refine gate_store (t := 9) (p := 58) rfl ?_); (try (rw [drewN_self wr]; generalize hq_ : World.drewN wr _ = wr; have n0_ := aM (Kd.R_at hq_ HO_3.out); have n1_ := aM (below_at hq_ HB.out); clear hq_ HO_3 HB; have HO_3 := n0_; have HB := n1_; clear n0_ n1_; (try (obtain ⟨hx35_0, hf35_0⟩ := Kd.R_celln (⟨#[]⟩ : ByteArray) HO_3.out (x5_2 : Int) (of_eq_true p35) (of_eq_true q35))); (try (have HP36 := Kd.R_putg HO_3.out (x5_2 : Int) (rdOf ByteArray.empty l0 x4_1))))); refine store_event (t := 9) (p := 58) (v := ?vo_w37) (w1 := (wr.setCell ⟨go35, (x5_2 : Int).toNat, none⟩ (.string (rdOf ByteArray.empty l0 x4_1)))) ?hg ?ho ?hn ?hr ?_; (case ho => rfl); (case hg => rfl); (case hn => rfl); (case hr => exact zq5); intro w37 hw; have hg : wr.grownBy w37 (some go35) := (by rw [hw]; exact HP36.2); have hp_ : Kd.R Kd.string 9 w37 w.heap.size (fun _ => True) (.slice (some ⟨go35, 0, none⟩) x3_2.length co35) y143 := zq34; clear HP36; replace HO_3 := aM hp_; replace HB := aM (zq35 : Below w.heap.size w w37); clear hg hw hp_))
            repeat (go_quiet (first | ((with_reducible refine gate_store (t := 9) (p := 58) rfl ?_); (try (rw [drewN_self wr]; generalize hq_ : World.drewN wr _ = wr; have n0_ := aM (Kd.R_at hq_ HO_3.out); have n1_ := aM (below_at hq_ HB.out); clear hq_ HO_3 HB; have HO_3 := n0_; have HB := n1_; clear n0_ n1_; (try (obtain ⟨hx35_0, hf35_0⟩ := Kd.R_celln (⟨#[]⟩ : ByteArray) HO_3.out (x5_2 : Int) (of_eq_true p35) (of_eq_true q35))); (try (have HP36 := Kd.R_putg HO_3.out (x5_2 : Int) (rdOf ByteArray.empty l0 x4_1))))); refine store_event (t := 9) (p := 58) (v := ?vo_w37) (w1 := (wr.setCell ⟨go35, (x5_2 : Int).toNat, none⟩ (.string (rdOf ByteArray.empty l0 x4_1)))) ?hg ?ho ?hn ?hr ?_; (case ho => rfl); (case hg => rfl); (case hn => rfl); (case hr => exact zq5); intro w37 hw; have hg : wr.grownBy w37 (some go35) := (by rw [hw]; exact HP36.2); have hp_ : Kd.R Kd.string 9 w37 w.heap.size (fun _ => True) (.slice (some ⟨go35, 0, none⟩) x3_2.length co35) y143 := zq34; clear HP36; replace HO_3 := aM hp_; replace HB := aM (zq35 : Below w.heap.size w w37); clear hg hw hp_)); try go_wp2_with (first | ((with_reducible refine gate_store (t := 9) (p := 58) rfl ?_); (try (rw [drewN_self wr]; generalize hq_ : World.drewN wr _ = wr; have n0_ := aM (Kd.R_at hq_ HO_3.out); have n1_ := aM (below_at hq_ HB.out); clear hq_ HO_3 HB; have HO_3 := n0_; have HB := n1_; clear n0_ n1_; (try (obtain ⟨hx35_0, hf35_0⟩ := Kd.R_celln (⟨#[]⟩ : ByteArray) HO_3.out (x5_2 : Int) (of_eq_true p35) (of_eq_true q35))); (try (have HP36 := Kd.R_putg HO_3.out (x5_2 : Int) (rdOf ByteArray.empty l0 x4_1))))); refine store_event (t := 9) (p := 58) (v := ?vo_w37) (w1 := (wr.setCell ⟨go35, (x5_2 : Int).toNat, none⟩ (.string (rdOf ByteArray.empty l0 x4_1)))) ?hg ?ho ?hn ?hr ?_; (case ho => rfl); (case hg => rfl); (case hn => rfl); (case hr => exact zq5); intro w37 hw; have hg : wr.grownBy w37 (some go35) := (by rw [hw]; exact HP36.2); have hp_ : Kd.R Kd.string 9 w37 w.heap.size (fun _ => True) (.slice (some ⟨go35, 0, none⟩) x3_2.length co35) y143 := zq34; clear HP36; replace HO_3 := aM hp_; replace HB := aM (zq35 : Below w.heap.size w w37); clear hg hw hp_)))
            go_roundg k2
            case measure => have := HK1.out; have := HK2.out; omega
            case rel => exact ⟨(y143), (wrap64 (x4_1 + 1)), zq1, H', ⟨zq31⟩, ⟨zq12⟩, ⟨zq6⟩⟩
           rw [if_neg c34] at H; exact absurd H (by simp)
          rw [if_neg c33] at H; exact absurd H (by simp)
         rw [if_neg c32] at H; exact absurd H (by simp)
        rw [if_neg c31] at H; exact absurd H (by simp)
     rw [if_neg c9] at H; exact absurd H (by simp)
    exact zq116
   rw [if_neg c4] at H; have c4b0 := decide_eq_false c4; clear c4; obtain rfl := Option.some.inj H; go_wp2
   repeat (go_quiet (fail); try go_wp2)
   go_ret; exact ⟨_, zq7, zq12, zq6⟩

/-! ### spec_BlobsOf: function 10 -/
def spec_BlobsOf.f (k : Nat) (a0_0 : ByteArray) (l0_1 : List ByteArray) : Option (List ByteArray) := (spec_l3Manifest.f k a0_0 l0_1).bind fun t145 => (if t145 = true then ((some (([a0_0] : List ByteArray) : List ByteArray)).bind fun y146 => (if y146.length + l0_1.length < 8796093022208 then ((spec_l1Rising.f k (y146 ++ l0_1)).bind fun t152 => (some t152)) else (none))) else (some (([] : List ByteArray))))
theorem spec_BlobsOf.mono : ∀ a0 a1 k, LeO (spec_BlobsOf.f k a0 a1) (spec_BlobsOf.f (k + 1) a0 a1) := by
 intro a0 a1 k; unfold spec_BlobsOf.f
 repeat' first
   | (with_reducible apply spec_l1Rising.mono)
   | (with_reducible apply spec_l3Manifest.mono)
   | (with_reducible exact LeO.refl _)
   | (with_reducible exact LeO.none _)
   | (with_reducible refine LeO.ite ?_ ?_)
   | (with_reducible refine LeO.bind ?_ (fun _ => ?_))
   | exact LeO.none _
   | refine LeO.ite ?_ ?_
   | refine LeO.bind ?_ (fun _ => ?_)
set_option maxHeartbeats 8000000 in
set_option maxRecDepth 100000 in
theorem spec_BlobsOf.calls (k : Nat) (a0_0 : ByteArray) (A0_1 : Option Addr) (c0_1 : Nat) (l0_1 : List ByteArray) (r : List ByteArray) (w : World) (hr0_1 : Kd.C Kd.string w A0_1 l0_1.length l0_1) (hc0_1 : l0_1.length ≤ c0_1) (h : spec_BlobsOf.f k a0_0 l0_1 = some r) :
  Calls Tryd.prog 10 #[.agg #[.string a0_0, .slice A0_1 l0_1.length c0_1]] w fun e w' => ∃ v0_ : Value, e = .returned (v0_) ∧ Kd.R Kd.string 9 w' w.heap.size (fun _ => True) v0_ r ∧ Below w.heap.size w w' := by
 have hu27 := Tryd.underlying27; have HR0_1 := aM hr0_1; have HC0_1 := aM hc0_1; clear hr0_1 hc0_1; have HB := aM (Below.refl w.heap.size w); unfold spec_BlobsOf.f at h; have H := h; clear h; replace H := Option.bind_eq_some_iff.mp H; obtain ⟨t145, A20, H⟩ := H; (try dsimp only at H); have A2 := aM A20; clear A20; by_cases c3 : t145 = true
 ·
  subst c3; rw [if_pos rfl] at H; obtain ⟨y146, hy146⟩ : ∃ y_ : List ByteArray, y_ = (([a0_0] : List ByteArray)) := ⟨_, rfl⟩; have hy_ := hy146; replace H : (if y146.length + l0_1.length < 8796093022208 then ((spec_l1Rising.f k (y146 ++ l0_1)).bind fun t152 => (some t152)) else (none)) = some r := hyE; clear hy_; have Ny146 := aM hy146; clear hy146; by_cases c4 : y146.length + l0_1.length < 8796093022208
  ·
   rw [if_pos c4] at H; have LMc4 := aM c4; clear c4; obtain ⟨y149, hy149⟩ : ∃ y_ : List ByteArray, y_ = (y146 ++ l0_1) := ⟨_, rfl⟩; have hy_ := hy149; replace H : ((spec_l1Rising.f k y149).bind fun t152 => (some t152)) = some r := hyE; clear hy_; have Ny149 := aM hy149; clear hy149; replace H := Option.bind_eq_some_iff.mp H; obtain ⟨t152, A50, H⟩ := H; replace H : (some t152) = some r := H; have A5 := aM A50; clear A50; obtain rfl := Option.some.inj H; go_enter Tryd.func10, Tryd.ntmps10
   go_wp2_with (first | ((with_reducible refine gD 1 rfl ?_); refine bE 1 #[.string a0_0, .slice A0_1 l0_1.length c0_1] 27 ?_; intro gb144 hg w6 hbox hb; have BK144 := aM hbox; have GW144 := aM (zq107 : w.heap.size ≤ gb144); have GE144 := GW144; replace HB := sB zq6 hb; clear hb hbox hg; obtain ⟨hcz7_0, hcz7_1, hfz7_0, hfz7_1⟩ := cells2_ (w := w6) BK144) | ((with_reducible refine gC 17 rfl ?_); refine gL 4 Tryd.func17 #[.agg #[.string a0_0, .slice A0_1 l0_1.length c0_1]] ?_; (with_reducible refine (spec_l3Manifest.calls k a0_0 _ _ l0_1 true _ ?_ ?_ A2.out).mono ?_); exact zq10; exact zq11; rintro e w8 ⟨rfl, hb⟩; refine ⟨_, rfl, ?_⟩; replace BK144 := bG BK144 hb; replace HB := sB zq37 hb; clear hb; obtain ⟨hcz9_0, hcz9_1, hfz9_0, hfz9_1⟩ := cells2_ (w := w8) BK144) | ((with_reducible refine gD 9 rfl ?_); refine Kd.R_lit Kd.string _ 9 ?hg (N := 9) ?hd (xs := ([a0_0] : List ByteArray)) (inner := [.string a0_0]) (ok := fun _ => True) (okp := fun _ => True) ?hr ?hp (fun _ hk => hk) trivial (Below.refl _ _) (Nat.le_refl _) (by simp) ?_; (case hd => rfl); (case hg => rfl); (case hr => exact zq5); (case hp => exact zq38); intro v147 w10 ho11 hb hg_ hnew_; clear hg_ hnew_; (first | rw [← Ny146.out] at ho11 | (simp only [Int.reduceToNat] at ho11; rw [← Ny146.out] at ho11)); have HO148 := aM (Kd.R_lower ho11 (below_size zq37)); replace BK144 := bG BK144 hb; replace HB := sB zq37 hb; clear hb ho11; obtain ⟨hcz12_0, hcz12_1, hfz12_0, hfz12_1⟩ := cells2_ (w := w10) BK144) | ((with_reducible refine gate_builtin (b := .append) (xs := #[.tmp 9, .tmp 11]) rfl ?_); at_builtin; refine Kd.R_append_rows Kd.string (w0 := w) w.heap.size rfl (.tmp 9) (.tmp 11) 22 9 (.string ⟨#[]⟩) 16 rfl Tryd.underlying22 info9 rfl (by decide) (by omega) v147 y146 l0_1 _ _ _ (fun _ => True) (fun _ => False) rfl rfl ?aO ?aR (fun _ _ h => h) (fun _ h => h.elim) ?aF ?aB ?aS ?aL ?_; (case aR => exact zq10); (case aB => exact zq37); (case aF => exact zq28); (case aO => exact (by refine dR ?_; exact HO148.out)); (case aS => exact (below_size zq37)); (case aL => have := LMc4.out; omega); intro v150 w13 ho hb hg hat; rw [← Ny149.out] at ho; have n0_ := aM (blk_grown (g := gb144) (o := .cells #[.string a0_0, .slice A0_1 l0_1.length c0_1] 27 (0, 0)) zq36 hg (Kd.R_ne HO148.out BK144.out (by decide))); have n1_ := aM (hb); have n2_ := aM (ho); clear BK144; clear HB; clear HO148; have BK144 := n0_; have HB := n1_; have HO151 := n2_; clear n0_ n1_ n2_; clear ho hb hg hat; obtain ⟨Ao14, co14, eo14⟩ := Kd.R_slice HO151.out; subst eo14) | ((with_reducible refine gC 20 rfl ?_); refine gL 13 Tryd.func20 #[.slice Ao14 y149.length co14] ?_; (with_reducible refine (spec_l1Rising.calls k _ _ y149 t152 _ ?side1 ?_ A5.out).mono ?_); (case side1 => repeat (first | exact (Kd.R_reads' HO151.out).2.2 | (with_reducible refine Kd.C_alloc ?_ _) | (with_reducible refine Kd.C_drewN ?_ _) | (with_reducible refine Kd.C_drew ?_))); exact (Kd.R_reads' HO151.out).2.1; rintro e w15 ⟨v153, rfl, ho0, hb⟩; refine ⟨_, rfl, ?_⟩; have HO154 := aM (Kd.R_lower (Kd.R_new' ho0 (Kd.R_lt zq39)) (below_size zq37)); replace HO151 := aM (Kd.R_elder' zq39 (Kd.R_base ho0) hb); replace BK144 := bG BK144 hb; replace HB := sB zq37 hb; clear hb; (try clear ho0)))
   go_ret; exact ⟨_, zq7, by refine dR ?_; exact Kd.R_mono HO154.out (fun _ hk => trivial), zq37⟩
  exact zq117
 replace c3 := Bool.eq_false_iff.mpr c3; subst c3; rw [if_neg (show ¬ (false = true) by decide)] at H; obtain ⟨y155, hy155⟩ : ∃ y_ : List ByteArray, y_ = (([] : List ByteArray)) := ⟨_, rfl⟩; have hy_ := hy155; replace H : (some y155) = some r := hyE; clear hy_; have Ny155 := aM hy155; clear hy155; obtain rfl := Option.some.inj H; go_enter Tryd.func10, Tryd.ntmps10
 go_wp2_with (first | ((with_reducible refine gD 1 rfl ?_); refine bE 1 #[.string a0_0, .slice A0_1 l0_1.length c0_1] 27 ?_; intro gb144 hg w16 hbox hb; have BK144 := aM hbox; have GW144 := aM (zq107 : w.heap.size ≤ gb144); have GE144 := GW144; replace HB := sB zq6 hb; clear hb hbox hg; obtain ⟨hcz17_0, hcz17_1, hfz17_0, hfz17_1⟩ := cells2_ (w := w16) BK144) | ((with_reducible refine gC 17 rfl ?_); refine gL 4 Tryd.func17 #[.agg #[.string a0_0, .slice A0_1 l0_1.length c0_1]] ?_; (with_reducible refine (spec_l3Manifest.calls k a0_0 _ _ l0_1 false _ ?_ ?_ A2.out).mono ?_); exact zq10; exact zq11; rintro e w18 ⟨rfl, hb⟩; refine ⟨_, rfl, ?_⟩; replace BK144 := bG BK144 hb; replace HB := sB zq37 hb; clear hb) | ((with_reducible refine gD 6 rfl ?_); refine Kd.R_lit Kd.string _ 9 ?hg (N := 6) ?hd (xs := ([] : List ByteArray)) (inner := []) (ok := fun _ => True) (okp := fun _ => True) ?hr ?hp (fun _ hk => hk) trivial (Below.refl _ _) (Nat.le_refl _) (by simp) ?_; (case hd => rfl); (case hg => rfl); (case hr => exact zq5); (case hp => exact zq25); intro v156 w19 ho20 hb hg_ hnew_; clear hg_ hnew_; (first | rw [← Ny155.out] at ho20 | (simp only [Int.reduceToNat] at ho20; rw [← Ny155.out] at ho20)); have HO157 := aM (Kd.R_lower ho20 (below_size zq37)); replace BK144 := bG BK144 hb; replace HB := sB zq37 hb; clear hb ho20))
 go_ret; exact ⟨_, zq7, by refine dR ?_; exact HO157.out, zq37⟩

/-! ### stringslite_HasPrefix: function 56 -/
def stringslite_HasPrefix.f (a0 : ByteArray) (a1 : ByteArray) : Option (Bool) := if (a0.size : Int) ≥ (a1.size : Int) then (if 0 ≤ (a1.size : Int) then (if (a1.size : Int) ≤ (a0.size : Int) then (some ((a0.extract 0 ((a1.size : Int) : Int).toNat).toList == a1.toList)) else (none)) else (none)) else (some false)
set_option maxHeartbeats 8000000 in
set_option maxRecDepth 100000 in
theorem stringslite_HasPrefix.calls (a0 : ByteArray) (a1 : ByteArray) (r : Bool) (w : World) (h : stringslite_HasPrefix.f a0 a1 = some r) :
  Calls Tryd.prog 56 #[.string a0, .string a1] w fun e w' => e = .returned (.bool r) ∧ Drawn0 w w' := by
 unfold stringslite_HasPrefix.f at h; have H := h; clear h; by_cases c3 : (a0.size : Int) ≥ (a1.size : Int)
 ·
  rw [if_pos c3] at H; have c3b0 : decide ((a1.size : Int) ≤ (a0.size : Int)) = true := decide_eq_true c3; have c3b1 : decide (a1.size ≤ a0.size) = true := decide_eq_true (Int.ofNat_le.mp c3); clear c3; by_cases c4 : 0 ≤ (a1.size : Int)
  ·
   rw [if_pos c4] at H; have c4b0 := eq_true c4; have c4b1 := decide_eq_true c4; clear c4; by_cases c5 : (a1.size : Int) ≤ (a0.size : Int)
   ·
    rw [if_pos c5] at H; have c5b0 := eq_true c5; have c5b1 := decide_eq_true c5; clear c5; obtain rfl := Option.some.inj H; go_enter Tryd.func56, Tryd.ntmps56; go_wp2; go_ret; exact ⟨zq1, zq2⟩
   exact zq116
  exact zq117
 rw [if_neg c3] at H; have c3b0 : decide ((a1.size : Int) ≤ (a0.size : Int)) = false := decide_eq_false c3; have c3b1 : decide (a1.size ≤ a0.size) = false := decide_eq_false (fun h => c3 (Int.ofNat_le.mpr h)); clear c3; obtain rfl := Option.some.inj H; go_enter Tryd.func56, Tryd.ntmps56; go_wp2; go_ret; exact ⟨zq1, zq2⟩

/-! ### stringslite_CutPrefix: function 37 -/
def stringslite_CutPrefix.f (a0 : ByteArray) (a1 : ByteArray) : Option (ByteArray × Bool) := (stringslite_HasPrefix.f a0 a1).bind fun t158 => (if t158 = true then (if 0 ≤ (a1.size : Int) then (if (a1.size : Int) ≤ (a0.size : Int) then (some (a0.extract ((a1.size : Int) : Int).toNat a0.size, true)) else (none)) else (none)) else (some (a0, false)))
set_option maxHeartbeats 8000000 in
set_option maxRecDepth 100000 in
theorem stringslite_CutPrefix.calls (a0 : ByteArray) (a1 : ByteArray) (r1 : ByteArray) (r2 : Bool) (w : World) (h : stringslite_CutPrefix.f a0 a1 = some (r1, r2)) :
  Calls Tryd.prog 37 #[.string a0, .string a1] w fun e w' => e = .returned (.tuple #[.string r1, .bool r2]) ∧ Drawn0 w w' := by
 unfold stringslite_CutPrefix.f at h; have H := h; clear h; replace H := Option.bind_eq_some_iff.mp H; obtain ⟨t158, A30, H⟩ := H; (try dsimp only at H); have A3 := aM A30; clear A30; by_cases c4 : t158 = true
 ·
  subst c4; rw [if_pos rfl] at H; by_cases c5 : 0 ≤ (a1.size : Int)
  ·
   rw [if_pos c5] at H; have c5b0 := eq_true c5; have c5b1 := decide_eq_true c5; clear c5; by_cases c6 : (a1.size : Int) ≤ (a0.size : Int)
   ·
    rw [if_pos c6] at H; have c6b0 := eq_true c6; have c6b1 := decide_eq_true c6; clear c6; simp only [Option.some.injEq, Prod.mk.injEq] at H; obtain ⟨rfl, rfl⟩ := H; go_enter Tryd.func37, Tryd.ntmps37
    go_wp2_with (first | ((with_reducible refine gC 56 rfl ?_); refine gL 8 Tryd.func56 #[.string a0, .string a1] ?_; (with_reducible refine (stringslite_HasPrefix.calls a0 a1 true _ A3.out).mono ?_); rintro e w' ⟨rfl, ⟨nd, rfl⟩⟩; refine ⟨_, rfl, ?_⟩))
    go_ret2
    exact ⟨zq1, zq2⟩
   rw [if_neg c6] at H; exact absurd H (by simp)
  exact zq116
 replace c4 := Bool.eq_false_iff.mpr c4; subst c4; rw [if_neg (show ¬ (false = true) by decide)] at H; simp only [Option.some.injEq, Prod.mk.injEq] at H; obtain ⟨rfl, rfl⟩ := H; go_enter Tryd.func37, Tryd.ntmps37
 go_wp2_with (first | ((with_reducible refine gC 56 rfl ?_); refine gL 8 Tryd.func56 #[.string a0, .string a1] ?_; (with_reducible refine (stringslite_HasPrefix.calls a0 a1 false _ A3.out).mono ?_); rintro e w' ⟨rfl, ⟨nd, rfl⟩⟩; refine ⟨_, rfl, ?_⟩))
 go_ret2
 exact ⟨zq1, zq2⟩

/-! ### strings_CutPrefix: function 31 -/
def strings_CutPrefix.f (a0 : ByteArray) (a1 : ByteArray) : Option (ByteArray × Bool) := (stringslite_CutPrefix.f a0 a1).bind fun bt159 => (some (bt159.1, bt159.2))
set_option maxHeartbeats 8000000 in
set_option maxRecDepth 100000 in
theorem strings_CutPrefix.calls (a0 : ByteArray) (a1 : ByteArray) (r1 : ByteArray) (r2 : Bool) (w : World) (h : strings_CutPrefix.f a0 a1 = some (r1, r2)) :
  Calls Tryd.prog 31 #[.string a0, .string a1] w fun e w' => e = .returned (.tuple #[.string r1, .bool r2]) ∧ Drawn0 w w' := by
 unfold strings_CutPrefix.f at h; have H := h; clear h; replace H := Option.bind_eq_some_iff.mp H; obtain ⟨⟨t159, t160⟩, A30, H⟩ := H; replace H : (some (t159, t160)) = some (r1, r2) := H; have A3 := aM A30; clear A30; simp only [Option.some.injEq, Prod.mk.injEq] at H; obtain ⟨rfl, rfl⟩ := H; go_enter Tryd.func31, Tryd.ntmps31
 go_wp2_with (first | ((with_reducible refine gC 37 rfl ?_); refine gL 8 Tryd.func37 #[.string a0, .string a1] ?_; (with_reducible refine (stringslite_CutPrefix.calls a0 a1 t159 t160 _ A3.out).mono ?_); rintro e w' ⟨rfl, ⟨nd, rfl⟩⟩; refine ⟨_, rfl, ?_⟩))
 go_ret2
 exact ⟨zq1, zq2⟩

/-! ### strings_Trim: function 32 (given) -/
def strings_Trim.f (a0 : ByteArray) (a1 : ByteArray) : Option ByteArray := if a0.size ≤ 9223372036854775807 ∧ a1.size < 4294967281 ∧ a1.data.toList.all (fun b => decide (b.toNat < 128)) = true then some ⟨(Lib.trimS a0.data.toList a1.data.toList).toArray⟩ else none
theorem strings_Trim.calls (a0 : ByteArray) (a1 : ByteArray) (r : ByteArray) (w : World) (h : strings_Trim.f a0 a1 = some r) :
    Calls Tryd.prog 32 #[.string a0, .string a1] w fun e w' => e = .returned (.string r) ∧ Below w.heap.size w w' := by
  unfold strings_Trim.f at h
  split at h
  · rename_i hg
    injection h with h
    subst h; exact Any.strings_Trim_laid Tryd.lays160 (by kernel_rfl) a0 a1 w hg.1 hg.2.1 (ascii_of_all hg.2.2)
  · exact absurd h (by simp)

/-! ### impl_isDigest: function 24 -/
def impl_isDigest.f (a0 : ByteArray) : Option (Bool) := (strings_CutPrefix.f a0 (⟨#[115, 104, 97, 50, 53, 54, 58]⟩ : ByteArray)).bind fun bt161 => (if bt161.2 = true then (if (bt161.1.size : Int) = 64 then ((strings_Trim.f bt161.1 (⟨#[48, 49, 50, 51, 52, 53, 54, 55, 56, 57, 97, 98, 99, 100, 101, 102]⟩ : ByteArray)).bind fun t163 => (some (t163.toList == ([] : List UInt8)))) else (some false)) else (some false))
set_option maxHeartbeats 8000000 in
set_option maxRecDepth 100000 in
theorem impl_isDigest.calls (a0 : ByteArray) (r : Bool) (w : World) (h : impl_isDigest.f a0 = some r) :
  Calls Tryd.prog 24 #[.string a0] w fun e w' => e = .returned (.bool r) ∧ Below w.heap.size w w' := by
 have HB := aM (Below.refl w.heap.size w); unfold impl_isDigest.f at h; have H := h; clear h; replace H := Option.bind_eq_some_iff.mp H; obtain ⟨⟨t161, t162⟩, A20, H⟩ := H; (try dsimp only at H); have A2 := aM A20; clear A20; by_cases c3 : t162 = true
 ·
  subst c3; rw [if_pos rfl] at H; by_cases c4 : (t161.size : Int) = 64
  ·
   rw [if_pos c4] at H; have c4b0 : ((t161.size : Int) == 64) = true := beq_iff_eq.mpr c4; have c4b1 : ((t161.size : Int) != 64) = false := bne_eq_false_iff_eq.mpr c4; clear c4; replace H := Option.bind_eq_some_iff.mp H; obtain ⟨t163, A50, H⟩ := H; (try dsimp only at H); have A5 := aM A50; clear A50; obtain rfl := Option.some.inj H; go_enter Tryd.func24, Tryd.ntmps24
   go_wp2_with (first | ((with_reducible refine gC 31 rfl ?_); refine gL 7 Tryd.func31 #[.string a0, .string (⟨#[115, 104, 97, 50, 53, 54, 58]⟩ : ByteArray)] ?_; (with_reducible refine (strings_CutPrefix.calls a0 (⟨#[115, 104, 97, 50, 53, 54, 58]⟩ : ByteArray) t161 true _ A2.out).mono ?_); rintro e w' ⟨rfl, ⟨nd, rfl⟩⟩; refine ⟨_, rfl, ?_⟩) | (go_at_call 32; (with_reducible refine (strings_Trim.calls t161 (⟨#[48, 49, 50, 51, 52, 53, 54, 55, 56, 57, 97, 98, 99, 100, 101, 102]⟩ : ByteArray) t163 _ A5.out).mono ?_); rintro e w6 ⟨rfl, hb⟩; replace HB := sB zq6 hb; clear hb))
   go_ret; exact ⟨zq7, zq6⟩
  rw [if_neg c4] at H; have c4b0 : ((t161.size : Int) == 64) = false := beq_eq_false_iff_ne.mpr c4; have c4b1 : ((t161.size : Int) != 64) = true := bne_iff_ne.mpr c4; obtain rfl := Option.some.inj H; go_enter Tryd.func24, Tryd.ntmps24
  go_wp2_with (first | ((with_reducible refine gC 31 rfl ?_); refine gL 7 Tryd.func31 #[.string a0, .string (⟨#[115, 104, 97, 50, 53, 54, 58]⟩ : ByteArray)] ?_; (with_reducible refine (strings_CutPrefix.calls a0 (⟨#[115, 104, 97, 50, 53, 54, 58]⟩ : ByteArray) t161 true _ A2.out).mono ?_); rintro e w' ⟨rfl, ⟨nd, rfl⟩⟩; refine ⟨_, rfl, ?_⟩))
  go_ret; exact ⟨zq7, zq6⟩
 replace c3 := Bool.eq_false_iff.mpr c3; subst c3; rw [if_neg (show ¬ (false = true) by decide)] at H; obtain rfl := Option.some.inj H; go_enter Tryd.func24, Tryd.ntmps24
 go_wp2_with (first | ((with_reducible refine gC 31 rfl ?_); refine gL 7 Tryd.func31 #[.string a0, .string (⟨#[115, 104, 97, 50, 53, 54, 58]⟩ : ByteArray)] ?_; (with_reducible refine (strings_CutPrefix.calls a0 (⟨#[115, 104, 97, 50, 53, 54, 58]⟩ : ByteArray) t161 false _ A2.out).mono ?_); rintro e w' ⟨rfl, ⟨nd, rfl⟩⟩; refine ⟨_, rfl, ?_⟩))
 go_ret; exact ⟨zq7, zq6⟩

end Go.Proofs.YtkpbdfpmoeobnaaDoor.QFnExactBlobsOf
