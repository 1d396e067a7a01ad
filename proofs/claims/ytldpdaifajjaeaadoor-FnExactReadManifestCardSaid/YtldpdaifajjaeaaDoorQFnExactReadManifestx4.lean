/- Written by wip/myprint.py of this repo (the kit's print, with additions of this session). -/
import Derived.Test.YtldpdaifajjaeaaDoorQFnExactReadManifestx0
import Derived.Test.YtldpdaifajjaeaaDoorQFnExactReadManifestx3
set_option maxRecDepth 100000
namespace Go.Proofs.YtldpdaifajjaeaaDoor.QFnExactReadManifest
open Go.RowKit Go.Proofs.YtldpdaifajjaeaaDoorW.PrintWords Go.Proofs.YtldpdaifajjaeaaDoorW.PrintLast Go.Proofs.YtldpdaifajjaeaaDoorW.PrintMore
attribute [local go_sem] max2_int min2_int max_two min_two max_three min_three max_four min_four   -- for this text's walks alone
set_option linter.unusedVariables false
set_option linter.unusedSimpArgs false

/-! ### impl_readManifest: function 38 -/
mutual
def impl_readManifest.l0 : Nat → List ByteArray → Int → Int → ByteArray → List ByteArray → Option (ByteArray × List ByteArray × Int)
 | 0, _, _, _, _, _ => none
 | k + 1, x22, x23, x24, x149000, x149001 => if x24 < x23 then (if 0 ≤ x24 then (if x24 < (x22.length : Int) then (if x24 = 0 then (impl_readManifest.j1 k x24 (rdOf ByteArray.empty x22 x24) (⟨#[99, 111, 110, 102, 105, 103, 32]⟩ : ByteArray) x22 x23 x24 x149000 x149001) else (impl_readManifest.j1 k x24 (rdOf ByteArray.empty x22 x24) (⟨#[108, 97, 121, 101, 114, 32]⟩ : ByteArray) x22 x23 x24 x149000 x149001)) else (none)) else (none)) else ((impl_isManifest.f x149000 x149001).bind fun t152 => (if t152 = true then (some (x149000, x149001, 0)) else (some ((⟨#[]⟩ : ByteArray), ([] : List ByteArray), 2))))
def impl_readManifest.j1 : Nat → Int → ByteArray → ByteArray → List ByteArray → Int → Int → ByteArray → List ByteArray → Option (ByteArray × List ByteArray × Int)
 | 0, _, _, _, _, _, _, _, _ => none
 | k + 1, x7, x8, x9, x22, x23, x24, x149000, x149001 => (strings_CutPrefix.f x8 x9).bind fun bt154 => (if bt154.2 = true then ((impl_isDigest.f bt154.1).bind fun t156 => (impl_readManifest.j2 k x7 bt154.1 x22 x23 x24 (!t156) x149000 x149001)) else (impl_readManifest.j2 k x7 bt154.1 x22 x23 x24 true x149000 x149001))
def impl_readManifest.j2 : Nat → Int → ByteArray → List ByteArray → Int → Int → Bool → ByteArray → List ByteArray → Option (ByteArray × List ByteArray × Int)
 | 0, _, _, _, _, _, _, _, _ => none
 | k + 1, x7, x10, x22, x23, x24, x43, x149000, x149001 => if x43 = true then (some ((⟨#[]⟩ : ByteArray), ([] : List ByteArray), 1)) else (if x7 = 0 then (impl_readManifest.l0 k x22 x23 (wrap64 (x24 + 1)) x10 x149001) else (if x149001.length < 8796093022208 then (impl_readManifest.l0 k x22 x23 (wrap64 (x24 + 1)) x149000 (x149001 ++ [x10])) else (none)))
end
def impl_readManifest.f (k : Nat) (a0 : ByteArray) : Option (ByteArray × List ByteArray × Int) := (strings_CutSuffix.f a0 (⟨#[10]⟩ : ByteArray)).bind fun bt146 => (if bt146.2 = true then ((strings_Split.f bt146.1 (⟨#[10]⟩ : ByteArray)).bind fun t149 => (impl_readManifest.l0 k t149 (t149.length : Int) 0 (⟨#[]⟩ : ByteArray) ([] : List ByteArray))) else (some ((⟨#[]⟩ : ByteArray), ([] : List ByteArray), 1)))
theorem impl_readManifest.mono_l : ∀ k, (∀ y0 y1 y2 y3 y4, LeO (impl_readManifest.l0 k y0 y1 y2 y3 y4) (impl_readManifest.l0 (k + 1) y0 y1 y2 y3 y4)) ∧ (∀ y0 y1 y2 y3 y4 y5 y6 y7, LeO (impl_readManifest.j1 k y0 y1 y2 y3 y4 y5 y6 y7) (impl_readManifest.j1 (k + 1) y0 y1 y2 y3 y4 y5 y6 y7)) ∧ (∀ y0 y1 y2 y3 y4 y5 y6 y7, LeO (impl_readManifest.j2 k y0 y1 y2 y3 y4 y5 y6 y7) (impl_readManifest.j2 (k + 1) y0 y1 y2 y3 y4 y5 y6 y7))
 | 0 => ⟨fun _ _ _ _ _ r h => by simp [impl_readManifest.l0] at h, fun _ _ _ _ _ _ _ _ r h => by simp [impl_readManifest.j1] at h, fun _ _ _ _ _ _ _ _ r h => by simp [impl_readManifest.j2] at h⟩
 | k + 1 => by
  obtain ⟨ih0, ih1, ih2⟩ := impl_readManifest.mono_l k; refine ⟨?_, ?_, ?_⟩
  ·
   intro y0 y1 y2 y3 y4; unfold impl_readManifest.l0
   repeat' first
   | (with_reducible apply ih0)
   | (with_reducible apply ih1)
   | (with_reducible apply ih2)
   | (with_reducible exact LeO.refl _)
   | (with_reducible exact LeO.none _)
   | (with_reducible refine LeO.ite ?_ ?_)
   | (with_reducible refine LeO.bind ?_ (fun _ => ?_))
   | exact LeO.none _
   | refine LeO.ite ?_ ?_
   | refine LeO.bind ?_ (fun _ => ?_)
  ·
   intro y0 y1 y2 y3 y4 y5 y6 y7; unfold impl_readManifest.j1
   repeat' first
   | (with_reducible apply ih0)
   | (with_reducible apply ih1)
   | (with_reducible apply ih2)
   | (with_reducible exact LeO.refl _)
   | (with_reducible exact LeO.none _)
   | (with_reducible refine LeO.ite ?_ ?_)
   | (with_reducible refine LeO.bind ?_ (fun _ => ?_))
   | exact LeO.none _
   | refine LeO.ite ?_ ?_
   | refine LeO.bind ?_ (fun _ => ?_)
  intro y0 y1 y2 y3 y4 y5 y6 y7; unfold impl_readManifest.j2
  repeat' first
  | (with_reducible apply ih0)
  | (with_reducible apply ih1)
  | (with_reducible apply ih2)
  | (with_reducible exact LeO.refl _)
  | (with_reducible exact LeO.none _)
  | (with_reducible refine LeO.ite ?_ ?_)
  | (with_reducible refine LeO.bind ?_ (fun _ => ?_))
  | exact LeO.none _
  | refine LeO.ite ?_ ?_
  | refine LeO.bind ?_ (fun _ => ?_)
theorem impl_readManifest.mono : ∀ a0 k, LeO (impl_readManifest.f k a0) (impl_readManifest.f (k + 1) a0) := by
 intro a0 k; obtain ⟨ih0, ih1, ih2⟩ := impl_readManifest.mono_l k; unfold impl_readManifest.f
 repeat' first
   | (with_reducible apply ih0)
   | (with_reducible apply ih1)
   | (with_reducible apply ih2)
   | (with_reducible exact LeO.refl _)
   | (with_reducible exact LeO.none _)
   | (with_reducible refine LeO.ite ?_ ?_)
   | (with_reducible refine LeO.bind ?_ (fun _ => ?_))
   | exact LeO.none _
   | refine LeO.ite ?_ ?_
   | refine LeO.bind ?_ (fun _ => ?_)
set_option maxHeartbeats 8000000 in
set_option maxRecDepth 100000 in
theorem impl_readManifest.calls (k : Nat) (a0 : ByteArray) (r1 : ByteArray) (r2 : List ByteArray) (r3 : Int) (w : World) (h : impl_readManifest.f k a0 = some (r1, r2, r3)) :
  Calls Tryd.prog 38 #[.string a0] w fun e w' => ∃ v1_ : Value, e = .returned (.tuple #[.agg #[.string r1, v1_], .int .i64 r3]) ∧ Kd.R Kd.string 9 w' w.heap.size (fun _ => True) v1_ r2 ∧ Below w.heap.size w w' := by
 have hu35 := Tryd.underlying35; have HB := aM (Below.refl w.heap.size w); unfold impl_readManifest.f at h; have H := h; clear h; replace H := Option.bind_eq_some_iff.mp H; obtain ⟨⟨t146, t147⟩, A20, H⟩ := H; (try dsimp only at H); have A2 := aM A20; clear A20; by_cases c3 : t147 = true
 ·
  subst c3; rw [if_pos rfl] at H; replace H := Option.bind_eq_some_iff.mp H; obtain ⟨t149, A40, H⟩ := H; (try dsimp only at H); have A4 := aM A40; clear A40; have H' := aM H; clear H; go_enter Tryd.func38, Tryd.ntmps38
  go_wp2_with (first | ((with_reducible refine gD 2 rfl ?_); refine bE 2 #[.string (⟨#[]⟩ : ByteArray), .slice none 0 0] 35 ?_; intro gb145 hg w5 hbox hb; have BK145 := aM hbox; have GW145 := aM (zq86 : w.heap.size ≤ gb145); have GE145 := GW145; replace HB := sB zq2 hb; clear hb hbox hg) | ((with_reducible refine gC 60 rfl ?_); refine gL 14 Tryd.func60 #[.string a0, .string (⟨#[10]⟩ : ByteArray)] ?_; (with_reducible refine (strings_CutSuffix.calls a0 (⟨#[10]⟩ : ByteArray) t146 true _ A2.out).mono ?_); rintro e w' ⟨rfl, ⟨nd, rfl⟩⟩; refine ⟨_, rfl, ?_⟩; repeat (rw [drewN_self w5]; generalize hq_ : World.drewN w5 _ = w5; have n0_ : Aside0 (w5.heap[gb145]? = some (.cells #[.string (⟨#[]⟩ : ByteArray), .slice none 0 0] 35 (0, 0))) := ⟨by rw [← hq_]; exact zq30⟩; have n1_ : Aside0 (Below w.heap.size w w5) := ⟨by rw [← hq_]; exact zq31⟩; clear BK145 HB hq_; have BK145 := n0_; have HB := n1_; clear n0_ n1_)) | ((with_reducible refine gD 6 rfl ?_); refine bE 6 #[.string (⟨#[]⟩ : ByteArray), .slice none 0 0] 35 ?_; intro gb148 hg w6 hbox hb; have BK148 := aM hbox; have GW148 := aM (by rw [hg]; exact (below_size zq31) : w.heap.size ≤ gb148); have GE148 := GW148; replace HB := sB zq31 hb; have NB145_148 := aM (by rw [hg]; exact Nat.ne_of_lt (blk_lt (g := gb145) (o := .cells #[.string (⟨#[]⟩ : ByteArray), .slice none 0 0] 35 (0, 0)) zq30) : gb145 ≠ gb148); have NB148_145 := aM (by rw [hg]; exact Nat.ne_of_gt (blk_lt (g := gb145) (o := .cells #[.string (⟨#[]⟩ : ByteArray), .slice none 0 0] 35 (0, 0)) zq30) : gb148 ≠ gb145); replace BK145 := bG BK145 hb; clear hb hbox hg; have hnb7 := NB148_145.out; have hnc7 := NB145_148.out; obtain ⟨hcz8_0, hcz8_1, hfz8_0, hfz8_1⟩ := cells2_ (w := w6) BK148) | ((with_reducible refine gC 49 rfl ?_); refine gL 22 Tryd.func49 #[.string t146, .string (⟨#[10]⟩ : ByteArray)] ?_; (with_reducible refine (strings_Split.calls t146 (⟨#[10]⟩ : ByteArray) t149 _ A4.out).mono ?_); rintro e w9 ⟨v150, rfl, ho0, hb⟩; refine ⟨_, rfl, ?_⟩; have HO151 := aM (Kd.R_lower ho0 (below_size zq32)); replace BK145 := bF BK145 (by refine dW ?_; refine blk_far ?_ NB145_148.out _; refine dW ?_; refine blk_far ?_ NB145_148.out _; refine dW ?_; exact BK145.out) hb; replace BK148 := bB (g := gb148) (o := .cells #[.string (⟨#[]⟩ : ByteArray), .slice none 0 0] 35 (0, 0)) (by refine dW ?_; refine blk_put (cs := #[.string (⟨#[]⟩ : ByteArray), .slice none 0 0]) ?_ 1 _ rfl; refine dW ?_; refine blk_put (cs := #[.string (⟨#[]⟩ : ByteArray), .slice none 0 0]) ?_ 0 _ rfl; refine dW ?_; exact BK148.out) hb; replace HB := sB zq32 hb; clear hb; (try clear ho0); obtain ⟨Ao10, co10, eo10⟩ := Kd.R_slice HO151.out; subst eo10))
  go_loopg [24] k (fun kq v24 w' => ∃ (x24_1 : Int) (x146000_1 : ByteArray) (x149000_1 : ByteArray) (x149001_1 : List ByteArray) (u149001 : Value), v24 = .int .i64 x24_1 ∧ Aside0 (impl_readManifest.l0 kq t149 (t149.length : Int) x24_1 x149000_1 x149001_1 = some (r1, r2, r3)) ∧ Aside0 (kq ≤ k) ∧ Aside0 (Kd.R Kd.string 9 w' w.heap.size (fun k_ => some k_ ≠ (u149001 : Value).ownBlock) (.slice Ao10 t149.length co10) t149) ∧ Aside0 (Kd.R Kd.string 9 w' w.heap.size (fun k_ => some k_ ≠ ((.slice Ao10 t149.length co10) : Value).ownBlock) u149001 x149001_1) ∧ Aside0 (w'.heap[gb145]? = some (.cells #[.string x146000_1, (.slice none 0 0)] 35 (0, 0))) ∧ Aside0 (w'.heap[gb148]? = some (.cells #[.string x149000_1, u149001] 35 (0, 0))) ∧ Aside0 (Below w.heap.size w w'))
  case atStart => exact ⟨(0), ((⟨#[]⟩ : ByteArray)), ((⟨#[]⟩ : ByteArray)), (([] : List ByteArray)), (.slice none 0 0), zq3, H', ⟨Nat.le_refl _⟩, ⟨by refine dR ?_; exact Kd.R_mono HO151.out (fun _ hk => (by simp [Value.ownBlock]))⟩, ⟨zq18⟩, ⟨zq30⟩, ⟨zq33⟩, ⟨zq32⟩⟩
  case round =>
   clear H'; (try clear p2); (try clear c3); (try clear c4); (try clear c6); (try clear c7); (try clear hcz8_0); (try clear hcz8_1); (try clear hfz8_0); (try clear hfz8_1); obtain ⟨x24_1, x146000_1, x149000_1, x149001_1, u149001, rfl, HA, HK1, HO_22, HO_149001, BK145, BK148, HB⟩ := hrel
   cases gk with
   | zero => exact absurd HA.out (by simp [impl_readManifest.l0])
   | succ k1 =>
    have H := HA.out; clear HA; simp only [impl_readManifest.l0] at H; by_cases c11 : x24_1 < (t149.length : Int)
    ·
     rw [if_pos c11] at H; have c11b0 := decide_eq_true c11; clear c11; by_cases c12 : 0 ≤ x24_1
     ·
      rw [if_pos c12] at H; have c12b0 := decide_eq_true c12; clear c12; by_cases c13 : x24_1 < (t149.length : Int)
      ·
       rw [if_pos c13] at H; have c13b0 := decide_eq_true c13; clear c13; have HC14 := aM H; clear H; have p153 : 0 ≤ (x24_1 : Int) := of_decide_eq_true zq4; have q153 : x24_1 < (t149.length : Int) := of_decide_eq_true zq4; obtain ⟨ad153, e153, hx153_0⟩ := Kd.at_string (Kd.R_reads' HO_22.out).2.2 x24_1 p153 q153; cases e153; replace p153 := eq_true p153; replace q153 := eq_true q153
       go_upto_if 30 with (fail)
       go_cut [9] (fun v9 wc => ∃ (kq : Nat) (x9_13 : ByteArray), v9 = .string x9_13 ∧ Aside0 (impl_readManifest.j1 kq x24_1 (rdOf ByteArray.empty t149 x24_1) x9_13 t149 (t149.length : Int) x24_1 x149000_1 x149001_1 = some (r1, r2, r3)) ∧ Aside0 (kq ≤ k1) ∧ Aside0 (Kd.R Kd.string 9 wc w.heap.size (fun k_ => some k_ ≠ (u149001 : Value).ownBlock) (.slice (some ad153) t149.length co10) t149) ∧ Aside0 (Kd.R Kd.string 9 wc w.heap.size (fun k_ => some k_ ≠ ((.slice (some ad153) t149.length co10) : Value).ownBlock) u149001 x149001_1) ∧ Aside0 (wc.heap[gb145]? = some (.cells #[.string x146000_1, (.slice none 0 0)] 35 (0, 0))) ∧ Aside0 (wc.heap[gb148]? = some (.cells #[.string x149000_1, u149001] 35 (0, 0))) ∧ Aside0 (Below w.heap.size w wc))
       case first =>
        have H := HC14.out; clear HC14; by_cases c15 : x24_1 = 0
        ·
         rw [if_pos c15] at H; have c15b0 : (x24_1 == 0) = true := beq_iff_eq.mpr c15; have c15b1 : (x24_1 != 0) = false := bne_eq_false_iff_eq.mpr c15; clear c15
         (first | rw [c15b0] | (simp only [i64_w, i32_w]; rw [c15b0]) | skip)
         have H' := aM H; clear H; go_wp2
         go_meet
         case rel => exact ⟨_, ((⟨#[99, 111, 110, 102, 105, 103, 32]⟩ : ByteArray)), zq3, H', ⟨by have := HK1.out; first | omega | exact Nat.le_refl _⟩, ⟨zq34⟩, ⟨zq35⟩, ⟨zq30⟩, ⟨zq33⟩, ⟨zq32⟩⟩
        rw [if_neg c15] at H; have c15b0 : (x24_1 == 0) = false := beq_eq_false_iff_ne.mpr c15; have c15b1 : (x24_1 != 0) = true := bne_iff_ne.mpr c15
        (first | rw [c15b0] | (simp only [i64_w, i32_w]; rw [c15b0]) | skip)
        have H' := aM H; clear H; go_wp2
        go_meet
        case rel => exact ⟨_, ((⟨#[108, 97, 121, 101, 114, 32]⟩ : ByteArray)), zq3, H', ⟨by have := HK1.out; first | omega | exact Nat.le_refl _⟩, ⟨zq34⟩, ⟨zq35⟩, ⟨zq30⟩, ⟨zq33⟩, ⟨zq32⟩⟩
       case rest =>
        clear HC14; (try clear c1); (try clear p1); (try clear q1); (try clear hx1); (try clear p2); (try clear c3); (try clear c4); (try clear c6); (try clear c7); (try clear c11); (try clear c11b0); (try clear c12); (try clear c12b0); (try clear c13); (try clear c13b0); (try clear c15); (try clear c15b0); (try clear c15b1); (try clear p15); (try clear q15); (try clear hx15); (try clear hcz8_0); (try clear hcz8_1); (try clear hfz8_0); (try clear hfz8_1); (try clear hx153_0); (try clear p153); (try clear p2); (try clear q153); obtain ⟨kq, x9_13, rfl, HA, HJ13, HO_22, HO_149001, BK145, BK148, HB⟩ := hcut
        cases kq with
        | zero => exact absurd HA.out (by simp [impl_readManifest.j1])
        | succ kj13 =>
         have H := HA.out; clear HA; simp only [impl_readManifest.j1] at H; replace H := Option.bind_eq_some_iff.mp H; obtain ⟨⟨t154, t155⟩, A160, H⟩ := H; (try dsimp only at H); have A16 := aM A160; clear A160; have HC17 := aM H; clear H
         go_upto_region 12 with (first | ((with_reducible refine gC 52 rfl ?_); refine gL 34 Tryd.func52 #[.string (rdOf ByteArray.empty t149 x24_1), .string x9_13] ?_; (with_reducible refine (strings_CutPrefix.calls (rdOf ByteArray.empty t149 x24_1) x9_13 t154 t155 _ A16.out).mono ?_); rintro e w' ⟨rfl, ⟨nd, rfl⟩⟩; refine ⟨_, rfl, ?_⟩))
         (try simp only [Act.put, List.setIfInBounds_toArray, List.set_cons_zero, List.set_cons_succ])
         go_cut [43] (fun v43 wc => ∃ (kq : Nat) (x43_16 : Bool), v43 = .bool x43_16 ∧ Aside0 (impl_readManifest.j2 kq x24_1 t154 t149 (t149.length : Int) x24_1 x43_16 x149000_1 x149001_1 = some (r1, r2, r3)) ∧ Aside0 (kq ≤ kj13) ∧ Aside0 (Kd.R Kd.string 9 wc w.heap.size (fun k_ => some k_ ≠ (u149001 : Value).ownBlock) (.slice (some ad153) t149.length co10) t149) ∧ Aside0 (Kd.R Kd.string 9 wc w.heap.size (fun k_ => some k_ ≠ ((.slice (some ad153) t149.length co10) : Value).ownBlock) u149001 x149001_1) ∧ Aside0 (wc.heap[gb145]? = some (.cells #[.string x146000_1, (.slice none 0 0)] 35 (0, 0))) ∧ Aside0 (wc.heap[gb148]? = some (.cells #[.string x149000_1, u149001] 35 (0, 0))) ∧ Aside0 (Below w.heap.size w wc))
         case first =>
          have H := HC17.out; clear HC17; by_cases c18 : t155 = true
          ·
           subst c18; rw [if_pos rfl] at H; replace H := Option.bind_eq_some_iff.mp H; obtain ⟨t156, A190, H⟩ := H; (try dsimp only at H); have A19 := aM A190; clear A190; have H' := aM H; clear H
           go_wp2_with (first | (go_at_call 31; (with_reducible refine (impl_isDigest.calls t154 t156 _ A19.out).mono ?_); rintro e w20 ⟨rfl, hb⟩; replace HO_22 := rG HO_22 hb; replace HO_149001 := rG HO_149001 hb; replace BK145 := bG BK145 hb; replace BK148 := bG BK148 hb; replace HB := sB zq32 hb; clear hb))
           go_meet
           case rel => exact ⟨_, (!t156), zq3, H', ⟨zq36⟩, ⟨zq34⟩, ⟨zq35⟩, ⟨zq30⟩, ⟨zq33⟩, ⟨zq32⟩⟩
          replace c18 := Bool.eq_false_iff.mpr c18; subst c18; rw [if_neg (show ¬ (false = true) by decide)] at H; have H' := aM H; clear H; go_wp2
          go_meet
          case rel => exact ⟨_, (true), zq3, H', ⟨zq36⟩, ⟨zq34⟩, ⟨zq35⟩, ⟨zq30⟩, ⟨zq33⟩, ⟨zq32⟩⟩
         case rest =>
          clear HC17; (try clear c1); (try clear p1); (try clear q1); (try clear hx1); (try clear p2); (try clear c3); (try clear c4); (try clear c5); (try clear c6); (try clear c7); (try clear c11); (try clear c11b0); (try clear c12); (try clear c12b0); (try clear c13); (try clear c13b0); (try clear c15); (try clear c15b0); (try clear c15b1); (try clear p15); (try clear q15); (try clear hx15); (try clear c18); (try clear hcz8_0); (try clear hcz8_1); (try clear hfz8_0); (try clear hfz8_1); (try clear hx153_0); (try clear p1); (try clear p15); (try clear p153); (try clear p2); (try clear q1); (try clear q15); (try clear q153); obtain ⟨kq, x43_16, rfl, HA, HJ16, HO_22, HO_149001, BK145, BK148, HB⟩ := hcut
          cases kq with
          | zero => exact absurd HA.out (by simp [impl_readManifest.j2])
          | succ kj16 =>
           have H := HA.out; clear HA; simp only [impl_readManifest.j2] at H; by_cases c21 : x43_16 = true
           ·
            subst c21; rw [if_pos rfl] at H; simp only [Option.some.injEq, Prod.mk.injEq] at H; obtain ⟨rfl, rfl, rfl⟩ := H; have hnb22 := NB145_148.out; have hnc22 := NB148_145.out; obtain ⟨hcz23_0, hcz23_1, hfz23_0, hfz23_1⟩ := cells2_ (w := wc) BK145; go_wp2; refine bodyPost_ret (results_ct rfl _ _ gb145 35 #[.string (⟨#[]⟩ : ByteArray), .slice none 0 0] (0, 0) _ rfl zq37 Tryd.underlying35 rfl (by kernel_rfl)) rfl ?_; exact ⟨_, zq7, zq18, zq32⟩
           replace c21 := Bool.eq_false_iff.mpr c21; subst c21; rw [if_neg (show ¬ (false = true) by decide)] at H; by_cases c24 : x24_1 = 0
           ·
            rw [if_pos c24] at H; have c24b0 : (x24_1 == 0) = true := beq_iff_eq.mpr c24; have c24b1 : (x24_1 != 0) = false := bne_eq_false_iff_eq.mpr c24; clear c24; have H' := aM H; clear H; have hnb25 := NB148_145.out; have hnc25 := NB145_148.out; obtain ⟨hcz26_0, hcz26_1, hfz26_0, hfz26_1⟩ := cells2_ (w := wc) BK148; go_wp2
            go_roundg kj16
            case measure => have := HK1.out; have := HJ13.out; have := HJ16.out; omega
            case rel => exact ⟨(wrap64 (x24_1 + 1)), (x146000_1), (t154), (x149001_1), (u149001), zq3, H', ⟨zq38⟩, ⟨by refine dR ?_; exact Kd.R_mono (Kd.R_far (p := ⟨gb148, 0, none⟩) (Kd.R_types HO_22.out BK148.out (by decide)) (fun _ hk => hk.2) (.string t154)) (fun _ hk => hk.1)⟩, ⟨by refine dR ?_; exact Kd.R_mono (Kd.R_far (p := ⟨gb148, 0, none⟩) (Kd.R_types HO_149001.out BK148.out (by decide)) (fun _ hk => hk.2) (.string t154)) (fun _ hk => hk.1)⟩, ⟨zq39⟩, ⟨by refine dW ?_; refine blk_put (cs := #[.string x149000_1, u149001]) ?_ 0 _ rfl; refine dW ?_; exact BK148.out⟩, ⟨zq32⟩⟩
           rw [if_neg c24] at H; have c24b0 : (x24_1 == 0) = false := beq_eq_false_iff_ne.mpr c24; have c24b1 : (x24_1 != 0) = true := bne_iff_ne.mpr c24; by_cases c27 : x149001_1.length < 8796093022208
           ·
            rw [if_pos c27] at H; have LMc27 := aM c27; clear c27; obtain ⟨y157, hy157⟩ : ∃ y_ : List ByteArray, y_ = (x149001_1 ++ [t154]) := ⟨_, rfl⟩; have hy_ := hy157; replace H : (impl_readManifest.l0 kj16 t149 (t149.length : Int) (wrap64 (x24_1 + 1)) x149000_1 y157) = some (r1, r2, r3) := hyE; clear hy_; have Ny157 := aM hy157; clear hy157; have H' := aM H; clear H; have hnb28 := NB148_145.out; have hnc28 := NB145_148.out; obtain ⟨hcz29_0, hcz29_1, hfz29_0, hfz29_1⟩ := cells2_ (w := wc) BK148
            go_wp2_with (first | ((with_reducible refine gate_builtin (b := .append) (xs := #[.tmp 50, .tmp 52]) rfl ?_); at_builtin; refine Kd.R_append Kd.string (w0 := w) w.heap.size rfl (.tmp 50) (.tmp 52) 33 9 (.string ⟨#[]⟩) 16 rfl Tryd.underlying33 info9 rfl (by decide) (by omega) u149001 x149001_1 t154 [.string t154] (fun k_ => some k_ ≠ (.slice (some ad153) t149.length co10 : Value).ownBlock) (fun _ => False) rfl rfl ?aP (fun _ hk => hk.elim) ?aF ?aO ?aB ?aS ?aL ?_; (case aP => exact rfl); (case aB => exact zq32); (case aF => exact (fun k_ hk => Kd.fresh' (Kd.R_lt zq34) k_ hk)); (case aO => exact zq35); (case aS => exact (below_size zq32)); (case aL => have := LMc27.out; omega); intro v158 w30 ho hb hg hat; rw [← Ny157.out] at ho; have n0_ := aM (Kd.R_after (ok := (fun _ => True)) (by refine dR ?_; exact Kd.R_mono HO_22.out (fun _ hk => ⟨trivial, hk⟩)) hg hat); have n1_ := aM (blk_grown (g := gb145) (o := .cells #[.string x146000_1, .slice none 0 0] 35 (0, 0)) zq30 hg (Kd.R_ne HO_149001.out BK145.out (by decide))); have n2_ := aM (blk_grown (g := gb148) (o := .cells #[.string x149000_1, u149001] 35 (0, 0)) zq33 hg (Kd.R_ne HO_149001.out BK148.out (by decide))); have n3_ := aM (hb); have n4_ := aM (ho); clear HO_22; clear BK145; clear BK148; clear HB; clear HO_149001; have HO_22 := n0_; have BK145 := n1_; have BK148 := n2_; have HB := n3_; have HO159 := n4_; clear n0_ n1_ n2_ n3_ n4_; clear ho hb hg hat; obtain ⟨Ao31, co31, eo31⟩ := Kd.R_slice HO159.out; subst eo31; obtain ⟨hcz32_0, hcz32_1, hfz32_0, hfz32_1⟩ := cells2_ (w := w30) BK148))
            go_roundg kj16
            case measure => have := HK1.out; have := HJ13.out; have := HJ16.out; omega
            case rel => exact ⟨(wrap64 (x24_1 + 1)), (x146000_1), (x149000_1), (y157), (.slice Ao31 y157.length co31), zq3, H', ⟨zq38⟩, ⟨by refine dR ?_; exact Kd.R_mono (Kd.R_far (p := ⟨gb148, 1, none⟩) (Kd.R_types HO_22.out BK148.out (by decide)) (fun _ hk => hk.2) (.slice Ao31 y157.length co31)) (fun _ hk => hk.1.2)⟩, ⟨by refine dR ?_; exact Kd.R_mono (Kd.R_far (p := ⟨gb148, 1, none⟩) (Kd.R_types HO159.out BK148.out (by decide)) (fun _ hk => hk.2) (.slice Ao31 y157.length co31)) (fun _ hk => hk.1)⟩, ⟨zq39⟩, ⟨by refine dW ?_; refine blk_put (cs := #[.string x149000_1, u149001]) ?_ 1 _ rfl; refine dW ?_; exact BK148.out⟩, ⟨zq32⟩⟩
           rw [if_neg c27] at H; exact absurd H (by simp)
      rw [if_neg c13] at H; exact absurd H (by simp)
     exact zq98
    rw [if_neg c11] at H; have c11b0 := decide_eq_false c11; clear c11; replace H := Option.bind_eq_some_iff.mp H; obtain ⟨t152, A330, H⟩ := H; (try dsimp only at H); have A33 := aM A330; clear A330; by_cases c34 : t152 = true
    ·
     subst c34; rw [if_pos rfl] at H; simp only [Option.some.injEq, Prod.mk.injEq] at H; obtain ⟨rfl, rfl, rfl⟩ := H; have hnb35 := NB148_145.out; have hnc35 := NB145_148.out; obtain ⟨hcz36_0, hcz36_1, hfz36_0, hfz36_1⟩ := cells2_ (w := wr) BK148; obtain ⟨Ao37, co37, eo37⟩ := Kd.R_slice HO_149001.out; subst eo37
     go_wp2_with (first | ((with_reducible refine gC 61 rfl ?_); refine gL 57 Tryd.func61 #[.agg #[.string x149000_1, .slice Ao37 x149001_1.length co37]] ?_; (with_reducible refine (impl_isManifest.calls x149000_1 _ _ x149001_1 true _ ?_ ?_ A33.out).mono ?_); exact zq40; exact (Kd.R_reads' HO_149001.out).2.1; rintro e w38 ⟨rfl, hb⟩; refine ⟨_, rfl, ?_⟩; replace HO_22 := rG HO_22 hb; replace HO_149001 := rG HO_149001 hb; replace BK145 := bG BK145 hb; replace BK148 := bG BK148 hb; replace HB := sB zq32 hb; clear hb; obtain ⟨hcz39_0, hcz39_1, hfz39_0, hfz39_1⟩ := cells2_ (w := w38) BK148; obtain ⟨hcz40_0, hcz40_1, hfz40_0, hfz40_1⟩ := cells2_ (w := w38) BK145))
     refine bodyPost_ret (results_ct rfl _ _ gb145 35 #[.string x149000_1, .slice Ao37 x149001_1.length co37] (0, 0) _ rfl (by refine dW ?_; refine blk_put (cs := #[.string x149000_1, .slice none 0 0]) ?_ 1 _ rfl; refine dW ?_; refine blk_put (cs := #[.string x146000_1, .slice none 0 0]) ?_ 0 _ rfl; refine dW ?_; exact BK145.out) Tryd.underlying35 rfl (by kernel_rfl)) rfl ?_; exact ⟨_, zq7, by refine dR ?_; exact Kd.R_mono (Kd.R_far (p := ⟨gb145, 1, none⟩) (Kd.R_far (p := ⟨gb145, 0, none⟩) (Kd.R_types HO_149001.out BK145.out (by decide)) (fun _ hk => hk.2) (.string x149000_1)) (fun _ hk => hk.2) (.slice Ao37 x149001_1.length co37)) (fun _ hk => trivial), zq32⟩
    replace c34 := Bool.eq_false_iff.mpr c34; subst c34; rw [if_neg (show ¬ (false = true) by decide)] at H; simp only [Option.some.injEq, Prod.mk.injEq] at H; obtain ⟨rfl, rfl, rfl⟩ := H; have hnb41 := NB148_145.out; have hnc41 := NB145_148.out; obtain ⟨hcz42_0, hcz42_1, hfz42_0, hfz42_1⟩ := cells2_ (w := wr) BK148; obtain ⟨Ao43, co43, eo43⟩ := Kd.R_slice HO_149001.out; subst eo43
    go_wp2_with (first | ((with_reducible refine gC 61 rfl ?_); refine gL 57 Tryd.func61 #[.agg #[.string x149000_1, .slice Ao43 x149001_1.length co43]] ?_; (with_reducible refine (impl_isManifest.calls x149000_1 _ _ x149001_1 false _ ?_ ?_ A33.out).mono ?_); exact zq40; exact (Kd.R_reads' HO_149001.out).2.1; rintro e w44 ⟨rfl, hb⟩; refine ⟨_, rfl, ?_⟩; replace HO_22 := rG HO_22 hb; replace HO_149001 := rG HO_149001 hb; replace BK145 := bG BK145 hb; replace BK148 := bG BK148 hb; replace HB := sB zq32 hb; clear hb; obtain ⟨hcz45_0, hcz45_1, hfz45_0, hfz45_1⟩ := cells2_ (w := w44) BK145))
    refine bodyPost_ret (results_ct rfl _ _ gb145 35 #[.string (⟨#[]⟩ : ByteArray), .slice none 0 0] (0, 0) _ rfl zq37 Tryd.underlying35 rfl (by kernel_rfl)) rfl ?_; exact ⟨_, zq7, zq18, zq32⟩
 replace c3 := Bool.eq_false_iff.mpr c3; subst c3; rw [if_neg (show ¬ (false = true) by decide)] at H; simp only [Option.some.injEq, Prod.mk.injEq] at H; obtain ⟨rfl, rfl, rfl⟩ := H; go_enter Tryd.func38, Tryd.ntmps38
 go_wp2_with (first | ((with_reducible refine gD 2 rfl ?_); refine bE 2 #[.string (⟨#[]⟩ : ByteArray), .slice none 0 0] 35 ?_; intro gb145 hg w46 hbox hb; have BK145 := aM hbox; have GW145 := aM (zq86 : w.heap.size ≤ gb145); have GE145 := GW145; replace HB := sB zq2 hb; clear hb hbox hg) | ((with_reducible refine gC 60 rfl ?_); refine gL 14 Tryd.func60 #[.string a0, .string (⟨#[10]⟩ : ByteArray)] ?_; (with_reducible refine (strings_CutSuffix.calls a0 (⟨#[10]⟩ : ByteArray) t146 false _ A2.out).mono ?_); rintro e w' ⟨rfl, ⟨nd, rfl⟩⟩; refine ⟨_, rfl, ?_⟩; repeat (rw [drewN_self w46]; generalize hq_ : World.drewN w46 _ = w46; have n0_ : Aside0 (w46.heap[gb145]? = some (.cells #[.string (⟨#[]⟩ : ByteArray), .slice none 0 0] 35 (0, 0))) := ⟨by rw [← hq_]; exact zq30⟩; have n1_ : Aside0 (Below w.heap.size w w46) := ⟨by rw [← hq_]; exact zq31⟩; clear BK145 HB hq_; have BK145 := n0_; have HB := n1_; clear n0_ n1_); obtain ⟨hcz47_0, hcz47_1, hfz47_0, hfz47_1⟩ := cells2_ (w := w46) BK145))
 refine bodyPost_ret (results_ct rfl _ _ gb145 35 #[.string (⟨#[]⟩ : ByteArray), .slice none 0 0] (0, 0) _ rfl (by refine dW ?_; refine blk_put (cs := #[.string (⟨#[]⟩ : ByteArray), .slice none 0 0]) ?_ 1 _ rfl; refine dW ?_; refine blk_put (cs := #[.string (⟨#[]⟩ : ByteArray), .slice none 0 0]) ?_ 0 _ rfl; refine dW ?_; exact BK145.out) Tryd.underlying35 rfl (by kernel_rfl)) rfl ?_; exact ⟨_, zq7, zq18, zq31⟩

/-! ### impl_ReadManifest: function 18 -/
def impl_ReadManifest.f (k : Nat) (a0 : ByteArray) : Option (ByteArray × List ByteArray × Int) := (impl_readManifest.f k a0).bind fun bt161 => (some (bt161.1, bt161.2.1, bt161.2.2))
theorem impl_ReadManifest.mono : ∀ a0 k, LeO (impl_ReadManifest.f k a0) (impl_ReadManifest.f (k + 1) a0) := by
 intro a0 k; unfold impl_ReadManifest.f
 repeat' first
   | (with_reducible apply impl_readManifest.mono)
   | (with_reducible exact LeO.refl _)
   | (with_reducible exact LeO.none _)
   | (with_reducible refine LeO.ite ?_ ?_)
   | (with_reducible refine LeO.bind ?_ (fun _ => ?_))
   | exact LeO.none _
   | refine LeO.ite ?_ ?_
   | refine LeO.bind ?_ (fun _ => ?_)
set_option maxHeartbeats 8000000 in
set_option maxRecDepth 100000 in
theorem impl_ReadManifest.calls (k : Nat) (a0 : ByteArray) (r1 : ByteArray) (r2 : List ByteArray) (r3 : Int) (w : World) (h : impl_ReadManifest.f k a0 = some (r1, r2, r3)) :
  Calls Tryd.prog 18 #[.string a0] w fun e w' => ∃ v1_ : Value, e = .returned (.tuple #[.agg #[.string r1, v1_], .int .i64 r3]) ∧ Kd.R Kd.string 9 w' w.heap.size (fun _ => True) v1_ r2 ∧ Below w.heap.size w w' := by
 have hu35 := Tryd.underlying35; have HB := aM (Below.refl w.heap.size w); unfold impl_ReadManifest.f at h; have H := h; clear h; replace H := Option.bind_eq_some_iff.mp H; obtain ⟨⟨t161, t162, t165⟩, A20, H⟩ := H; (try dsimp only at H); have A2 := aM A20; clear A20; simp only [Option.some.injEq, Prod.mk.injEq] at H; obtain ⟨rfl, rfl, rfl⟩ := H; go_enter Tryd.func18, Tryd.ntmps18
 go_wp2_with (first | ((with_reducible refine gD 2 rfl ?_); refine bE 2 #[.string (⟨#[]⟩ : ByteArray), .slice none 0 0] 35 ?_; intro gb160 hg w3 hbox hb; have BK160 := aM hbox; have GW160 := aM (zq86 : w.heap.size ≤ gb160); have GE160 := GW160; replace HB := sB zq2 hb; clear hb hbox hg) | ((with_reducible refine gC 38 rfl ?_); refine gL 5 Tryd.func38 #[.string a0] ?_; (with_reducible refine (impl_readManifest.calls k a0 t161 t162 t165 _ A2.out).mono ?_); rintro e w4 ⟨v163, rfl, ho0, hb⟩; refine ⟨_, rfl, ?_⟩; have HO164 := aM (Kd.R_lower ho0 (below_size zq41)); replace BK160 := bF BK160 (by refine dW ?_; exact BK160.out) hb; replace HB := sB zq41 hb; clear hb; (try clear ho0); obtain ⟨hcz5_0, hcz5_1, hfz5_0, hfz5_1⟩ := cells2_ (w := w4) BK160; obtain ⟨Ao6, co6, eo6⟩ := Kd.R_slice HO164.out; subst eo6))
 refine bodyPost_ret (results_ct rfl _ _ gb160 35 #[.string t161, .slice Ao6 t162.length co6] (0, 0) _ rfl (by refine dW ?_; refine blk_put (cs := #[.string t161, .slice none 0 0]) ?_ 1 _ rfl; refine dW ?_; refine blk_put (cs := #[.string (⟨#[]⟩ : ByteArray), .slice none 0 0]) ?_ 0 _ rfl; refine dW ?_; exact BK160.out) Tryd.underlying35 rfl (by kernel_rfl)) rfl ?_; exact ⟨_, zq7, by refine dR ?_; exact Kd.R_mono (Kd.R_far (p := ⟨gb160, 1, none⟩) (Kd.R_far (p := ⟨gb160, 0, none⟩) (Kd.R_types HO164.out BK160.out (by decide)) (fun _ hk => hk.2) (.string t161)) (fun _ hk => hk.2) (.slice Ao6 t162.length co6)) (fun _ hk => trivial), zq41⟩

/-! ### laws_eqStringS: function 39 -/
def laws_eqStringS.l0 : Nat → List ByteArray → List ByteArray → Int → Option (Bool)
 | 0, _, _, _ => none
 | k + 1, x0, x1, x5 => if x5 < (x0.length : Int) then (if 0 ≤ x5 then (if x5 < (x1.length : Int) then (if (rdOf ByteArray.empty x0 x5).toList = (rdOf ByteArray.empty x1 x5).toList then (laws_eqStringS.l0 k x0 x1 (wrap64 (x5 + 1))) else (some false)) else (none)) else (none)) else (some true)
def laws_eqStringS.f (k : Nat) (l0 : List ByteArray) (l1 : List ByteArray) : Option (Bool) := if (l0.length : Int) = (l1.length : Int) then (laws_eqStringS.l0 k l0 l1 0) else (some false)
theorem laws_eqStringS.mono_l : ∀ k, (∀ y0 y1 y2, LeO (laws_eqStringS.l0 k y0 y1 y2) (laws_eqStringS.l0 (k + 1) y0 y1 y2))
 | 0 => fun _ _ _ r h => by simp [laws_eqStringS.l0] at h
 | k + 1 => by
  have ih0 := laws_eqStringS.mono_l k
  ·
   intro y0 y1 y2; unfold laws_eqStringS.l0
   repeat' first
   | (with_reducible apply ih0)
   | (with_reducible exact LeO.refl _)
   | (with_reducible exact LeO.none _)
   | (with_reducible refine LeO.ite ?_ ?_)
   | (with_reducible refine LeO.bind ?_ (fun _ => ?_))
   | exact LeO.none _
   | refine LeO.ite ?_ ?_
   | refine LeO.bind ?_ (fun _ => ?_)
theorem laws_eqStringS.mono : ∀ a0 a1 k, LeO (laws_eqStringS.f k a0 a1) (laws_eqStringS.f (k + 1) a0 a1) := by
 intro a0 a1 k; have ih0 := laws_eqStringS.mono_l k; unfold laws_eqStringS.f
 repeat' first
   | (with_reducible apply ih0)
   | (with_reducible exact LeO.refl _)
   | (with_reducible exact LeO.none _)
   | (with_reducible refine LeO.ite ?_ ?_)
   | (with_reducible refine LeO.bind ?_ (fun _ => ?_))
   | exact LeO.none _
   | refine LeO.ite ?_ ?_
   | refine LeO.bind ?_ (fun _ => ?_)
set_option maxHeartbeats 8000000 in
set_option maxRecDepth 100000 in
theorem laws_eqStringS.calls (k : Nat) (A0 : Option Addr) (c0 : Nat) (l0 : List ByteArray) (A1 : Option Addr) (c1 : Nat) (l1 : List ByteArray) (r : Bool) (w : World) (hr0 : Kd.C Kd.string w A0 l0.length l0) (hc0 : l0.length ≤ c0) (hr1 : Kd.C Kd.string w A1 l1.length l1) (hc1 : l1.length ≤ c1) (h : laws_eqStringS.f k l0 l1 = some r) :
  Calls Tryd.prog 39 #[.slice A0 l0.length c0, .slice A1 l1.length c1] w fun e w' => e = .returned (.bool r) ∧ Drawn0 w w' := by
 have HR0 := aM hr0; have HC0 := aM hc0; clear hr0 hc0; have HR1 := aM hr1; have HC1 := aM hc1; clear hr1 hc1; unfold laws_eqStringS.f at h; have H := h; clear h; by_cases c3 : (l0.length : Int) = (l1.length : Int)
 ·
  rw [if_pos c3] at H; have c3b0 : ((l0.length : Int) == (l1.length : Int)) = true := beq_iff_eq.mpr c3; have c3b1 : ((l0.length : Int) != (l1.length : Int)) = false := bne_eq_false_iff_eq.mpr c3; have c3b2 : (l0.length == l1.length) = true := by first | simpa using c3 | (simp at c3 ⊢; omega)
  clear c3; have H' := aM H; clear H; go_enter Tryd.func39, Tryd.ntmps39; go_wp2
  repeat (go_quiet (fail); try go_wp2)
  go_loopg [5] k (fun kq v5 w' => ∃ (x5_1 : Int), v5 = .int .i64 x5_1 ∧ Aside0 (laws_eqStringS.l0 kq l0 l1 x5_1 = some r) ∧ Aside0 (kq ≤ k) ∧ Drawn0 w w')
  case atStart => exact ⟨(0), zq3, H', ⟨Nat.le_refl _⟩, zq8⟩
  case round =>
   clear H'; (try clear c1); (try clear p2); (try clear c3); (try clear c3b0); (try clear c3b1); (try clear c3b2); obtain ⟨x5_1, rfl, HA, HK1, ⟨m1, rfl⟩⟩ := hrel
   cases gk with
   | zero => exact absurd HA.out (by simp [laws_eqStringS.l0])
   | succ k1 =>
    have H := HA.out; clear HA; simp only [laws_eqStringS.l0] at H; by_cases c4 : x5_1 < (l0.length : Int)
    ·
     rw [if_pos c4] at H; have c4b0 := decide_eq_true c4; clear c4; by_cases c5 : 0 ≤ x5_1
     ·
      rw [if_pos c5] at H; have c5b0 := decide_eq_true c5; clear c5; by_cases c6 : x5_1 < (l1.length : Int)
      ·
       rw [if_pos c6] at H; have c6b0 := decide_eq_true c6; clear c6; by_cases c7 : (rdOf ByteArray.empty l0 x5_1).toList = (rdOf ByteArray.empty l1 x5_1).toList
       ·
        rw [if_pos c7] at H; have c7b0 : ((rdOf ByteArray.empty l0 x5_1).toList == (rdOf ByteArray.empty l1 x5_1).toList) = true := beq_iff_eq.mpr c7; have c7b1 : ((rdOf ByteArray.empty l0 x5_1).toList != (rdOf ByteArray.empty l1 x5_1).toList) = false := bne_eq_false_iff_eq.mpr c7; clear c7; have H' := aM H; clear H; have p166 : 0 ≤ (x5_1 : Int) := of_decide_eq_true zq4; have q166 : x5_1 < (l0.length : Int) := of_decide_eq_true zq4; obtain ⟨ad166, e166, hx166_0⟩ := Kd.at_string HR0.out x5_1 p166 q166; cases e166; replace p166 := eq_true p166; replace q166 := eq_true q166; have p167 : 0 ≤ (x5_1 : Int) := of_decide_eq_true zq4; have q167 : x5_1 < (l1.length : Int) := of_decide_eq_true zq4; obtain ⟨ad167, e167, hx167_0⟩ := Kd.at_string HR1.out x5_1 p167 q167; cases e167; replace p167 := eq_true p167; replace q167 := eq_true q167; go_wp2
        repeat (go_quiet (fail); try go_wp2)
        go_roundg k1
        case measure => have := HK1.out; omega
        case rel => exact ⟨(wrap64 (x5_1 + 1)), zq3, H', ⟨zq6⟩, zq8⟩
       rw [if_neg c7] at H; have c7b0 : ((rdOf ByteArray.empty l0 x5_1).toList == (rdOf ByteArray.empty l1 x5_1).toList) = false := beq_eq_false_iff_ne.mpr c7; have c7b1 : ((rdOf ByteArray.empty l0 x5_1).toList != (rdOf ByteArray.empty l1 x5_1).toList) = true := bne_iff_ne.mpr c7; obtain rfl := Option.some.inj H; have p166 : 0 ≤ (x5_1 : Int) := of_decide_eq_true zq4; have q166 : x5_1 < (l0.length : Int) := of_decide_eq_true zq4; obtain ⟨ad166, e166, hx166_0⟩ := Kd.at_string HR0.out x5_1 p166 q166; cases e166; replace p166 := eq_true p166; replace q166 := eq_true q166; have p167 : 0 ≤ (x5_1 : Int) := of_decide_eq_true zq4; have q167 : x5_1 < (l1.length : Int) := of_decide_eq_true zq4; obtain ⟨ad167, e167, hx167_0⟩ := Kd.at_string HR1.out x5_1 p167 q167; cases e167; replace p167 := eq_true p167; replace q167 := eq_true q167; go_wp2
       repeat (go_quiet (fail); try go_wp2)
       go_ret; exact ⟨zq3, zq8⟩
      exact zq103
     exact zq99
    rw [if_neg c4] at H; have c4b0 := decide_eq_false c4; clear c4; obtain rfl := Option.some.inj H; go_wp2
    repeat (go_quiet (fail); try go_wp2)
    go_ret; exact ⟨zq3, zq8⟩
 rw [if_neg c3] at H; have c3b0 : ((l0.length : Int) == (l1.length : Int)) = false := beq_eq_false_iff_ne.mpr c3; have c3b1 : ((l0.length : Int) != (l1.length : Int)) = true := bne_iff_ne.mpr c3; have c3b2 : (l0.length == l1.length) = false := by first | simpa using c3 | (simp at c3 ⊢; omega)
 obtain rfl := Option.some.inj H; go_enter Tryd.func39, Tryd.ntmps39; go_wp2
 repeat (go_quiet (fail); try go_wp2)
 go_ret; exact ⟨zq3, zq8⟩

/-! ### laws_eqManifest: function 19 -/
def laws_eqManifest.f (k : Nat) (a0_0 : ByteArray) (l0_1 : List ByteArray) (a1_0 : ByteArray) (l1_1 : List ByteArray) : Option (Bool) := if a0_0.toList = a1_0.toList then ((laws_eqStringS.f k l0_1 l1_1).bind fun t170 => (if t170 = true then (some true) else (some false))) else (some false)
theorem laws_eqManifest.mono : ∀ a0 a1 a2 a3 k, LeO (laws_eqManifest.f k a0 a1 a2 a3) (laws_eqManifest.f (k + 1) a0 a1 a2 a3) := by
 intro a0 a1 a2 a3 k; unfold laws_eqManifest.f
 repeat' first
   | (with_reducible apply laws_eqStringS.mono)
   | (with_reducible exact LeO.refl _)
   | (with_reducible exact LeO.none _)
   | (with_reducible refine LeO.ite ?_ ?_)
   | (with_reducible refine LeO.bind ?_ (fun _ => ?_))
   | exact LeO.none _
   | refine LeO.ite ?_ ?_
   | refine LeO.bind ?_ (fun _ => ?_)
set_option maxHeartbeats 8000000 in
set_option maxRecDepth 100000 in
theorem laws_eqManifest.calls (k : Nat) (a0_0 : ByteArray) (A0_1 : Option Addr) (c0_1 : Nat) (l0_1 : List ByteArray) (a1_0 : ByteArray) (A1_1 : Option Addr) (c1_1 : Nat) (l1_1 : List ByteArray) (r : Bool) (w : World) (hr0_1 : Kd.C Kd.string w A0_1 l0_1.length l0_1) (hc0_1 : l0_1.length ≤ c0_1) (hr1_1 : Kd.C Kd.string w A1_1 l1_1.length l1_1) (hc1_1 : l1_1.length ≤ c1_1) (h : laws_eqManifest.f k a0_0 l0_1 a1_0 l1_1 = some r) :
  Calls Tryd.prog 19 #[.agg #[.string a0_0, .slice A0_1 l0_1.length c0_1], .agg #[.string a1_0, .slice A1_1 l1_1.length c1_1]] w fun e w' => e = .returned (.bool r) ∧ Below w.heap.size w w' := by
 have hu35 := Tryd.underlying35; have HR0_1 := aM hr0_1; have HC0_1 := aM hc0_1; clear hr0_1 hc0_1; have HR1_1 := aM hr1_1; have HC1_1 := aM hc1_1; clear hr1_1 hc1_1; have HB := aM (Below.refl w.heap.size w); unfold laws_eqManifest.f at h; have H := h; clear h; by_cases c3 : a0_0.toList = a1_0.toList
 ·
  rw [if_pos c3] at H; have c3b0 : (a0_0.toList == a1_0.toList) = true := beq_iff_eq.mpr c3; have c3b1 : (a0_0.toList != a1_0.toList) = false := bne_eq_false_iff_eq.mpr c3; clear c3; replace H := Option.bind_eq_some_iff.mp H; obtain ⟨t170, A40, H⟩ := H; (try dsimp only at H); have A4 := aM A40; clear A40; by_cases c5 : t170 = true
  ·
   subst c5; rw [if_pos rfl] at H; obtain rfl := Option.some.inj H; go_enter Tryd.func19, Tryd.ntmps19
   go_wp2_with (first | ((with_reducible refine gD 2 rfl ?_); refine bE 2 #[.string a0_0, .slice A0_1 l0_1.length c0_1] 35 ?_; intro gb168 hg w6 hbox hb; have BK168 := aM hbox; have GW168 := aM (zq86 : w.heap.size ≤ gb168); have GE168 := GW168; replace HB := sB zq2 hb; clear hb hbox hg) | ((with_reducible refine gD 3 rfl ?_); refine bE 3 #[.string a1_0, .slice A1_1 l1_1.length c1_1] 35 ?_; intro gb169 hg w7 hbox hb; have BK169 := aM hbox; have GW169 := aM (zq89 : w.heap.size ≤ gb169); have GE169 := GW169; replace HB := sB zq43 hb; have NB168_169 := aM (zq90 : gb168 ≠ gb169); have NB169_168 := aM (zq91 : gb169 ≠ gb168); replace BK168 := bG BK168 hb; clear hb hbox hg; have hnb8 := NB168_169.out; have hnc8 := NB169_168.out; obtain ⟨hcz9_0, hcz9_1, hfz9_0, hfz9_1⟩ := cells2_ (w := w7) BK168; obtain ⟨hcz10_0, hcz10_1, hfz10_0, hfz10_1⟩ := cells2_ (w := w7) BK169) | ((with_reducible refine gC 39 rfl ?_); refine gL 14 Tryd.func39 #[.slice A0_1 l0_1.length c0_1, .slice A1_1 l1_1.length c1_1] ?_; (with_reducible refine (laws_eqStringS.calls k _ _ l0_1 _ _ l1_1 true _ ?_ ?_ ?_ ?_ A4.out).mono ?_); exact zq44; exact HC0_1.out; exact zq45; exact HC1_1.out; rintro e w' ⟨rfl, ⟨nd, rfl⟩⟩; refine ⟨_, rfl, ?_⟩))
   go_ret; exact ⟨zq7, zq46⟩
  replace c5 := Bool.eq_false_iff.mpr c5; subst c5; rw [if_neg (show ¬ (false = true) by decide)] at H; obtain rfl := Option.some.inj H; go_enter Tryd.func19, Tryd.ntmps19
  go_wp2_with (first | ((with_reducible refine gD 2 rfl ?_); refine bE 2 #[.string a0_0, .slice A0_1 l0_1.length c0_1] 35 ?_; intro gb168 hg w11 hbox hb; have BK168 := aM hbox; have GW168 := aM (zq86 : w.heap.size ≤ gb168); have GE168 := GW168; replace HB := sB zq2 hb; clear hb hbox hg) | ((with_reducible refine gD 3 rfl ?_); refine bE 3 #[.string a1_0, .slice A1_1 l1_1.length c1_1] 35 ?_; intro gb169 hg w12 hbox hb; have BK169 := aM hbox; have GW169 := aM (zq89 : w.heap.size ≤ gb169); have GE169 := GW169; replace HB := sB zq43 hb; have NB168_169 := aM (zq90 : gb168 ≠ gb169); have NB169_168 := aM (zq91 : gb169 ≠ gb168); replace BK168 := bG BK168 hb; clear hb hbox hg; have hnb13 := NB168_169.out; have hnc13 := NB169_168.out; obtain ⟨hcz14_0, hcz14_1, hfz14_0, hfz14_1⟩ := cells2_ (w := w12) BK168; obtain ⟨hcz15_0, hcz15_1, hfz15_0, hfz15_1⟩ := cells2_ (w := w12) BK169) | ((with_reducible refine gC 39 rfl ?_); refine gL 14 Tryd.func39 #[.slice A0_1 l0_1.length c0_1, .slice A1_1 l1_1.length c1_1] ?_; (with_reducible refine (laws_eqStringS.calls k _ _ l0_1 _ _ l1_1 false _ ?_ ?_ ?_ ?_ A4.out).mono ?_); exact zq44; exact HC0_1.out; exact zq45; exact HC1_1.out; rintro e w' ⟨rfl, ⟨nd, rfl⟩⟩; refine ⟨_, rfl, ?_⟩))
  go_ret; exact ⟨zq7, zq46⟩
 rw [if_neg c3] at H; have c3b0 : (a0_0.toList == a1_0.toList) = false := beq_eq_false_iff_ne.mpr c3; have c3b1 : (a0_0.toList != a1_0.toList) = true := bne_iff_ne.mpr c3; obtain rfl := Option.some.inj H; go_enter Tryd.func19, Tryd.ntmps19
 go_wp2_with (first | ((with_reducible refine gD 2 rfl ?_); refine bE 2 #[.string a0_0, .slice A0_1 l0_1.length c0_1] 35 ?_; intro gb168 hg w16 hbox hb; have BK168 := aM hbox; have GW168 := aM (zq86 : w.heap.size ≤ gb168); have GE168 := GW168; replace HB := sB zq2 hb; clear hb hbox hg) | ((with_reducible refine gD 3 rfl ?_); refine bE 3 #[.string a1_0, .slice A1_1 l1_1.length c1_1] 35 ?_; intro gb169 hg w17 hbox hb; have BK169 := aM hbox; have GW169 := aM (zq89 : w.heap.size ≤ gb169); have GE169 := GW169; replace HB := sB zq43 hb; have NB168_169 := aM (zq90 : gb168 ≠ gb169); have NB169_168 := aM (zq91 : gb169 ≠ gb168); replace BK168 := bG BK168 hb; clear hb hbox hg; have hnb18 := NB168_169.out; have hnc18 := NB169_168.out; obtain ⟨hcz19_0, hcz19_1, hfz19_0, hfz19_1⟩ := cells2_ (w := w17) BK168; obtain ⟨hcz20_0, hcz20_1, hfz20_0, hfz20_1⟩ := cells2_ (w := w17) BK169))
 go_ret; exact ⟨zq7, zq46⟩

/-! ### laws_markText: function 62 -/
def laws_markText.l0 : Nat → Int → ByteArray → Option (ByteArray)
 | 0, _, _ => none
 | k + 1, x0, x3 => if x0 > 0 then ((some (([(wrap64 (48 + (Int.tmod x0 10))) % 256] : List Int) : List Int)).bind fun y171 => (if (strOfNums y171).size + x3.size ≤ 9223372036854775807 then (laws_markText.l0 k (wrap64 (Int.tdiv x0 10)) ((strOfNums y171) ++ x3)) else (none))) else (if 1 + x3.size ≤ 9223372036854775807 then (some ((⟨#[109]⟩ : ByteArray) ++ x3)) else (none))
def laws_markText.f (k : Nat) (a0 : Int) : Option (ByteArray) := if a0 ≤ 0 then (some (⟨#[109, 48]⟩ : ByteArray)) else (laws_markText.l0 k a0 (⟨#[]⟩ : ByteArray))
theorem laws_markText.mono_l : ∀ k, (∀ y0 y1, LeO (laws_markText.l0 k y0 y1) (laws_markText.l0 (k + 1) y0 y1))
 | 0 => fun _ _ r h => by simp [laws_markText.l0] at h
 | k + 1 => by
  have ih0 := laws_markText.mono_l k
  ·
   intro y0 y1; unfold laws_markText.l0
   repeat' first
   | (with_reducible apply ih0)
   | (with_reducible exact LeO.refl _)
   | (with_reducible exact LeO.none _)
   | (with_reducible refine LeO.ite ?_ ?_)
   | (with_reducible refine LeO.bind ?_ (fun _ => ?_))
   | exact LeO.none _
   | refine LeO.ite ?_ ?_
   | refine LeO.bind ?_ (fun _ => ?_)
theorem laws_markText.mono : ∀ a0 k, LeO (laws_markText.f k a0) (laws_markText.f (k + 1) a0) := by
 intro a0 k; have ih0 := laws_markText.mono_l k; unfold laws_markText.f
 repeat' first
   | (with_reducible apply ih0)
   | (with_reducible exact LeO.refl _)
   | (with_reducible exact LeO.none _)
   | (with_reducible refine LeO.ite ?_ ?_)
   | (with_reducible refine LeO.bind ?_ (fun _ => ?_))
   | exact LeO.none _
   | refine LeO.ite ?_ ?_
   | refine LeO.bind ?_ (fun _ => ?_)
set_option maxHeartbeats 8000000 in
set_option maxRecDepth 100000 in
theorem laws_markText.calls (k : Nat) (a0 : Int) (r : ByteArray) (w : World) (h : laws_markText.f k a0 = some r) :
  Calls Tryd.prog 62 #[.int .i64 a0] w fun e w' => e = .returned (.string r) ∧ Below w.heap.size w w' := by
 have HB := aM (Below.refl w.heap.size w); unfold laws_markText.f at h; have H := h; clear h; by_cases c2 : a0 ≤ 0
 ·
  rw [if_pos c2] at H; have c2b0 := decide_eq_true c2; clear c2; obtain rfl := Option.some.inj H; go_enter Tryd.func62, Tryd.ntmps62; go_wp2; go_ret; exact ⟨zq7, zq2⟩
 rw [if_neg c2] at H; have c2b0 := decide_eq_false c2; clear c2; have H' := aM H; clear H; go_enter Tryd.func62, Tryd.ntmps62; go_wp2
 go_loopg [0, 3] k (fun kq v0 v3 w' => ∃ (x0_1 : Int) (x3_1 : ByteArray), v0 = .int .i64 x0_1 ∧ v3 = .string x3_1 ∧ Aside0 (laws_markText.l0 kq x0_1 x3_1 = some r) ∧ Aside0 (kq ≤ k) ∧ Aside0 (Below w.heap.size w w'))
 case atStart => exact ⟨(a0), ((⟨#[]⟩ : ByteArray)), zq3, zq3, H', ⟨Nat.le_refl _⟩, ⟨zq2⟩⟩
 case round =>
  clear H'; (try clear c2); (try clear c2b0); (try clear p2); obtain ⟨x0_1, x3_1, rfl, rfl, HA, HK1, HB⟩ := hrel
  cases gk with
  | zero => exact absurd HA.out (by simp [laws_markText.l0])
  | succ k1 =>
   have H := HA.out; clear HA; simp only [laws_markText.l0] at H; by_cases c3 : x0_1 > 0
   ·
    rw [if_pos c3] at H; have c3b0 : decide (0 < x0_1) = true := decide_eq_true c3; clear c3; obtain ⟨y171, hy171⟩ : ∃ y_ : List Int, y_ = (([(wrap64 (48 + (Int.tmod x0_1 10))) % 256] : List Int)) := ⟨_, rfl⟩; have hy_ := hy171; replace H : (if (strOfNums y171).size + x3_1.size ≤ 9223372036854775807 then (laws_markText.l0 k1 (wrap64 (Int.tdiv x0_1 10)) ((strOfNums y171) ++ x3_1)) else (none)) = some r := hyE; clear hy_; have Ny171 := aM hy171; clear hy171; by_cases c4 : (strOfNums y171).size + x3_1.size ≤ 9223372036854775807
    ·
     rw [if_pos c4] at H; have c4b0 := eq_true c4; have c4b1 := decide_eq_true c4
     try have c4b2 : (9223372036854775807 < (strOfNums y171).size + x3_1.size) = False := eq_false (Nat.not_lt.2 c4)
     have H' := aM H; clear H
     go_wp2_with (first | ((with_reducible refine gD 12 rfl ?_); refine Kd.R_lit (Kd.int .u8) _ 5 ?hg (N := 12) ?hd (xs := ([(wrap64 (48 + (Int.tmod x0_1 10))) % 256] : List Int)) (inner := [.int .u8 ((wrap64 (48 + (Int.tmod x0_1 10))) % 256)]) (ok := fun _ => True) (okp := fun _ => True) ?hr ?hp (fun _ hk => hk) trivial (Below.refl _ _) (Nat.le_refl _) (by simp) ?_; (case hd => rfl); (case hg => rfl); (case hr => exact zq1); (case hp => exact (Reps.one (show Kd.M (Kd.int .u8) _ _ _ ((wrap64 (48 + (Int.tmod x0_1 10))) % 256) [.int .u8 ((wrap64 (48 + (Int.tmod x0_1 10))) % 256)] from rfl) (Reps.none _ _))); intro v172 w5 ho6 hb hg_ hnew_; clear hg_ hnew_; (first | rw [← Ny171.out] at ho6 | (simp only [Int.reduceToNat] at ho6; rw [← Ny171.out] at ho6)); have HO173 := aM (Kd.R_lower ho6 (below_size zq2)); replace HB := sB zq2 hb; clear hb ho6; have hcv7 := own_string (P := Tryd.prog) Tryd.underlying40 Tryd.underlying5 Tryd.underlying9 (Kd.own_of_R HO173.out)))
     go_roundg k1
     case measure => have := HK1.out; omega
     case rel => exact ⟨(wrap64 (Int.tdiv x0_1 10)), ((strOfNums y171) ++ x3_1), zq3, zq3, H', ⟨zq6⟩, ⟨zq2⟩⟩
    exact zq100
   rw [if_neg c3] at H; have c3b0 : decide (0 < x0_1) = false := decide_eq_false c3; clear c3; by_cases c8 : 1 + x3_1.size ≤ 9223372036854775807
   ·
    rw [if_pos c8] at H; have c8b0 := eq_true c8; have c8b1 := decide_eq_true c8
    try have c8b2 : (9223372036854775807 < 1 + x3_1.size) = False := eq_false (Nat.not_lt.2 c8)
    obtain rfl := Option.some.inj H; go_wp2; go_ret; exact ⟨zq7, zq2⟩
   rw [if_neg c8] at H; exact absurd H (by simp)

end Go.Proofs.YtldpdaifajjaeaaDoor.QFnExactReadManifest
