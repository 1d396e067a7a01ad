/- Written by wip/myprint.py of this repo (the kit's print, with additions of this session). -/
import Derived.Test.YtoeomljkhabifaaDoorQFnExactStepsx0
import Derived.Test.YtoeomljkhabifaaDoorQFnExactStepsx7
import Derived.Test.YtoeomljkhabifaaDoorQFnExactStepsx8
set_option maxRecDepth 100000
namespace Go.Proofs.YtoeomljkhabifaaDoor.QFnExactSteps
open Go.RowKit Go.Proofs.YtoeomljkhabifaaDoorW.PrintWords Go.Proofs.YtoeomljkhabifaaDoorW.PrintLast Go.Proofs.YtoeomljkhabifaaDoorW.PrintMore
attribute [local go_sem] max2_int min2_int max_two min_two max_three min_three max_four min_four   -- for this text's walks alone
set_option linter.unusedVariables false
set_option linter.unusedSimpArgs false

/-! ### impl_digest: function 43 -/
mutual
def impl_digest.l0 : Nat → List Int → List Int → Int → Int → Option (ByteArray)
 | 0, _, _, _, _ => none
 | k + 1, x3, x10, x11, x12 => if x12 < x11 then (if 0 ≤ x12 then (if x12 < (x10.length : Int) then (impl_digest.l1 k x3 (rd x10 x12) 28 x10 x11 x12) else (none)) else (none)) else (some (strOfNums x3))
def impl_digest.l1 : Nat → List Int → Int → Int → List Int → Int → Int → Option (ByteArray)
 | 0, _, _, _, _, _, _ => none
 | k + 1, x3, x5, x6, x10, x11, x12 => if x6 ≥ 0 then (if 0 ≤ x6 then (if 0 ≤ (Go.bits .and .u32 (shr .u32 x5 x6) 15) then (if (Go.bits .and .u32 (shr .u32 x5 x6) 15) < 16 then (if x3.length < 140737488355328 then (impl_digest.l1 k (x3 ++ [bt (⟨#[48, 49, 50, 51, 52, 53, 54, 55, 56, 57, 97, 98, 99, 100, 101, 102]⟩ : ByteArray) (Go.bits .and .u32 (shr .u32 x5 x6) 15)]) x5 (wrap64 (x6 - 4)) x10 x11 x12) else (none)) else (none)) else (none)) else (none)) else (impl_digest.l0 k x3 x10 x11 (wrap64 (x12 + 1)))
end
def impl_digest.f (k : Nat) (a0 : ByteArray) : Option (ByteArray) := (impl_sum.f a0).bind fun t326 => (impl_digest.l0 k (([115, 104, 97, 50, 53, 54, 58] : List Int)) t326 (t326.length : Int) 0)
theorem impl_digest.mono_l : ∀ k, (∀ y0 y1 y2 y3, LeO (impl_digest.l0 k y0 y1 y2 y3) (impl_digest.l0 (k + 1) y0 y1 y2 y3)) ∧ (∀ y0 y1 y2 y3 y4 y5, LeO (impl_digest.l1 k y0 y1 y2 y3 y4 y5) (impl_digest.l1 (k + 1) y0 y1 y2 y3 y4 y5))
 | 0 => ⟨fun _ _ _ _ r h => by simp [impl_digest.l0] at h, fun _ _ _ _ _ _ r h => by simp [impl_digest.l1] at h⟩
 | k + 1 => by
  obtain ⟨ih0, ih1⟩ := impl_digest.mono_l k; refine ⟨?_, ?_⟩
  ·
   intro y0 y1 y2 y3; unfold impl_digest.l0
   repeat' first
   | (with_reducible apply ih0)
   | (with_reducible apply ih1)
   | (with_reducible exact LeO.refl _)
   | (with_reducible exact LeO.none _)
   | (with_reducible refine LeO.ite ?_ ?_)
   | (with_reducible refine LeO.bind ?_ (fun _ => ?_))
   | exact LeO.none _
   | refine LeO.ite ?_ ?_
   | refine LeO.bind ?_ (fun _ => ?_)
  intro y0 y1 y2 y3 y4 y5; unfold impl_digest.l1
  repeat' first
  | (with_reducible apply ih0)
  | (with_reducible apply ih1)
  | (with_reducible exact LeO.refl _)
  | (with_reducible exact LeO.none _)
  | (with_reducible refine LeO.ite ?_ ?_)
  | (with_reducible refine LeO.bind ?_ (fun _ => ?_))
  | exact LeO.none _
  | refine LeO.ite ?_ ?_
  | refine LeO.bind ?_ (fun _ => ?_)
theorem impl_digest.mono : ∀ a0 k, LeO (impl_digest.f k a0) (impl_digest.f (k + 1) a0) := by
 intro a0 k; obtain ⟨ih0, ih1⟩ := impl_digest.mono_l k; unfold impl_digest.f
 repeat' first
   | (with_reducible apply ih0)
   | (with_reducible apply ih1)
   | (with_reducible exact LeO.refl _)
   | (with_reducible exact LeO.none _)
   | (with_reducible refine LeO.ite ?_ ?_)
   | (with_reducible refine LeO.bind ?_ (fun _ => ?_))
   | exact LeO.none _
   | refine LeO.ite ?_ ?_
   | refine LeO.bind ?_ (fun _ => ?_)
set_option maxHeartbeats 8000000 in
set_option maxRecDepth 100000 in
theorem impl_digest.calls (k : Nat) (a0 : ByteArray) (r : ByteArray) (w : World) (h : impl_digest.f k a0 = some r) :
  Calls Tryd.prog 43 #[.string a0] w fun e w' => e = .returned (.string r) ∧ Below w.heap.size w w' := by
 have HB := aM (Below.refl w.heap.size w); unfold impl_digest.f at h; have H := h; clear h; obtain ⟨y323, hy323⟩ : ∃ y_ : List Int, y_ = (([115, 104, 97, 50, 53, 54, 58] : List Int)) := ⟨_, rfl⟩; have hy_ := hy323; replace H : ((impl_sum.f a0).bind fun t326 => (impl_digest.l0 k y323 t326 (t326.length : Int) 0)) = some r := hyE; clear hy_; have Ny323 := aM hy323; clear hy323; replace H := Option.bind_eq_some_iff.mp H; obtain ⟨t326, A20, H⟩ := H; (try dsimp only at H); have A2 := aM A20; clear A20; have H' := aM H; clear H; go_enter Tryd.func43, Tryd.ntmps43
 go_wp2_with (first | ((with_reducible refine gD 7 rfl ?_); refine Kd.R_litc _ 5 ?hg ?hg2 (N := 7) (N2 := 8) ?hd ?hd2 31 ?hc (xs := ([115, 104, 97, 50, 53, 54, 58] : List Int)) (inner := [.int .u8 115, .int .u8 104, .int .u8 97, .int .u8 50, .int .u8 53, .int .u8 54, .int .u8 58]) ?hr ?hin ?hN Tryd.underlying31 Tryd.underlying5 rfl (ok := fun _ => True) trivial (Below.refl _ _) (Nat.le_refl _) (by simp) ?_; (case hd => rfl); (case hd2 => rfl); (case hg => rfl); (case hg2 => rfl); (case hc => rfl); (case hr => exact zq6); (case hin => rfl); (case hN => simp); intro v324 w3 ho4 hb hg_ hnew_; clear hg_ hnew_; (first | rw [← Ny323.out] at ho4 | (simp only [Int.reduceToNat] at ho4; rw [← Ny323.out] at ho4)); have HO325 := aM (Kd.R_lower ho4 (below_size zq5)); replace HB := sB zq5 hb; clear hb ho4) | ((with_reducible refine gC 64 rfl ?_); refine gL 10 Tryd.func64 #[.string a0] ?_; (with_reducible refine (impl_sum.calls a0 t326 _ A2.out).mono ?_); rintro e w5 ⟨v327, rfl, ho0, hb⟩; refine ⟨_, rfl, ?_⟩; replace HO325 := rG HO325 hb; have HO328 := aM (Kd.R_lower ho0 (below_size zq5)); replace HB := sB zq5 hb; clear hb; (try clear ho0); obtain ⟨Ao6, co6, eo6⟩ := Kd.R_slice HO328.out; subst eo6))
 go_loopg [3, 12] k (fun kq v3 v12 w' => ∃ (x3_1 : List Int) (x12_1 : Int), v12 = .int .i64 x12_1 ∧ Aside0 (impl_digest.l0 kq x3_1 t326 (t326.length : Int) x12_1 = some r) ∧ Aside0 (kq ≤ k) ∧ Aside0 (Kd.R (Kd.int .u8) 5 w' w.heap.size (fun _ => True) v3 x3_1) ∧ Aside0 (Kd.R (Kd.int .u32) 59 w' w.heap.size (fun _ => True) (.slice Ao6 t326.length co6) t326) ∧ Aside0 (Below w.heap.size w w'))
 case atStart => exact ⟨(y323), (0), zq1, H', ⟨Nat.le_refl _⟩, ⟨zq154⟩, ⟨by refine dR ?_; first | exact HO328.out | (have h_ := HO328.out; simp only [Int.emod_add_emod, Int.add_emod_emod] at h_ ⊢; exact h_)⟩, ⟨zq5⟩⟩
 case round =>
  clear H'; (try clear p2); (try clear c4); (try clear c6); obtain ⟨x3_1, x12_1, rfl, HA, HK1, HO_3, HO_10, HB⟩ := hrel
  cases gk with
  | zero => exact absurd HA.out (by simp [impl_digest.l0])
  | succ k1 =>
   have H := HA.out; clear HA; simp only [impl_digest.l0] at H; by_cases c7 : x12_1 < (t326.length : Int)
   ·
    rw [if_pos c7] at H; have c7b0 := decide_eq_true c7; clear c7; by_cases c8 : 0 ≤ x12_1
    ·
     rw [if_pos c8] at H; have c8b0 := decide_eq_true c8; clear c8; by_cases c9 : x12_1 < (t326.length : Int)
     ·
      rw [if_pos c9] at H; have c9b0 := decide_eq_true c9; clear c9; have H' := aM H; clear H; have p329 : 0 ≤ (x12_1 : Int) := of_decide_eq_true zq3; have q329 : x12_1 < (t326.length : Int) := of_decide_eq_true zq3; obtain ⟨ad329, e329, hx329_0⟩ := Kd.at_int (Kd.R_reads' HO_10.out).2.2 x12_1 p329 q329; cases e329; replace p329 := eq_true p329; replace q329 := eq_true q329; go_wp2
      go_loopg [3, 6] k1 (fun kq v3 v6 w' => ∃ (x3_2 : List Int) (x6_2 : Int), v6 = .int .i64 x6_2 ∧ Aside0 (impl_digest.l1 kq x3_2 (rd t326 x12_1) x6_2 t326 (t326.length : Int) x12_1 = some r) ∧ Aside0 (kq ≤ k1) ∧ Aside0 (Kd.R (Kd.int .u8) 5 w' w.heap.size (fun _ => True) v3 x3_2) ∧ Aside0 (Kd.R (Kd.int .u32) 59 w' w.heap.size (fun _ => True) (.slice (some ad329) t326.length co6) t326) ∧ Aside0 (Below w.heap.size w w'))
      case atStart => exact ⟨(x3_1), (28), zq1, H', ⟨Nat.le_refl _⟩, ⟨zq7⟩, ⟨zq155⟩, ⟨zq5⟩⟩
      case round =>
       clear H'; (try clear p2); (try clear p3); (try clear q3); (try clear hx3); (try clear c4); (try clear c6); (try clear c7); (try clear c7b0); (try clear c8); (try clear c8b0); (try clear c9); (try clear c9b0); (try clear hx329_0); (try clear p2); (try clear p329); (try clear q329); obtain ⟨x3_2, x6_2, rfl, HA, HK2, HO_3, HO_10, HB⟩ := hrel
       cases gk with
       | zero => exact absurd HA.out (by simp [impl_digest.l1])
       | succ k2 =>
        have H := HA.out; clear HA; simp only [impl_digest.l1] at H; by_cases c10 : x6_2 ≥ 0
        ·
         rw [if_pos c10] at H; have c10b0 : decide (0 ≤ x6_2) = true := decide_eq_true c10; clear c10; by_cases c11 : 0 ≤ x6_2
         ·
          rw [if_pos c11] at H; have c11b0 := eq_true c11; have c11b1 := decide_eq_true c11; clear c11; obtain ⟨ji12, hji12⟩ : ∃ j_ : Int, (shr .u32 (rd t326 x12_1) x6_2) = j_ := ⟨_, rfl⟩; replace H : (if 0 ≤ (Go.bits .and .u32 (ji12) 15) then (if (Go.bits .and .u32 (ji12) 15) < 16 then (if x3_2.length < 140737488355328 then (impl_digest.l1 k2 (x3_2 ++ [bt (⟨#[48, 49, 50, 51, 52, 53, 54, 55, 56, 57, 97, 98, 99, 100, 101, 102]⟩ : ByteArray) (Go.bits .and .u32 (ji12) 15)]) (rd t326 x12_1) (wrap64 (x6_2 - 4)) t326 (t326.length : Int) x12_1) else (none)) else (none)) else (none)) = some r := by first | (rw [hji12] at H; exact H) | (simp only [hji12] at H ⊢; exact H)
          have hji12_ : ((rd t326 x12_1) / 2 ^ min x6_2.toNat 32) = ji12 := hji12; have hji12z : x6_2 ≤ 32 → ((rd t326 x12_1) / 2 ^ x6_2.toNat) = ji12 := shr_small hji12; by_cases c13 : 0 ≤ (Go.bits .and .u32 (ji12) 15)
          ·
           rw [if_pos c13] at H; have c13b0 := decide_eq_true c13; clear c13; by_cases c14 : (Go.bits .and .u32 (ji12) 15) < 16
           ·
            rw [if_pos c14] at H; have c14b0 := decide_eq_true c14; clear c14; by_cases c16 : x3_2.length < 140737488355328
            ·
             rw [if_pos c16] at H; have LMc16 := aM c16; clear c16; obtain ⟨y330, hy330⟩ : ∃ y_ : List Int, y_ = (x3_2 ++ [bt (⟨#[48, 49, 50, 51, 52, 53, 54, 55, 56, 57, 97, 98, 99, 100, 101, 102]⟩ : ByteArray) (Go.bits .and .u32 (ji12) 15)]) := ⟨_, rfl⟩; have hy_ := hy330; replace H : (impl_digest.l1 k2 y330 (rd t326 x12_1) (wrap64 (x6_2 - 4)) t326 (t326.length : Int) x12_1) = some r := hyE; clear hy_; have Ny330 := aM hy330; clear hy330; have H' := aM H; clear H; have p15 : 0 ≤ ((Go.bits .and .u32 (ji12) 15) : Int) := of_decide_eq_true zq3; have q15 : (Go.bits .and .u32 (ji12) 15) < (16 : Int) := of_decide_eq_true zq3; have hx15 := bt_at (⟨#[48, 49, 50, 51, 52, 53, 54, 55, 56, 57, 97, 98, 99, 100, 101, 102]⟩ : ByteArray) (Go.bits .and .u32 (ji12) 15); replace p15 := eq_true p15; replace q15 := eq_true q15
             go_wp2_with (first | ((with_reducible refine gate_builtin (b := .append) (xs := #[.tmp 20, .tmp 26]) rfl ?_); at_builtin; refine Kd.R_append (Kd.int .u8) (w0 := w) w.heap.size rfl (.tmp 20) (.tmp 26) 31 5 (.int .u8 0) 1 rfl Tryd.underlying31 info5 rfl (by decide) (by omega) u3 x3_2 (bt (⟨#[48, 49, 50, 51, 52, 53, 54, 55, 56, 57, 97, 98, 99, 100, 101, 102]⟩ : ByteArray) (Go.bits .and .u32 (ji12) 15)) [.int .u8 (bt (⟨#[48, 49, 50, 51, 52, 53, 54, 55, 56, 57, 97, 98, 99, 100, 101, 102]⟩ : ByteArray) (Go.bits .and .u32 (ji12) 15))] (fun _ => True) (fun _ => False) rfl rfl ?aP (fun _ hk => hk.elim) ?aF ?aO ?aB ?aS ?aL ?_; (case aP => exact rfl); (case aB => exact zq5); (case aF => exact zq110); (case aO => exact zq7); (case aS => exact zq157); (case aL => have := LMc16.out; omega); intro v331 w17 ho hb hg hat; rw [← Ny330.out] at ho; have n0_ := aM (Kd.R_over' zq155 (Kd.R_typed zq7) (by decide) hg); have n1_ := aM (hb); have n2_ := aM (ho); clear HO_10; clear HB; clear HO_3; have HO_10 := n0_; have HB := n1_; have HO332 := n2_; clear n0_ n1_ n2_; clear ho hb hg hat))
             go_roundg k2
             case measure => have := HK1.out; have := HK2.out; omega
             case rel => exact ⟨(y330), (wrap64 (x6_2 - 4)), zq1, H', ⟨zq119⟩, ⟨by refine dR ?_; exact HO332.out⟩, ⟨zq155⟩, ⟨zq5⟩⟩
            rw [if_neg c16] at H; exact absurd H (by simp)
           rw [if_neg c14] at H; exact absurd H (by simp)
          rw [if_neg c13] at H; exact absurd H (by simp)
         exact zq171
        rw [if_neg c10] at H; have c10b0 : decide (0 ≤ x6_2) = false := decide_eq_false c10; clear c10; have H' := aM H; clear H; go_wp2
        go_roundg k2
        case measure => have := HK1.out; have := HK2.out; omega
        case rel => exact ⟨(x3_2), (wrap64 (x12_1 + 1)), zq1, H', ⟨zq119⟩, ⟨zq7⟩, ⟨zq155⟩, ⟨zq5⟩⟩
     exact zq169
    exact zq162
   rw [if_neg c7] at H; have c7b0 := decide_eq_false c7; clear c7; obtain rfl := Option.some.inj H; have hcv18 := own_string (P := Tryd.prog) Tryd.underlying31 Tryd.underlying5 Tryd.underlying9 (Kd.own_of_R HO_3.out); go_wp2; go_ret; exact ⟨zq8, zq5⟩

/-! ### strings_Join: function 44 (given) -/
theorem strings_Join.extra : Builder.Extra Tryd.prog Tryd.lays156_ren where
  sizeBuilder := by kernel_rfl
  liesBuilder := by kernel_rfl
  t5 := Tryd.underlying5
  a5 := Tryd.isAgg5
  z5 := Tryd.sizeOf5
  v5 := Tryd.zeroValue5
  infoByte := by kernel_rfl
  cellsByte := by kernel_rfl
  sizeByte := by kernel_rfl
  neB5 := by decide
def strings_Join.f (l0 : List ByteArray) (a1 : ByteArray) : Option ByteArray := if l0.length ≤ 140737488355328 ∧ (Lib.join (l0.map (·.data.toList)) a1.data.toList).length ≤ 140737488355328 then some ⟨(Lib.join (l0.map (·.data.toList)) a1.data.toList).toArray⟩ else none
theorem strings_Join.calls (A0 : Option Addr) (c0 : Nat) (l0 : List ByteArray) (a1 : ByteArray) (r : ByteArray) (w : World) (hr0 : Kd.C Kd.string w A0 l0.length l0) (hc0 : l0.length ≤ c0) (h : strings_Join.f l0 a1 = some r) :
    Calls Tryd.prog 44 #[.slice A0 l0.length c0, .string a1] w fun e w' => e = .returned (.string r) ∧ Below w.heap.size w w' := by
  unfold strings_Join.f at h
  split at h
  case isFalse => exact absurd h (by simp)
  rename_i hg
  injection h with h
  subst h
  rcases Nat.eq_zero_or_pos l0.length with hz | hp
  · obtain rfl : l0 = [] := List.length_eq_zero_iff.1 hz
    refine (Any.strings_Join_none Tryd.lays156 strings_Join.extra A0 c0 a1 w).mono ?_; rintro e w' ⟨rfl, rfl⟩; exact ⟨rfl, Below.refl _ _⟩
  · obtain ⟨ad, rfl, h0⟩ := Kd.at_string hr0 0 (by omega) (by omega)
    have hb := World.block_lt_of_cell? w _ h0; obtain ⟨bk, o, pt⟩ := ad
    obtain rfl : pt = none := by
      cases pt with
      | none => rfl
      | some q =>
        simp [World.cell?, Addr.add] at h0
        split at h0 <;> cases h0
    refine (Any.strings_Join Tryd.lays156 strings_Join.extra bk o c0 l0 a1 w (fun j x hj => ?_) hb hg.1 hc0 hg.2).mono ?_
    · have hlt : j < l0.length := by
        rcases Nat.lt_or_ge j l0.length with q | q
        · exact q
        · rw [List.getElem?_eq_none q] at hj; cases hj
      obtain ⟨ad2, e2, h2⟩ := Kd.at_string hr0 (j : Int) (by omega) (by omega)
      injection e2 with e2
      subst e2
      have e3 : rdOf ByteArray.empty l0 (j : Int) = x := by
        rw [List.getElem?_eq_getElem hlt] at hj
        injection hj with hj
        rw [← hj]
        simp [rdOf, hlt]
      rw [e3] at h2; by_cases hj0 : j = 0
      · subst hj0
        simpa [Addr.add] using h2
      · simpa [Addr.add, hj0] using h2
    · rintro e w' ⟨rfl, hb2⟩
      exact ⟨rfl, hb2⟩

/-! ### impl_nodeOf: function 25 (walked by hand) -/

def impl_nodeOf.hexs : ByteArray := ⟨#[48, 49, 50, 51, 52, 53, 54, 55, 56, 57, 97, 98, 99, 100, 101, 102]⟩
def impl_nodeOf.hexC (i : Nat) : Int := ((impl_nodeOf.hexs.data.getD i 0).toNat : Int)
def impl_nodeOf.adv (w : World) (g j : Nat) : World := { w with heap := w.heap.setIfInBounds g (.stringIter impl_nodeOf.hexs j) }
theorem impl_nodeOf.ascii (i : Nat) (hi : i < 16) : (impl_nodeOf.hexs.data.getD i 0).toNat < 128 := (by decide : ∀ q : Fin 16, (impl_nodeOf.hexs.data.getD q.1 0).toNat < 128) ⟨i, hi⟩
theorem impl_nodeOf.next (w : World) (g i : Nat) (hi : i < 16) (hg : w.heap[g]? = some (.stringIter impl_nodeOf.hexs i)) (ty : TypeId) :
  (Instr.next (.pointer (some ⟨g, 0, none⟩)) true ty).run Tryd.prog w = .ok (.tuple #[.bool true, .int .i64 i, .int .i32 (impl_nodeOf.hexC i)]) (impl_nodeOf.adv w g (i + 1)) := by
 have h : i < impl_nodeOf.hexs.size := hi
 have e : impl_nodeOf.hexs[i]'h = impl_nodeOf.hexs.data.getD i 0 := by
  show impl_nodeOf.hexs.data[i]'hi = _; rw [Array.getD_eq_getD_getElem?, Array.getElem?_eq_getElem hi]; rfl
 have ha : (impl_nodeOf.hexs[i]'h).toNat < 128 := by rw [e]; exact impl_nodeOf.ascii i hi
 simp only [Instr.next, getObj, setObj, Sem.run_bind, Sem.run, hg, Result.andThen, h, if_true, decode_ascii _ i h ha]
 simp [goInt, impl_nodeOf.adv, impl_nodeOf.hexC, e]
theorem impl_nodeOf.nextEnd (w : World) (g : Nat) (hg : w.heap[g]? = some (.stringIter impl_nodeOf.hexs 16)) (ty : TypeId) :
  (Instr.next (.pointer (some ⟨g, 0, none⟩)) true ty).run Tryd.prog w = .ok (.tuple #[.bool false]) w := by
 have h : ¬ 16 < impl_nodeOf.hexs.size := by decide
 simp [Instr.next, getObj, Sem.run, hg, h]
theorem impl_nodeOf.kept (w : World) (g j : Nat) : Kept w (impl_nodeOf.adv w g j) (fun k => k = g) :=
 ⟨by simp [impl_nodeOf.adv], fun k _ hn => by simp only [impl_nodeOf.adv]; rw [Array.getElem?_setIfInBounds_ne (fun e => hn e.symm)]⟩
theorem impl_nodeOf.below {B g j : Nat} {a w : World} (h : Below B a w) (hg : B ≤ g) : Below B a (impl_nodeOf.adv w g j) :=
 ⟨h.os, h.tape, h.output, by simpa [impl_nodeOf.adv] using h.size, fun k hk => by
  have : (impl_nodeOf.adv w g j).heap[k]? = w.heap[k]? := by simp only [impl_nodeOf.adv]; rw [Array.getElem?_setIfInBounds_ne (by omega)]
  exact this.trans (h.block k hk)⟩
theorem impl_nodeOf.at_ {w : World} {g i : Nat} (j : Nat) (hg : w.heap[g]? = some (.stringIter impl_nodeOf.hexs i)) : (impl_nodeOf.adv w g j).heap[g]? = some (.stringIter impl_nodeOf.hexs j) := by
 have hlt : g < w.heap.size := (Array.getElem?_eq_some_iff.1 hg).1
 simp [impl_nodeOf.adv, hlt]
/-- The rounds over the sixteen digits. -/
def impl_nodeOf.lp (f : ByteArray → Option ByteArray) (p : ByteArray) : Nat → Nat → ByteArray → Option ByteArray
 | 0, _, acc => some acc
 | d + 1, i, acc => if p.size + (Utf8.encode (impl_nodeOf.hexC i)).size ≤ 9223372036854775807 then ((f (p ++ Utf8.encode (impl_nodeOf.hexC i))).bind fun t => if acc.size + t.size ≤ 9223372036854775807 then impl_nodeOf.lp f p d (i + 1) (acc ++ t) else none) else none
theorem impl_nodeOf.lp_mono {f g : ByteArray → Option ByteArray} (h : ∀ q, LeO (f q) (g q)) (p : ByteArray) : ∀ d i acc, LeO (impl_nodeOf.lp f p d i acc) (impl_nodeOf.lp g p d i acc)
 | 0, _, _ => LeO.refl _
 | d + 1, i, acc => by
  unfold impl_nodeOf.lp; exact LeO.ite (LeO.bind (h _) (fun t => LeO.ite (impl_nodeOf.lp_mono h p d _ _) (LeO.refl _))) (LeO.refl _)
def impl_nodeOf.f : Nat → List ByteArray → ByteArray → Option ByteArray
 | 0, _, _ => none
 | k + 1, l0, a1 => (impl_under.f k l0 a1).bind fun s => if (a1.size : Int) = 2 then ((strings_Join.f s (⟨#[]⟩ : ByteArray)).bind fun j => impl_digest.f k j) else ((impl_nodeOf.lp (fun q => impl_nodeOf.f k s q) a1 16 0 (⟨#[]⟩ : ByteArray)).bind fun a => impl_digest.f k a)
theorem impl_nodeOf.mono_l : ∀ k, ∀ a0 a1, LeO (impl_nodeOf.f k a0 a1) (impl_nodeOf.f (k + 1) a0 a1)
 | 0 => fun _ _ r h => by simp [impl_nodeOf.f] at h
 | k + 1 => fun a0 a1 => by
  have ih := impl_nodeOf.mono_l k; rw [impl_nodeOf.f.eq_2, impl_nodeOf.f.eq_2]; exact LeO.bind (impl_under.mono _ _ _) (fun s => LeO.ite (LeO.bind (LeO.refl _) (fun j => impl_digest.mono _ _)) (LeO.bind (impl_nodeOf.lp_mono (fun q => ih s q) _ _ _ _) (fun a => impl_digest.mono _ _)))
theorem impl_nodeOf.mono : ∀ a0 a1 k, LeO (impl_nodeOf.f k a0 a1) (impl_nodeOf.f (k + 1) a0 a1) := fun a0 a1 k => impl_nodeOf.mono_l k a0 a1
set_option maxHeartbeats 8000000 in
set_option maxRecDepth 100000 in
theorem impl_nodeOf.calls (k : Nat) : ∀ (A0 : Option Addr) (c0 : Nat) (l0 : List ByteArray) (a1 : ByteArray) (r : ByteArray) (w : World) (hr0 : Kd.C Kd.string w A0 l0.length l0) (hc0 : l0.length ≤ c0) (h : impl_nodeOf.f k l0 a1 = some r),
  Calls Tryd.prog 25 #[.slice A0 l0.length c0, .string a1] w fun e w' => e = .returned (.string r) ∧ Below w.heap.size w w' := by
 induction k with
 | zero => intro A0 c0 l0 a1 r w hr0 hc0 h; simp [impl_nodeOf.f] at h
 | succ k ih =>
  intro A0 c0 l0 a1 r w hr0 hc0 h; have HR := aM hr0; have HC := aM hc0; have IH := aM ih; rw [impl_nodeOf.f.eq_2] at h; obtain ⟨s, hs, h⟩ := Option.bind_eq_some_iff.mp h; have HS := aM hs; clear hr0 hc0 hs ih; by_cases c2 : (a1.size : Int) = 2
  ·
   rw [if_pos c2] at h; obtain ⟨j, hj, h⟩ := Option.bind_eq_some_iff.mp h; have HJ := aM hj; have HD := aM h; clear hj h; have d1 := decide_eq_true c2; have d2 : ((a1.size : Int) == 2) = true := by simpa using c2
   clear c2; go_enter Tryd.func25, Tryd.ntmps25
   go_wp2_with (fail)
   refine (impl_under.calls k A0 c0 l0 a1 s _ HR.out HC.out HS.out).mono ?_; rintro e w2 ⟨v, rfl, hO, hb⟩; obtain ⟨A, c, rfl⟩ := Kd.R_slice hO; obtain ⟨_, hc, hC⟩ := Kd.R_reads' hO; have HB := aM hb; have HC2 := aM hc; have HR2 := aM hC; clear hO hb hc hC
   try dsimp only
   go_wp2_with (fail)
   refine (strings_Join.calls A c s _ j _ HR2.out HC2.out HJ.out).mono ?_; rintro e w3 ⟨rfl, hb⟩; replace HB := sB HB.out hb; clear hb
   try dsimp only
   go_wp2_with (fail)
   refine (impl_digest.calls k j r _ HD.out).mono ?_; rintro e w4 ⟨rfl, hb⟩; replace HB := sB HB.out hb; clear hb
   try dsimp only
   go_wp2; go_ret; exact ⟨rfl, HB.out⟩
  rw [if_neg c2] at h; obtain ⟨a, ha, h⟩ := Option.bind_eq_some_iff.mp h; have HA := aM ha; have HD := aM h; clear ha h; have d1 := decide_eq_false c2; have d2 : ((a1.size : Int) == 2) = false := by simpa using c2
  clear c2; go_enter Tryd.func25, Tryd.ntmps25
  go_wp2_with (fail)
  refine (impl_under.calls k A0 c0 l0 a1 s _ HR.out HC.out HS.out).mono ?_; rintro e w2 ⟨v, rfl, hO, hb⟩; obtain ⟨A, c, rfl⟩ := Kd.R_slice hO; have HB := aM hb; have HG := aM hb.size; have HO := aM (Kd.R_mono (ok' := fun q => q ≠ w2.heap.size) (Kd.R_bound hO) (fun q hq => Nat.ne_of_lt hq.2.2.1)); clear hO hb
  try dsimp only
  go_wp2
  go_loopg [5] 16 (fun kq v5 w' => ∃ (i : Nat) (acc : ByteArray), v5 = .string acc ∧ Aside0 (i + kq = 16) ∧ Aside0 (impl_nodeOf.lp (fun q => impl_nodeOf.f k s q) a1 kq i acc = some a) ∧ Aside0 (Below w.heap.size w w') ∧ Aside0 (w'.heap[w2.heap.size]? = some (.stringIter impl_nodeOf.hexs i)) ∧ Aside0 (Kd.R Kd.string 9 w' w.heap.size (fun q => q ≠ w2.heap.size) (.slice A s.length c) s))
  case atStart => exact ⟨0, ⟨#[]⟩, rfl, ⟨rfl⟩, HA, ⟨below_alloc HB.out _⟩, ⟨World.iter_heap _ _ _⟩, ⟨Kd.R_step HO.out (fun q _ hq => by first | exact heap_alloc_old _ _ hq | (simp [World.iter, World.alloc, Array.getElem?_push, Nat.ne_of_lt hq]))⟩⟩
  case round =>
   obtain ⟨i, acc, rfl, hi, HL, HBr, HI, HRr⟩ := hrel
   cases gk with
   | zero =>
    have e16 : i = 16 := by have := hi.out; omega
    subst e16; have hnx := impl_nodeOf.nextEnd _ _ HI.out; have e1 := HL.out; unfold impl_nodeOf.lp at e1
    injection e1 with e1
    subst e1
    go_wp2_with (fail)
    refine (impl_digest.calls k acc r _ HD.out).mono ?_; rintro e w4 ⟨rfl, hb⟩; have HB4 := aM (below_step HBr.out hb); clear hb
    try dsimp only
    go_wp2; go_ret; exact ⟨rfl, HB4.out⟩
   | succ k1 =>
    have hnx := impl_nodeOf.next _ _ i zq11 HI.out; have E := HL.out; unfold impl_nodeOf.lp at E; clear HL; generalize impl_nodeOf.hexC i = ch at hnx E
    split at E
    case isFalse => cases E
    rename_i g1
    obtain ⟨t, ht, E⟩ := Option.bind_eq_some_iff.mp E
    split at E
    case isFalse => cases E
    rename_i g2
    have HT := aM ht; have HE := aM E; have HB2 := aM (impl_nodeOf.below (j := i + 1) HBr.out HG.out); have HI2 := aM (impl_nodeOf.at_ (i + 1) HI.out); have HR2 := aM (Kd.R_mono (Kd.R_keptB HRr.out (impl_nodeOf.kept _ w2.heap.size (i + 1)) (fun q hq => hq)) (fun q hq => hq.1)); obtain ⟨_, hc, hC⟩ := Kd.R_reads' HR2.out; have HC3 := aM hc; have HR3 := aM hC; clear ht E hc hC
    go_wp2_with (fail)
    refine (IH.out A c s _ t _ HR3.out HC3.out HT.out).mono ?_; rintro e w7 ⟨rfl, hb⟩; have HB3 := aM (below_step HB2.out hb); have HI3 : Aside0 (w7.heap[w2.heap.size]? = some (.stringIter impl_nodeOf.hexs (i + 1))) := ⟨(hb.block _ (Array.getElem?_eq_some_iff.1 HI2.out).1).trans HI2.out⟩; have HR4 := aM (Kd.R_step HR2.out (fun q _ hq => hb.block q hq)); clear hb
    try dsimp only
    go_wp2
    go_roundg k1
    case measure => omega
    case rel => exact ⟨i + 1, acc ++ t, rfl, ⟨zq11⟩, HE, HB3, HI3, HR4⟩

/-! ### slices_Clone_string_string: function 48 (given) -/
def slices_Clone_string_string.f (l0 : List ByteArray) : Option (List ByteArray) := if l0.length ≤ 8796093022208 then some l0 else none
theorem slices_Clone_string_string.calls (A0 : Option Addr) (c0 : Nat) (l0 : List ByteArray) (r : List ByteArray) (w : World) (hr0 : Kd.C Kd.string w A0 l0.length l0) (hc0 : l0.length ≤ c0) (h : slices_Clone_string_string.f l0 = some r) :
    Calls Tryd.prog 48 #[.slice A0 l0.length c0] w fun e w' => ∃ v0_ : Value, e = .returned (v0_) ∧ Kd.R Kd.string 9 w' w.heap.size (fun _ => True) v0_ r ∧ Below w.heap.size w w' := by
  unfold slices_Clone_string_string.f at h
  split at h
  case isFalse => exact absurd h (by simp)
  rename_i hg
  injection h with h
  subst h
  rcases Nat.eq_zero_or_pos l0.length with hz | hp
  · obtain rfl : l0 = [] := List.length_eq_zero_iff.1 hz
    cases A0 with
    | none =>
      refine (Any.slices_Clone_string_nil Tryd.lays2_16 0 c0 w).mono ?_; rintro e w' ⟨rfl, rfl⟩; exact ⟨_, rfl, Kd.R_nil _ _ _ _ _, Below.refl _ _⟩
    | some a =>
      refine (Any.slices_Clone_string_zero Tryd.lays2_16 a c0 w).mono ?_; rintro e w' ⟨v, rfl, ho, _, hb⟩; exact ⟨_, rfl, Kd.R_of_own (enc := Value.string) (OwnsM.of ho) (fun _ _ => trivial), hb⟩
  · obtain ⟨ad, rfl, h0⟩ := Kd.at_string hr0 0 (by omega) (by omega)
    obtain ⟨bk, o, pt⟩ := ad
    obtain rfl : pt = none := by
      cases pt with
      | none => rfl
      | some q =>
        simp [World.cell?, Addr.add] at h0
        split at h0 <;> cases h0
    have hc := Any.slices_Clone_string Tryd.lays2_16 bk o l0.length c0 l0 w (Nat.le_refl _) (by omega) (fun j hj => by
      obtain ⟨ad2, e2, h2⟩ := Kd.at_string hr0 (j : Int) (by omega) (by omega)
      injection e2 with e2
      subst e2; rw [show rdOf ByteArray.empty l0 (j : Int) = l0.getD j ByteArray.empty from rfl] at h2; by_cases hj0 : j = 0
      · subst hj0
        simpa [Addr.add] using h2
      · simpa [Addr.add, hj0] using h2)
    rw [List.take_length] at hc; refine hc.mono ?_; rintro e w' ⟨v, rfl, ho, _, hb⟩; exact ⟨_, rfl, Kd.R_of_own (enc := Value.string) (OwnsM.of ho) (fun _ _ => trivial), hb⟩

/-! ### impl_missing: function 30 (walked by hand) -/

def impl_missing.inB (l1 : List ByteArray) (x : ByteArray) : Bool := l1.any fun y => x.toList == y.toList
def impl_missing.f (l0 : List ByteArray) (l1 : List ByteArray) : Option (List ByteArray) := if l0.length ≤ 8796093022208 ∧ l1.length ≤ 9223372036854775807 then some (l0.filter fun d => !(impl_missing.inB l1 d)) else none
theorem impl_missing.has (A1 : Option Addr) (c1 : Nat) (l1 : List ByteArray) (x : ByteArray) (w : World) (hr1 : Kd.C Kd.string w A1 l1.length l1) (hl : l1.length ≤ 9223372036854775807) :
  Calls Tryd.prog 50 #[.slice A1 l1.length c1, .string x] w fun e w' => e = .returned (.bool (impl_missing.inB l1 x)) ∧ w' = w := by
 rcases Nat.eq_zero_or_pos l1.length with hz | hp
 ·
  obtain rfl : l1 = [] := List.length_eq_zero_iff.1 hz; exact AnyE.slices_Contains_empty Tryd.laysCt A1 c1 (.string x) w
 obtain ⟨ad, rfl, h0⟩ := Kd.at_string hr1 0 (by omega) (by omega); obtain ⟨bk, o, pt⟩ := ad
 obtain rfl : pt = none := by
  cases pt with
  | none => rfl
  | some q =>
   simp [World.cell?, Addr.add] at h0
   split at h0 <;> cases h0
 have hc := AnyE.slices_Contains Tryd.laysCt Value.string (fun x y => x.toList == y.toList) (EqlAt.string _ _) bk o l1.length c1 l1 x w (Nat.le_refl _) hl (fun j hj => by
  obtain ⟨ad2, e2, h2⟩ := Kd.at_string hr1 (j : Int) (by omega) (by omega)
  injection e2 with e2
  subst e2; rw [show rdOf ByteArray.empty l1 (j : Int) = l1[j]! by rw [getElem!_pos l1 j hj]; simp [rdOf, hj]] at h2; by_cases hj0 : j = 0
  ·
   subst hj0
   simpa [Addr.add] using h2
  simpa [Addr.add, hj0] using h2)
 rw [List.take_length] at hc; exact hc
set_option maxHeartbeats 2000000 in
set_option maxRecDepth 100000 in
theorem impl_missing.gives (A1 : Option Addr) (c1 : Nat) (l1 : List ByteArray) (x : ByteArray) (gb : Nat) (W : World) (hcell : W.cell? ⟨gb, 0, none⟩ = some (.slice A1 l1.length c1)) (hr1 : Kd.C Kd.string W A1 l1.length l1) (hl : l1.length ≤ 9223372036854775807) :
  FnGives Tryd.prog 49 #[.pointer (some ⟨gb, 0, none⟩)] #[.string x] (.bool (impl_missing.inB l1 x)) W := by
 have hh := aM (impl_missing.has A1 c1 l1 x W hr1 hl); clear hr1; show Calls Tryd.prog 49 #[.string x, .pointer (some ⟨gb, 0, none⟩)] W _; generalize impl_missing.inB l1 x = b at hh; go_enter Tryd.func49, Tryd.ntmps49
 go_wp2_with (fail)
 refine hh.out.mono ?_; rintro e w' ⟨rfl, rfl⟩
 try dsimp only
 go_wp2; go_ret; exact ⟨rfl, 0, rfl⟩
theorem impl_missing.enc_back (l : List ByteArray) (q : ByteArray → Bool) : ((l.map fun s => s.data.toList).filter fun b => q ⟨b.toArray⟩) = (l.filter q).map fun s => s.data.toList := by
 rw [List.filter_map]
 rfl
theorem impl_missing.encs_of (ts : List ByteArray) : (ts.map fun s => s.data.toList).map Go.Proofs.encStr = encs Value.string ts := by simp [encs, Go.Proofs.encStr, Function.comp_def]
set_option maxHeartbeats 2000000 in
set_option maxRecDepth 100000 in
/-- The row v without what l1 has. -/
theorem impl_missing.del (A1 : Option Addr) (c1 : Nat) (l0 l1 : List ByteArray) (v : Value) (gb base : Nat) (w W : World) (hB : Below w.heap.size w W) (hg : gb = w.heap.size) (hcell : W.cell? ⟨gb, 0, none⟩ = some (.slice A1 l1.length c1)) (hr1 : Kd.C Kd.string w A1 l1.length l1)
  (hl0 : l0.length ≤ 8796093022208) (hl : l1.length ≤ 9223372036854775807) (hb0 : w.heap.size < base) (ho : Kd.R Kd.string 9 W base (fun _ => True) v l0) :
  Calls Tryd.prog 47 #[v, .func (.func 49) #[] #[.pointer (some ⟨gb, 0, none⟩)]] W fun e w' => ∃ v0_ : Value, e = .returned v0_ ∧ Kd.R Kd.string 9 w' w.heap.size (fun _ => True) v0_ (l0.filter fun d => !(impl_missing.inB l1 d)) ∧ Below w.heap.size w w' := by
 have eg : ∀ args w, (callFunc 49 args).run Tryd.prog w = .ok (.enter 49 args) w := enters_of Tryd.func49 (by kernel_rfl) rfl; obtain ⟨_, ⟨rfl, hn⟩ | ⟨g, cap, cur, rfl, hb, hh, hcap, hm, hs, ht⟩⟩ := Kd.own_of_R (enc := Value.string) ho
 ·
  obtain rfl : l0 = [] := List.length_eq_zero_iff.1 hn; have hI := AnyE.slices_IndexFunc_empty { Tryd.laysDF with } none 0 (.func (.func 49) #[] #[.pointer (some ⟨gb, 0, none⟩)]) W
  change Calls Tryd.prog 69 _ _ _ at hI
  clear ho hr1 hcell eg hg; have HB := aM hB; have HI := aM hI; clear hB hI; go_enter Tryd.func47, Tryd.ntmps47
  go_wp2_with (fail)
  refine HI.out.mono ?_; rintro e w' ⟨rfl, rfl⟩
  try dsimp only
  go_wp2; go_ret; exact ⟨_, rfl, Kd.R_nil _ _ _ _ _, HB.out⟩
 have hgb : gb ≠ g := by omega
 have hgw : w.heap.size ≤ g := by omega
 have hplain := hh.plain (by decide); rw [Nat.mul_one] at hs ht; have e0 : (l0.map fun s => s.data.toList).length = l0.length := by simp
 have hH := holds_of_block (ss := l0.map fun s => s.data.toList) hplain (by rw [e0, impl_missing.encs_of]; exact ht); have hg0 : gb < W.heap.size := World.block_lt_of_cell? W ⟨gb, 0, none⟩ hcell
 have hp : PredAt Tryd.prog 49 #[.pointer (some ⟨gb, 0, none⟩)] Go.Proofs.encStr (fun b => impl_missing.inB l1 ⟨b.toArray⟩) W := fun V x hV =>
  impl_missing.gives A1 c1 l1 ⟨x.toArray⟩ gb V ((hV.cell (p := ⟨gb, 0, none⟩) hg0).trans hcell) (Kd.C_below hr1 (below_then hB hB.size hV)) hl
 have hpo : PredOver Tryd.prog 49 #[.pointer (some ⟨gb, 0, none⟩)] Go.Proofs.encStr (fun b => impl_missing.inB l1 ⟨b.toArray⟩) g 0 (l0.map fun s => s.data.toList).toArray.size W := fun n os dk x _ => by
  have hgr := grownBy_sorted (w := W) (g := g) (n := n) (os := os) dk
  refine impl_missing.gives A1 c1 l1 ⟨x.toArray⟩ gb _ ?_ (Kd.C_below hr1 (hB.grown hgr hB.size (fun k hk => by
   obtain rfl : g = k := by simpa using hk
   exact hgw))) hl
  unfold sortWorld; rw [Go.Sort.cell?_grow _ _ _ (by show gb < (Go.Sort.putRow _ _ _ _ _).heap.size; rw [Go.Sort.size_putRow]; exact hg0), Go.Sort.cell?_putRow_other _ _ g 0 _ _ (Or.inl hgb)]; exact hcell
 have hc := AnyE.slices_DeleteFunc Tryd.laysDF Go.Proofs.encStr (fun _ => rfl) (fun b => impl_missing.inB l1 ⟨b.toArray⟩) 49 #[.pointer (some ⟨gb, 0, none⟩)] eg [] Tryd.zeroValue9 g 0 cap (l0.map fun s => s.data.toList).toArray W hp hpo hH (by simp; omega) (by simp; omega); simp only [List.size_toArray, e0] at hc; rw [impl_missing.enc_back l0 (fun d => !(impl_missing.inB l1 d))] at hc; have hle : (l0.filter fun d => !(impl_missing.inB l1 d)).length ≤ l0.length := List.length_filter_le _ _; generalize (l0.filter fun d => !(impl_missing.inB l1 d)) = r at hc hle; rw [List.length_map] at hc; refine hc.mono ?_; rintro e w' ⟨rfl, n, rfl⟩; generalize hus : (r.map fun s => s.data.toList) ++ List.replicate (l0.length - r.length) [] = us; have hul : us.length = l0.length := by rw [← hus, List.length_append, List.length_replicate, List.length_map]; omega
 have hgr := grownBy_sorted (w := W) (g := g) (n := n) (os := #[]) us.toArray; have hh' := heap_sorted (n := n) (os := #[]) us.toArray hplain; rw [show ∀ W : World, Go.Sort.grow W #[] = W from fun W => by cases W; simp [Go.Sort.grow]] at hgr hh'; have htk := take_putCells cur us (by omega)
 have htk2 : (Go.Sort.putCells Go.Proofs.encStr 0 us.toArray cur).toList.take r.length = encs Value.string r := by
  have h1 := congrArg (List.take r.length) htk; rw [List.take_take, Nat.min_eq_left (by omega)] at h1; rw [h1, ← hus, List.map_append, List.take_left' (by simp), impl_missing.encs_of]
 refine ⟨_, rfl, Kd.R_of_own (enc := Value.string) ⟨by simp [encs], .inr ⟨g, cap, _, rfl, hgw, Held.of hh', by omega, hm, by simp [Go.Sort.putCells, hs], by rw [Nat.mul_one]; exact htk2⟩⟩ (fun _ _ => trivial), hB.grown hgr hB.size (fun k hk => ?_)⟩; obtain rfl : g = k := by simpa using hk
 exact hgw
set_option maxHeartbeats 4000000 in
set_option maxRecDepth 100000 in
theorem impl_missing.calls (A0 : Option Addr) (c0 : Nat) (l0 : List ByteArray) (A1 : Option Addr) (c1 : Nat) (l1 : List ByteArray) (r : List ByteArray) (w : World) (hr0 : Kd.C Kd.string w A0 l0.length l0) (hc0 : l0.length ≤ c0) (hr1 : Kd.C Kd.string w A1 l1.length l1) (hc1 : l1.length ≤ c1) (h : impl_missing.f l0 l1 = some r) :
  Calls Tryd.prog 30 #[.slice A0 l0.length c0, .slice A1 l1.length c1] w fun e w' => ∃ v0_ : Value, e = .returned (v0_) ∧ Kd.R Kd.string 9 w' w.heap.size (fun _ => True) v0_ r ∧ Below w.heap.size w w' := by
 unfold impl_missing.f at h
 split at h
 case isFalse => exact absurd h (by simp)
 rename_i hg
 injection h with h
 subst h; obtain ⟨hg0, hg1⟩ := hg; have HR0 := aM hr0; have HR1 := aM hr1; have HC0 := aM hc0; have HG := aM (And.intro hg0 hg1); clear hr0 hr1 hc0 hc1 hg0 hg1; go_enter Tryd.func30, Tryd.ntmps30
 go_wp2_with (fail)
 refine (slices_Clone_string_string.calls A0 c0 l0 l0 _ (Kd.C_alloc HR0.out _) HC0.out (by unfold slices_Clone_string_string.f; rw [if_pos HG.out.1])).mono ?_; rintro e w2 ⟨v, rfl, hO, hb⟩; have HB := aM (below_then (below_alloc (Below.refl w.heap.size w) (.cells #[.slice A1 l1.length c1] 22)) (below_alloc (Below.refl w.heap.size w) (.cells #[.slice A1 l1.length c1] 22)).size hb); have hnew := heap_alloc_new w (.cells #[.slice A1 l1.length c1] 22); have hlt := aM (Array.getElem?_eq_some_iff.1 hnew).1; have HCell : Aside0 (w2.cell? ⟨w.heap.size, 0, none⟩ = some (.slice A1 l1.length c1)) := ⟨(hb.cell (p := ⟨w.heap.size, 0, none⟩) hlt.out).trans (blk_cell hnew 0)⟩; clear hnew; have HO := aM hO; clear hb hO
 try dsimp only
 go_wp2_with (fail)
 refine (impl_missing.del A1 c1 l0 l1 v w.heap.size _ w w2 HB.out rfl HCell.out HR1.out HG.out.1 HG.out.2 hlt.out HO.out).mono ?_; rintro e w3 ⟨v0, rfl, hO, hb⟩; have HB := aM hb; have HO := aM hO; clear hb hO
 try dsimp only
 go_wp2; go_ret; exact ⟨_, rfl, HO.out, HB.out⟩

end Go.Proofs.YtoeomljkhabifaaDoor.QFnExactSteps
