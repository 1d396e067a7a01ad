/- Written by wip/myprint.py of this repo (the kit's print, with additions of this session). -/
import Derived.Test.YtoeomljkhabifaaDoorQFnDiffx0
import Derived.Test.YtoeomljkhabifaaDoorQFnDiffx1
import Derived.Test.YtoeomljkhabifaaDoorQFnDiffx2
set_option maxRecDepth 100000
namespace Go.Proofs.YtoeomljkhabifaaDoor.QFnDiff
open Go.RowKit Go.Proofs.YtoeomljkhabifaaDoorW.PrintWords Go.Proofs.YtoeomljkhabifaaDoorW.PrintLast Go.Proofs.YtoeomljkhabifaaDoorW.PrintMore
attribute [local go_sem] max2_int min2_int max_two min_two max_three min_three max_four min_four   -- for this text's walks alone
set_option linter.unusedVariables false
set_option linter.unusedSimpArgs false

attribute [local go_sem high] binOp_leqS binOp_gtrS
/-! ### impl_digest: function 43 -/
mutual
def impl_digest.l0 : Nat → List Int → List Int → Int → Int → Option (ByteArray)
 | 0, _, _, _, _ => none
 | k + 1, x3, x10, x11, x12 => if x12 < x11 then (if 0 ≤ x12 then (if x12 < (x10.length : Int) then (impl_digest.l1 k x3 (rd x10 x12) 28 x10 x11 x12) else (none)) else (none)) else (some (strOfNums x3))
def impl_digest.l1 : Nat → List Int → Int → Int → List Int → Int → Int → Option (ByteArray)
 | 0, _, _, _, _, _, _ => none
 | k + 1, x3, x5, x6, x10, x11, x12 => if x6 ≥ 0 then (if 0 ≤ x6 then (if 0 ≤ (Go.bits .and .u32 (shr .u32 x5 x6) 15) then (if (Go.bits .and .u32 (shr .u32 x5 x6) 15) < 16 then (if x3.length < 140737488355328 then (impl_digest.l1 k (x3 ++ [bt (⟨#[48, 49, 50, 51, 52, 53, 54, 55, 56, 57, 97, 98, 99, 100, 101, 102]⟩ : ByteArray) (Go.bits .and .u32 (shr .u32 x5 x6) 15)]) x5 (wrap64 (x6 - 4)) x10 x11 x12) else (none)) else (none)) else (none)) else (none)) else (impl_digest.l0 k x3 x10 x11 (wrap64 (x12 + 1)))
end
def impl_digest.f (k : Nat) (a0 : ByteArray) : Option (ByteArray) := (impl_sum.f a0).bind fun t137 => (impl_digest.l0 k (([115, 104, 97, 50, 53, 54, 58] : List Int)) t137 (t137.length : Int) 0)
theorem impl_digest.mono_l : ∀ k, (∀ y0 y1 y2 y3, LeO (impl_digest.l0 k y0 y1 y2 y3) (impl_digest.l0 (k + 1) y0 y1 y2 y3)) ∧ (∀ y0 y1 y2 y3 y4 y5, LeO (impl_digest.l1 k y0 y1 y2 y3 y4 y5) (impl_digest.l1 (k + 1) y0 y1 y2 y3 y4 y5))
 | 0 => ⟨fun _ _ _ _ r h => by simp [impl_digest.l0] at h, fun _ _ _ _ _ _ r h => by simp [impl_digest.l1] at h⟩
 | k + 1 => by
  obtain ⟨ih0, ih1⟩ := impl_digest.mono_l k; refine ⟨?_, ?_⟩
  ·
   intro y0 y1 y2 y3; unfold impl_digest.l0
   repeat' first
   | (with_reducible apply ih0)
   | (with_reducible apply ih1)
   | (with_reducible exact LeO.refl _)
   | (with_reducible exact LeO.none _)
   | (with_reducible refine LeO.ite ?_ ?_)
   | (with_reducible refine LeO.bind ?_ (fun _ => ?_))
   | exact LeO.none _
   | refine LeO.ite ?_ ?_
   | refine LeO.bind ?_ (fun _ => ?_)
  intro y0 y1 y2 y3 y4 y5; unfold impl_digest.l1
  repeat' first
  | (with_reducible apply ih0)
  | (with_reducible apply ih1)
  | (with_reducible exact LeO.refl _)
  | (with_reducible exact LeO.none _)
  | (with_reducible refine LeO.ite ?_ ?_)
  | (with_reducible refine LeO.bind ?_ (fun _ => ?_))
  | exact LeO.none _
  | refine LeO.ite ?_ ?_
  | refine LeO.bind ?_ (fun _ => ?_)
theorem impl_digest.mono : ∀ a0 k, LeO (impl_digest.f k a0) (impl_digest.f (k + 1) a0) := by
 intro a0 k; obtain ⟨ih0, ih1⟩ := impl_digest.mono_l k; unfold impl_digest.f
 repeat' first
   | (with_reducible apply ih0)
   | (with_reducible apply ih1)
   | (with_reducible exact LeO.refl _)
   | (with_reducible exact LeO.none _)
   | (with_reducible refine LeO.ite ?_ ?_)
   | (with_reducible refine LeO.bind ?_ (fun _ => ?_))
   | exact LeO.none _
   | refine LeO.ite ?_ ?_
   | refine LeO.bind ?_ (fun _ => ?_)
set_option maxHeartbeats 8000000 in
set_option maxRecDepth 100000 in
theorem impl_digest.calls (k : Nat) (a0 : ByteArray) (r : ByteArray) (w : World) (h : impl_digest.f k a0 = some r) :
  Calls Tryd.prog 43 #[.string a0] w fun e w' => e = .returned (.string r) ∧ Below w.heap.size w w' := by
 have HB := aM (Below.refl w.heap.size w); unfold impl_digest.f at h; have H := h; clear h; obtain ⟨y134, hy134⟩ : ∃ y_ : List Int, y_ = (([115, 104, 97, 50, 53, 54, 58] : List Int)) := ⟨_, rfl⟩; have hy_ := hy134; replace H : ((impl_sum.f a0).bind fun t137 => (impl_digest.l0 k y134 t137 (t137.length : Int) 0)) = some r := hyE; clear hy_; have Ny134 := aM hy134; clear hy134; replace H := Option.bind_eq_some_iff.mp H; obtain ⟨t137, A20, H⟩ := H; (try dsimp only at H); have A2 := aM A20; clear A20; have H' := aM H; clear H; go_enter Tryd.func43, Tryd.ntmps43
 go_wp2_with (first | ((with_reducible refine gD 7 rfl ?_); refine Kd.R_litc _ 5 ?hg ?hg2 (N := 7) (N2 := 8) ?hd ?hd2 31 ?hc (xs := ([115, 104, 97, 50, 53, 54, 58] : List Int)) (inner := [.int .u8 115, .int .u8 104, .int .u8 97, .int .u8 50, .int .u8 53, .int .u8 54, .int .u8 58]) ?hr ?hin ?hN Tryd.underlying31 Tryd.underlying5 rfl (ok := fun _ => True) trivial (Below.refl _ _) (Nat.le_refl _) (by simp) ?_; (case hd => rfl); (case hd2 => rfl); (case hg => rfl); (case hg2 => rfl); (case hc => rfl); (case hr => exact zq8); (case hin => rfl); (case hN => simp); intro v135 w3 ho4 hb hg_ hnew_; clear hg_ hnew_; (first | rw [← Ny134.out] at ho4 | (simp only [Int.reduceToNat] at ho4; rw [← Ny134.out] at ho4)); have HO136 := aM (Kd.R_lower ho4 (below_size zq4)); replace HB := sB zq4 hb; clear hb ho4) | ((with_reducible refine gC 64 rfl ?_); refine gL 10 Tryd.func64 #[.string a0] ?_; (with_reducible refine (impl_sum.calls a0 t137 _ A2.out).mono ?_); rintro e w5 ⟨v138, rfl, ho0, hb⟩; refine ⟨_, rfl, ?_⟩; replace HO136 := rG HO136 hb; have HO139 := aM (Kd.R_lower ho0 (below_size zq4)); replace HB := sB zq4 hb; clear hb; (try clear ho0); obtain ⟨Ao6, co6, eo6⟩ := Kd.R_slice HO139.out; subst eo6))
 go_loopg [3, 12] k (fun kq v3 v12 w' => ∃ (x3_1 : List Int) (x12_1 : Int), v12 = .int .i64 x12_1 ∧ Aside0 (impl_digest.l0 kq x3_1 t137 (t137.length : Int) x12_1 = some r) ∧ Aside0 (kq ≤ k) ∧ Aside0 (Kd.R (Kd.int .u8) 5 w' w.heap.size (fun _ => True) v3 x3_1) ∧ Aside0 (Kd.R (Kd.int .u32) 59 w' w.heap.size (fun _ => True) (.slice Ao6 t137.length co6) t137) ∧ Aside0 (Below w.heap.size w w'))
 case atStart => exact ⟨(y134), (0), zq1, H', ⟨Nat.le_refl _⟩, ⟨zq83⟩, ⟨by refine dR ?_; first | exact HO139.out | (have h_ := HO139.out; simp only [Int.emod_add_emod, Int.add_emod_emod] at h_ ⊢; exact h_)⟩, ⟨zq4⟩⟩
 case round =>
  clear H'; (try clear p2); (try clear c4); (try clear c6); obtain ⟨x3_1, x12_1, rfl, HA, HK1, HO_3, HO_10, HB⟩ := hrel
  cases gk with
  | zero => exact absurd HA.out (by simp [impl_digest.l0])
  | succ k1 =>
   have H := HA.out; clear HA; simp only [impl_digest.l0] at H; by_cases c7 : x12_1 < (t137.length : Int)
   ·
    rw [if_pos c7] at H; have c7b0 := decide_eq_true c7; clear c7; by_cases c8 : 0 ≤ x12_1
    ·
     rw [if_pos c8] at H; have c8b0 := decide_eq_true c8; clear c8; by_cases c9 : x12_1 < (t137.length : Int)
     ·
      rw [if_pos c9] at H; have c9b0 := decide_eq_true c9; clear c9; have H' := aM H; clear H; have p140 : 0 ≤ (x12_1 : Int) := of_decide_eq_true zq6; have q140 : x12_1 < (t137.length : Int) := of_decide_eq_true zq6; obtain ⟨ad140, e140, hx140_0⟩ := Kd.at_int (Kd.R_reads' HO_10.out).2.2 x12_1 p140 q140; cases e140; replace p140 := eq_true p140; replace q140 := eq_true q140; go_wp2
      go_loopg [3, 6] k1 (fun kq v3 v6 w' => ∃ (x3_2 : List Int) (x6_2 : Int), v6 = .int .i64 x6_2 ∧ Aside0 (impl_digest.l1 kq x3_2 (rd t137 x12_1) x6_2 t137 (t137.length : Int) x12_1 = some r) ∧ Aside0 (kq ≤ k1) ∧ Aside0 (Kd.R (Kd.int .u8) 5 w' w.heap.size (fun _ => True) v3 x3_2) ∧ Aside0 (Kd.R (Kd.int .u32) 59 w' w.heap.size (fun _ => True) (.slice (some ad140) t137.length co6) t137) ∧ Aside0 (Below w.heap.size w w'))
      case atStart => exact ⟨(x3_1), (28), zq1, H', ⟨Nat.le_refl _⟩, ⟨zq23⟩, ⟨zq84⟩, ⟨zq4⟩⟩
      case round =>
       clear H'; (try clear p1); (try clear q1); (try clear hx1); (try clear p2); (try clear c4); (try clear c6); (try clear c7); (try clear c7b0); (try clear c8); (try clear c8b0); (try clear c9); (try clear c9b0); (try clear hx140_0); (try clear p140); (try clear p2); (try clear q140); obtain ⟨x3_2, x6_2, rfl, HA, HK2, HO_3, HO_10, HB⟩ := hrel
       cases gk with
       | zero => exact absurd HA.out (by simp [impl_digest.l1])
       | succ k2 =>
        have H := HA.out; clear HA; simp only [impl_digest.l1] at H; by_cases c10 : x6_2 ≥ 0
        ·
         rw [if_pos c10] at H; have c10b0 : decide (0 ≤ x6_2) = true := decide_eq_true c10; clear c10; by_cases c11 : 0 ≤ x6_2
         ·
          rw [if_pos c11] at H; have c11b0 := eq_true c11; have c11b1 := decide_eq_true c11; clear c11; obtain ⟨ji12, hji12⟩ : ∃ j_ : Int, (shr .u32 (rd t137 x12_1) x6_2) = j_ := ⟨_, rfl⟩; replace H : (if 0 ≤ (Go.bits .and .u32 (ji12) 15) then (if (Go.bits .and .u32 (ji12) 15) < 16 then (if x3_2.length < 140737488355328 then (impl_digest.l1 k2 (x3_2 ++ [bt (⟨#[48, 49, 50, 51, 52, 53, 54, 55, 56, 57, 97, 98, 99, 100, 101, 102]⟩ : ByteArray) (Go.bits .and .u32 (ji12) 15)]) (rd t137 x12_1) (wrap64 (x6_2 - 4)) t137 (t137.length : Int) x12_1) else (none)) else (none)) else (none)) = some r := by first | (rw [hji12] at H; exact H) | (simp only [hji12] at H ⊢; exact H)
          have hji12_ : ((rd t137 x12_1) / 2 ^ min x6_2.toNat 32) = ji12 := hji12; have hji12z : x6_2 ≤ 32 → ((rd t137 x12_1) / 2 ^ x6_2.toNat) = ji12 := shr_small hji12; by_cases c13 : 0 ≤ (Go.bits .and .u32 (ji12) 15)
          ·
           rw [if_pos c13] at H; have c13b0 := decide_eq_true c13; clear c13; by_cases c14 : (Go.bits .and .u32 (ji12) 15) < 16
           ·
            rw [if_pos c14] at H; have c14b0 := decide_eq_true c14; clear c14; by_cases c16 : x3_2.length < 140737488355328
            ·
             rw [if_pos c16] at H; have LMc16 := aM c16; clear c16; obtain ⟨y141, hy141⟩ : ∃ y_ : List Int, y_ = (x3_2 ++ [bt (⟨#[48, 49, 50, 51, 52, 53, 54, 55, 56, 57, 97, 98, 99, 100, 101, 102]⟩ : ByteArray) (Go.bits .and .u32 (ji12) 15)]) := ⟨_, rfl⟩; have hy_ := hy141; replace H : (impl_digest.l1 k2 y141 (rd t137 x12_1) (wrap64 (x6_2 - 4)) t137 (t137.length : Int) x12_1) = some r := hyE; clear hy_; have Ny141 := aM hy141; clear hy141; have H' := aM H; clear H; have p15 : 0 ≤ ((Go.bits .and .u32 (ji12) 15) : Int) := of_decide_eq_true zq6; have q15 : (Go.bits .and .u32 (ji12) 15) < (16 : Int) := of_decide_eq_true zq6; have hx15 := bt_at (⟨#[48, 49, 50, 51, 52, 53, 54, 55, 56, 57, 97, 98, 99, 100, 101, 102]⟩ : ByteArray) (Go.bits .and .u32 (ji12) 15); replace p15 := eq_true p15; replace q15 := eq_true q15
             go_wp2_with (first | ((with_reducible refine gate_builtin (b := .append) (xs := #[.tmp 20, .tmp 26]) rfl ?_); at_builtin; refine Kd.R_append (Kd.int .u8) (w0 := w) w.heap.size rfl (.tmp 20) (.tmp 26) 31 5 (.int .u8 0) 1 rfl Tryd.underlying31 info5 rfl (by decide) (by omega) u3 x3_2 (bt (⟨#[48, 49, 50, 51, 52, 53, 54, 55, 56, 57, 97, 98, 99, 100, 101, 102]⟩ : ByteArray) (Go.bits .and .u32 (ji12) 15)) [.int .u8 (bt (⟨#[48, 49, 50, 51, 52, 53, 54, 55, 56, 57, 97, 98, 99, 100, 101, 102]⟩ : ByteArray) (Go.bits .and .u32 (ji12) 15))] (fun _ => True) (fun _ => False) rfl rfl ?aP (fun _ hk => hk.elim) ?aF ?aO ?aB ?aS ?aL ?_; (case aP => exact rfl); (case aB => exact zq4); (case aF => exact zq10); (case aO => exact zq23); (case aS => exact zq123); (case aL => have := LMc16.out; omega); intro v142 w17 ho hb hg hat; rw [← Ny141.out] at ho; have n0_ := aM (Kd.R_over' zq84 (Kd.R_typed zq23) (by decide) hg); have n1_ := aM (hb); have n2_ := aM (ho); clear HO_10; clear HB; clear HO_3; have HO_10 := n0_; have HB := n1_; have HO143 := n2_; clear n0_ n1_ n2_; clear ho hb hg hat))
             go_roundg k2
             case measure => have := HK1.out; have := HK2.out; omega
             case rel => exact ⟨(y141), (wrap64 (x6_2 - 4)), zq1, H', ⟨zq50⟩, ⟨by refine dR ?_; exact HO143.out⟩, ⟨zq84⟩, ⟨zq4⟩⟩
            exact zq146
           exact zq147
          exact zq143
         exact zq136
        rw [if_neg c10] at H; have c10b0 : decide (0 ≤ x6_2) = false := decide_eq_false c10; clear c10; have H' := aM H; clear H; go_wp2
        go_roundg k2
        case measure => have := HK1.out; have := HK2.out; omega
        case rel => exact ⟨(x3_2), (wrap64 (x12_1 + 1)), zq1, H', ⟨zq50⟩, ⟨zq23⟩, ⟨zq84⟩, ⟨zq4⟩⟩
     exact zq134
    exact zq137
   rw [if_neg c7] at H; have c7b0 := decide_eq_false c7; clear c7; obtain rfl := Option.some.inj H; have hcv18 := own_string (P := Tryd.prog) Tryd.underlying31 Tryd.underlying5 Tryd.underlying9 (Kd.own_of_R HO_3.out); go_wp2; go_ret; exact ⟨zq5, zq4⟩

/-! ### strings_Join: function 44 (given) -/
theorem strings_Join.extra : Builder.Extra Tryd.prog Tryd.lays156_ren where
  sizeBuilder := by kernel_rfl
  liesBuilder := by kernel_rfl
  t5 := Tryd.underlying5
  a5 := Tryd.isAgg5
  z5 := Tryd.sizeOf5
  v5 := Tryd.zeroValue5
  infoByte := by kernel_rfl
  cellsByte := by kernel_rfl
  sizeByte := by kernel_rfl
  neB5 := by decide
def strings_Join.f (l0 : List ByteArray) (a1 : ByteArray) : Option ByteArray := if l0.length ≤ 140737488355328 ∧ (Lib.join (l0.map (·.data.toList)) a1.data.toList).length ≤ 140737488355328 then some ⟨(Lib.join (l0.map (·.data.toList)) a1.data.toList).toArray⟩ else none
theorem strings_Join.calls (A0 : Option Addr) (c0 : Nat) (l0 : List ByteArray) (a1 : ByteArray) (r : ByteArray) (w : World) (hr0 : Kd.C Kd.string w A0 l0.length l0) (hc0 : l0.length ≤ c0) (h : strings_Join.f l0 a1 = some r) :
    Calls Tryd.prog 44 #[.slice A0 l0.length c0, .string a1] w fun e w' => e = .returned (.string r) ∧ Below w.heap.size w w' := by
  unfold strings_Join.f at h
  split at h
  case isFalse => exact absurd h (by simp)
  rename_i hg
  injection h with h
  subst h
  rcases Nat.eq_zero_or_pos l0.length with hz | hp
  · obtain rfl : l0 = [] := List.length_eq_zero_iff.1 hz
    refine (Any.strings_Join_none Tryd.lays156 strings_Join.extra A0 c0 a1 w).mono ?_; rintro e w' ⟨rfl, rfl⟩; exact ⟨rfl, Below.refl _ _⟩
  · obtain ⟨ad, rfl, h0⟩ := Kd.at_string hr0 0 (by omega) (by omega)
    have hb := World.block_lt_of_cell? w _ h0; obtain ⟨bk, o, pt⟩ := ad
    obtain rfl : pt = none := by
      cases pt with
      | none => rfl
      | some q =>
        simp [World.cell?, Addr.add] at h0
        split at h0 <;> cases h0
    refine (Any.strings_Join Tryd.lays156 strings_Join.extra bk o c0 l0 a1 w (fun j x hj => ?_) hb hg.1 hc0 hg.2).mono ?_
    · have hlt : j < l0.length := by
        rcases Nat.lt_or_ge j l0.length with q | q
        · exact q
        · rw [List.getElem?_eq_none q] at hj; cases hj
      obtain ⟨ad2, e2, h2⟩ := Kd.at_string hr0 (j : Int) (by omega) (by omega)
      injection e2 with e2
      subst e2
      have e3 : rdOf ByteArray.empty l0 (j : Int) = x := by
        rw [List.getElem?_eq_getElem hlt] at hj
        injection hj with hj
        rw [← hj]
        simp [rdOf, hlt]
      rw [e3] at h2; by_cases hj0 : j = 0
      · subst hj0
        simpa [Addr.add] using h2
      · simpa [Addr.add, hj0] using h2
    · rintro e w' ⟨rfl, hb2⟩
      exact ⟨rfl, hb2⟩

/-! ### impl_nodeOf: function 25 (walked by hand) -/

def impl_nodeOf.hexs : ByteArray := ⟨#[48, 49, 50, 51, 52, 53, 54, 55, 56, 57, 97, 98, 99, 100, 101, 102]⟩
def impl_nodeOf.hexC (i : Nat) : Int := ((impl_nodeOf.hexs.data.getD i 0).toNat : Int)
def impl_nodeOf.adv (w : World) (g j : Nat) : World := { w with heap := w.heap.setIfInBounds g (.stringIter impl_nodeOf.hexs j) }
theorem impl_nodeOf.ascii (i : Nat) (hi : i < 16) : (impl_nodeOf.hexs.data.getD i 0).toNat < 128 := (by decide : ∀ q : Fin 16, (impl_nodeOf.hexs.data.getD q.1 0).toNat < 128) ⟨i, hi⟩
theorem impl_nodeOf.next (w : World) (g i : Nat) (hi : i < 16) (hg : w.heap[g]? = some (.stringIter impl_nodeOf.hexs i)) (ty : TypeId) :
  (Instr.next (.pointer (some ⟨g, 0, none⟩)) true ty).run Tryd.prog w = .ok (.tuple #[.bool true, .int .i64 i, .int .i32 (impl_nodeOf.hexC i)]) (impl_nodeOf.adv w g (i + 1)) := by
 have h : i < impl_nodeOf.hexs.size := hi
 have e : impl_nodeOf.hexs[i]'h = impl_nodeOf.hexs.data.getD i 0 := by
  show impl_nodeOf.hexs.data[i]'hi = _; rw [Array.getD_eq_getD_getElem?, Array.getElem?_eq_getElem hi]; rfl
 have ha : (impl_nodeOf.hexs[i]'h).toNat < 128 := by rw [e]; exact impl_nodeOf.ascii i hi
 simp only [Instr.next, getObj, setObj, Sem.run_bind, Sem.run, hg, Result.andThen, h, if_true, decode_ascii _ i h ha]
 simp [goInt, impl_nodeOf.adv, impl_nodeOf.hexC, e]
theorem impl_nodeOf.nextEnd (w : World) (g : Nat) (hg : w.heap[g]? = some (.stringIter impl_nodeOf.hexs 16)) (ty : TypeId) :
  (Instr.next (.pointer (some ⟨g, 0, none⟩)) true ty).run Tryd.prog w = .ok (.tuple #[.bool false]) w := by
 have h : ¬ 16 < impl_nodeOf.hexs.size := by decide
 simp [Instr.next, getObj, Sem.run, hg, h]
theorem impl_nodeOf.kept (w : World) (g j : Nat) : Kept w (impl_nodeOf.adv w g j) (fun k => k = g) :=
 ⟨by simp [impl_nodeOf.adv], fun k _ hn => by simp only [impl_nodeOf.adv]; rw [Array.getElem?_setIfInBounds_ne (fun e => hn e.symm)]⟩
theorem impl_nodeOf.below {B g j : Nat} {a w : World} (h : Below B a w) (hg : B ≤ g) : Below B a (impl_nodeOf.adv w g j) :=
 ⟨h.os, h.tape, h.output, by simpa [impl_nodeOf.adv] using h.size, fun k hk => by
  have : (impl_nodeOf.adv w g j).heap[k]? = w.heap[k]? := by simp only [impl_nodeOf.adv]; rw [Array.getElem?_setIfInBounds_ne (by omega)]
  exact this.trans (h.block k hk)⟩
theorem impl_nodeOf.at_ {w : World} {g i : Nat} (j : Nat) (hg : w.heap[g]? = some (.stringIter impl_nodeOf.hexs i)) : (impl_nodeOf.adv w g j).heap[g]? = some (.stringIter impl_nodeOf.hexs j) := by
 have hlt : g < w.heap.size := (Array.getElem?_eq_some_iff.1 hg).1
 simp [impl_nodeOf.adv, hlt]
/-- The rounds over the sixteen digits. -/
def impl_nodeOf.lp (f : ByteArray → Option ByteArray) (p : ByteArray) : Nat → Nat → ByteArray → Option ByteArray
 | 0, _, acc => some acc
 | d + 1, i, acc => if p.size + (Utf8.encode (impl_nodeOf.hexC i)).size ≤ 9223372036854775807 then ((f (p ++ Utf8.encode (impl_nodeOf.hexC i))).bind fun t => if acc.size + t.size ≤ 9223372036854775807 then impl_nodeOf.lp f p d (i + 1) (acc ++ t) else none) else none
theorem impl_nodeOf.lp_mono {f g : ByteArray → Option ByteArray} (h : ∀ q, LeO (f q) (g q)) (p : ByteArray) : ∀ d i acc, LeO (impl_nodeOf.lp f p d i acc) (impl_nodeOf.lp g p d i acc)
 | 0, _, _ => LeO.refl _
 | d + 1, i, acc => by
  unfold impl_nodeOf.lp; exact LeO.ite (LeO.bind (h _) (fun t => LeO.ite (impl_nodeOf.lp_mono h p d _ _) (LeO.refl _))) (LeO.refl _)
def impl_nodeOf.f : Nat → List ByteArray → ByteArray → Option ByteArray
 | 0, _, _ => none
 | k + 1, l0, a1 => (impl_under.f k l0 a1).bind fun s => if (a1.size : Int) = 2 then ((strings_Join.f s (⟨#[]⟩ : ByteArray)).bind fun j => impl_digest.f k j) else ((impl_nodeOf.lp (fun q => impl_nodeOf.f k s q) a1 16 0 (⟨#[]⟩ : ByteArray)).bind fun a => impl_digest.f k a)
theorem impl_nodeOf.mono_l : ∀ k, ∀ a0 a1, LeO (impl_nodeOf.f k a0 a1) (impl_nodeOf.f (k + 1) a0 a1)
 | 0 => fun _ _ r h => by simp [impl_nodeOf.f] at h
 | k + 1 => fun a0 a1 => by
  have ih := impl_nodeOf.mono_l k; rw [impl_nodeOf.f.eq_2, impl_nodeOf.f.eq_2]; exact LeO.bind (impl_under.mono _ _ _) (fun s => LeO.ite (LeO.bind (LeO.refl _) (fun j => impl_digest.mono _ _)) (LeO.bind (impl_nodeOf.lp_mono (fun q => ih s q) _ _ _ _) (fun a => impl_digest.mono _ _)))
theorem impl_nodeOf.mono : ∀ a0 a1 k, LeO (impl_nodeOf.f k a0 a1) (impl_nodeOf.f (k + 1) a0 a1) := fun a0 a1 k => impl_nodeOf.mono_l k a0 a1
set_option maxHeartbeats 8000000 in
set_option maxRecDepth 100000 in
theorem impl_nodeOf.calls (k : Nat) : ∀ (A0 : Option Addr) (c0 : Nat) (l0 : List ByteArray) (a1 : ByteArray) (r : ByteArray) (w : World) (hr0 : Kd.C Kd.string w A0 l0.length l0) (hc0 : l0.length ≤ c0) (h : impl_nodeOf.f k l0 a1 = some r),
  Calls Tryd.prog 25 #[.slice A0 l0.length c0, .string a1] w fun e w' => e = .returned (.string r) ∧ Below w.heap.size w w' := by
 induction k with
 | zero => intro A0 c0 l0 a1 r w hr0 hc0 h; simp [impl_nodeOf.f] at h
 | succ k ih =>
  intro A0 c0 l0 a1 r w hr0 hc0 h; have HR := aM hr0; have HC := aM hc0; have IH := aM ih; rw [impl_nodeOf.f.eq_2] at h; obtain ⟨s, hs, h⟩ := Option.bind_eq_some_iff.mp h; have HS := aM hs; clear hr0 hc0 hs ih; by_cases c2 : (a1.size : Int) = 2
  ·
   rw [if_pos c2] at h; obtain ⟨j, hj, h⟩ := Option.bind_eq_some_iff.mp h; have HJ := aM hj; have HD := aM h; clear hj h; have d1 := decide_eq_true c2; have d2 : ((a1.size : Int) == 2) = true := by simpa using c2
   clear c2; go_enter Tryd.func25, Tryd.ntmps25
   go_wp2_with (fail)
   refine (impl_under.calls k A0 c0 l0 a1 s _ HR.out HC.out HS.out).mono ?_; rintro e w2 ⟨v, rfl, hO, hb⟩; obtain ⟨A, c, rfl⟩ := Kd.R_slice hO; obtain ⟨_, hc, hC⟩ := Kd.R_reads' hO; have HB := aM hb; have HC2 := aM hc; have HR2 := aM hC; clear hO hb hc hC
   try dsimp only
   go_wp2_with (fail)
   refine (strings_Join.calls A c s _ j _ HR2.out HC2.out HJ.out).mono ?_; rintro e w3 ⟨rfl, hb⟩; replace HB := sB HB.out hb; clear hb
   try dsimp only
   go_wp2_with (fail)
   refine (impl_digest.calls k j r _ HD.out).mono ?_; rintro e w4 ⟨rfl, hb⟩; replace HB := sB HB.out hb; clear hb
   try dsimp only
   go_wp2; go_ret; exact ⟨rfl, HB.out⟩
  rw [if_neg c2] at h; obtain ⟨a, ha, h⟩ := Option.bind_eq_some_iff.mp h; have HA := aM ha; have HD := aM h; clear ha h; have d1 := decide_eq_false c2; have d2 : ((a1.size : Int) == 2) = false := by simpa using c2
  clear c2; go_enter Tryd.func25, Tryd.ntmps25
  go_wp2_with (fail)
  refine (impl_under.calls k A0 c0 l0 a1 s _ HR.out HC.out HS.out).mono ?_; rintro e w2 ⟨v, rfl, hO, hb⟩; obtain ⟨A, c, rfl⟩ := Kd.R_slice hO; have HB := aM hb; have HG := aM hb.size; have HO := aM (Kd.R_mono (ok' := fun q => q ≠ w2.heap.size) (Kd.R_bound hO) (fun q hq => Nat.ne_of_lt hq.2.2.1)); clear hO hb
  try dsimp only
  go_wp2
  go_loopg [5] 16 (fun kq v5 w' => ∃ (i : Nat) (acc : ByteArray), v5 = .string acc ∧ Aside0 (i + kq = 16) ∧ Aside0 (impl_nodeOf.lp (fun q => impl_nodeOf.f k s q) a1 kq i acc = some a) ∧ Aside0 (Below w.heap.size w w') ∧ Aside0 (w'.heap[w2.heap.size]? = some (.stringIter impl_nodeOf.hexs i)) ∧ Aside0 (Kd.R Kd.string 9 w' w.heap.size (fun q => q ≠ w2.heap.size) (.slice A s.length c) s))
  case atStart => exact ⟨0, ⟨#[]⟩, rfl, ⟨rfl⟩, HA, ⟨below_alloc HB.out _⟩, ⟨World.iter_heap _ _ _⟩, ⟨Kd.R_step HO.out (fun q _ hq => by first | exact heap_alloc_old _ _ hq | (simp [World.iter, World.alloc, Array.getElem?_push, Nat.ne_of_lt hq]))⟩⟩
  case round =>
   obtain ⟨i, acc, rfl, hi, HL, HBr, HI, HRr⟩ := hrel
   cases gk with
   | zero =>
    have e16 : i = 16 := by have := hi.out; omega
    subst e16; have hnx := impl_nodeOf.nextEnd _ _ HI.out; have e1 := HL.out; unfold impl_nodeOf.lp at e1
    injection e1 with e1
    subst e1
    go_wp2_with (fail)
    refine (impl_digest.calls k acc r _ HD.out).mono ?_; rintro e w4 ⟨rfl, hb⟩; have HB4 := aM (below_step HBr.out hb); clear hb
    try dsimp only
    go_wp2; go_ret; exact ⟨rfl, HB4.out⟩
   | succ k1 =>
    have hnx := impl_nodeOf.next _ _ i zq80 HI.out; have E := HL.out; unfold impl_nodeOf.lp at E; clear HL; generalize impl_nodeOf.hexC i = ch at hnx E
    split at E
    case isFalse => cases E
    rename_i g1
    obtain ⟨t, ht, E⟩ := Option.bind_eq_some_iff.mp E
    split at E
    case isFalse => cases E
    rename_i g2
    have HT := aM ht; have HE := aM E; have HB2 := aM (impl_nodeOf.below (j := i + 1) HBr.out HG.out); have HI2 := aM (impl_nodeOf.at_ (i + 1) HI.out); have HR2 := aM (Kd.R_mono (Kd.R_keptB HRr.out (impl_nodeOf.kept _ w2.heap.size (i + 1)) (fun q hq => hq)) (fun q hq => hq.1)); obtain ⟨_, hc, hC⟩ := Kd.R_reads' HR2.out; have HC3 := aM hc; have HR3 := aM hC; clear ht E hc hC
    go_wp2_with (fail)
    refine (IH.out A c s _ t _ HR3.out HC3.out HT.out).mono ?_; rintro e w7 ⟨rfl, hb⟩; have HB3 := aM (below_step HB2.out hb); have HI3 : Aside0 (w7.heap[w2.heap.size]? = some (.stringIter impl_nodeOf.hexs (i + 1))) := ⟨(hb.block _ (Array.getElem?_eq_some_iff.1 HI2.out).1).trans HI2.out⟩; have HR4 := aM (Kd.R_step HR2.out (fun q _ hq => hb.block q hq)); clear hb
    try dsimp only
    go_wp2
    go_roundg k1
    case measure => omega
    case rel => exact ⟨i + 1, acc ++ t, rfl, ⟨zq80⟩, HE, HB3, HI3, HR4⟩

/-! ### impl_NodeOf: function 9 -/
def impl_NodeOf.f (k : Nat) (l0 : List ByteArray) (a1 : ByteArray) : Option (ByteArray × Bool) := (impl_isSet.f k l0).bind fun t144 => (if t144 = true then ((impl_isPrefix.f a1).bind fun t145 => (if t145 = true then ((impl_nodeOf.f k l0 a1).bind fun t146 => (some (t146, true))) else (some ((⟨#[]⟩ : ByteArray), false)))) else (some ((⟨#[]⟩ : ByteArray), false)))
theorem impl_NodeOf.mono : ∀ a0 a1 k, LeO (impl_NodeOf.f k a0 a1) (impl_NodeOf.f (k + 1) a0 a1) := by
 intro a0 a1 k; unfold impl_NodeOf.f
 repeat' first
   | (with_reducible apply impl_isSet.mono)
   | (with_reducible apply impl_nodeOf.mono)
   | (with_reducible exact LeO.refl _)
   | (with_reducible exact LeO.none _)
   | (with_reducible refine LeO.ite ?_ ?_)
   | (with_reducible refine LeO.bind ?_ (fun _ => ?_))
   | exact LeO.none _
   | refine LeO.ite ?_ ?_
   | refine LeO.bind ?_ (fun _ => ?_)
set_option maxHeartbeats 8000000 in
set_option maxRecDepth 100000 in
theorem impl_NodeOf.calls (k : Nat) (A0 : Option Addr) (c0 : Nat) (l0 : List ByteArray) (a1 : ByteArray) (r1 : ByteArray) (r2 : Bool) (w : World) (hr0 : Kd.C Kd.string w A0 l0.length l0) (hc0 : l0.length ≤ c0) (h : impl_NodeOf.f k l0 a1 = some (r1, r2)) :
  Calls Tryd.prog 9 #[.slice A0 l0.length c0, .string a1] w fun e w' => e = .returned (.tuple #[.string r1, .bool r2]) ∧ Below w.heap.size w w' := by
 have HR0 := aM hr0; have HC0 := aM hc0; clear hr0 hc0; have HB := aM (Below.refl w.heap.size w); unfold impl_NodeOf.f at h; have H := h; clear h; replace H := Option.bind_eq_some_iff.mp H; obtain ⟨t144, A30, H⟩ := H; (try dsimp only at H); have A3 := aM A30; clear A30; by_cases c4 : t144 = true
 ·
  subst c4; rw [if_pos rfl] at H; replace H := Option.bind_eq_some_iff.mp H; obtain ⟨t145, A50, H⟩ := H; (try dsimp only at H); have A5 := aM A50; clear A50; by_cases c6 : t145 = true
  ·
   subst c6; rw [if_pos rfl] at H; replace H := Option.bind_eq_some_iff.mp H; obtain ⟨t146, A70, H⟩ := H; replace H : (some (t146, true)) = some (r1, r2) := H; have A7 := aM A70; clear A70; simp only [Option.some.injEq, Prod.mk.injEq] at H; obtain ⟨rfl, rfl⟩ := H; go_enter Tryd.func9, Tryd.ntmps9
   go_wp2_with (first | ((with_reducible refine gC 23 rfl ?_); refine gL 7 Tryd.func23 #[.slice A0 l0.length c0] ?_; (with_reducible refine (impl_isSet.calls k _ _ l0 true _ ?_ ?_ A3.out).mono ?_); exact zq38; exact zq30; rintro e w8 ⟨rfl, hb⟩; refine ⟨_, rfl, ?_⟩; replace HB := sB zq4 hb; clear hb) | (go_at_call 24; (with_reducible refine (impl_isPrefix.calls a1 true _ A5.out).mono ?_); rintro e w9 ⟨rfl, hb⟩; replace HB := sB zq4 hb; clear hb) | ((with_reducible refine gC 25 rfl ?_); refine gL 16 Tryd.func25 #[.slice A0 l0.length c0, .string a1] ?_; (with_reducible refine (impl_nodeOf.calls k _ _ l0 a1 t146 _ ?_ ?_ A7.out).mono ?_); exact zq40; exact zq30; rintro e w10 ⟨rfl, hb⟩; refine ⟨_, rfl, ?_⟩; replace HB := sB zq4 hb; clear hb))
   go_ret2
   exact ⟨zq5, zq4⟩
  replace c6 := Bool.eq_false_iff.mpr c6; subst c6; rw [if_neg (show ¬ (false = true) by decide)] at H; simp only [Option.some.injEq, Prod.mk.injEq] at H; obtain ⟨rfl, rfl⟩ := H; go_enter Tryd.func9, Tryd.ntmps9
  go_wp2_with (first | ((with_reducible refine gC 23 rfl ?_); refine gL 7 Tryd.func23 #[.slice A0 l0.length c0] ?_; (with_reducible refine (impl_isSet.calls k _ _ l0 true _ ?_ ?_ A3.out).mono ?_); exact zq38; exact zq30; rintro e w11 ⟨rfl, hb⟩; refine ⟨_, rfl, ?_⟩; replace HB := sB zq4 hb; clear hb) | (go_at_call 24; (with_reducible refine (impl_isPrefix.calls a1 false _ A5.out).mono ?_); rintro e w12 ⟨rfl, hb⟩; replace HB := sB zq4 hb; clear hb))
  go_ret2
  exact ⟨zq5, zq4⟩
 replace c4 := Bool.eq_false_iff.mpr c4; subst c4; rw [if_neg (show ¬ (false = true) by decide)] at H; simp only [Option.some.injEq, Prod.mk.injEq] at H; obtain ⟨rfl, rfl⟩ := H; go_enter Tryd.func9, Tryd.ntmps9
 go_wp2_with (first | ((with_reducible refine gC 23 rfl ?_); refine gL 7 Tryd.func23 #[.slice A0 l0.length c0] ?_; (with_reducible refine (impl_isSet.calls k _ _ l0 false _ ?_ ?_ A3.out).mono ?_); exact zq38; exact zq30; rintro e w13 ⟨rfl, hb⟩; refine ⟨_, rfl, ?_⟩; replace HB := sB zq4 hb; clear hb))
 go_ret2
 exact ⟨zq5, zq4⟩

/-! ### spec_l1Rises: function 37 -/
def spec_l1Rises.l0 : Nat → List ByteArray → Int → Option (Bool)
 | 0, _, _ => none
 | k + 1, x0, x3 => if x3 < (x0.length : Int) then (if 0 ≤ x3 then (if 0 ≤ (wrap64 (x3 - 1)) then (if (wrap64 (x3 - 1)) < (x0.length : Int) then (if ((Op.bytesLess ((rdOf ByteArray.empty x0 (wrap64 (x3 - 1))).toList) ((rdOf ByteArray.empty x0 x3).toList)) = true) then (spec_l1Rises.l0 k x0 (wrap64 (x3 + 1))) else (some false)) else (none)) else (none)) else (none)) else (some true)
def spec_l1Rises.f (k : Nat) (l0 : List ByteArray) : Option (Bool) := spec_l1Rises.l0 k l0 1
theorem spec_l1Rises.mono_l : ∀ k, (∀ y0 y1, LeO (spec_l1Rises.l0 k y0 y1) (spec_l1Rises.l0 (k + 1) y0 y1))
 | 0 => fun _ _ r h => by simp [spec_l1Rises.l0] at h
 | k + 1 => by
  have ih0 := spec_l1Rises.mono_l k
  ·
   intro y0 y1; unfold spec_l1Rises.l0
   repeat' first
   | (with_reducible apply ih0)
   | (with_reducible exact LeO.refl _)
   | (with_reducible exact LeO.none _)
   | (with_reducible refine LeO.ite ?_ ?_)
   | (with_reducible refine LeO.bind ?_ (fun _ => ?_))
   | exact LeO.none _
   | refine LeO.ite ?_ ?_
   | refine LeO.bind ?_ (fun _ => ?_)
theorem spec_l1Rises.mono : ∀ a0 k, LeO (spec_l1Rises.f k a0) (spec_l1Rises.f (k + 1) a0) := by
 intro a0 k; have ih0 := spec_l1Rises.mono_l k; unfold spec_l1Rises.f
 repeat' first
   | (with_reducible apply ih0)
   | (with_reducible exact LeO.refl _)
   | (with_reducible exact LeO.none _)
   | (with_reducible refine LeO.ite ?_ ?_)
   | (with_reducible refine LeO.bind ?_ (fun _ => ?_))
   | exact LeO.none _
   | refine LeO.ite ?_ ?_
   | refine LeO.bind ?_ (fun _ => ?_)
set_option maxHeartbeats 8000000 in
set_option maxRecDepth 100000 in
theorem spec_l1Rises.calls (k : Nat) (A0 : Option Addr) (c0 : Nat) (l0 : List ByteArray) (r : Bool) (w : World) (hr0 : Kd.C Kd.string w A0 l0.length l0) (hc0 : l0.length ≤ c0) (h : spec_l1Rises.f k l0 = some r) :
  Calls Tryd.prog 37 #[.slice A0 l0.length c0] w fun e w' => e = .returned (.bool r) ∧ Drawn0 w w' := by
 have HR0 := aM hr0; have HC0 := aM hc0; clear hr0 hc0; have H : (spec_l1Rises.l0 k l0 1) = some r := h; clear h; have H' := aM H; clear H; go_enter Tryd.func37, Tryd.ntmps37; go_wp2
 repeat (go_quiet (fail); try go_wp2)
 go_loopg [3] k (fun kq v3 w' => ∃ (x3_1 : Int), v3 = .int .i64 x3_1 ∧ Aside0 (spec_l1Rises.l0 kq l0 x3_1 = some r) ∧ Aside0 (kq ≤ k) ∧ Drawn0 w w')
 case atStart => exact ⟨(1), zq1, H', ⟨Nat.le_refl _⟩, zq2⟩
 case round =>
  clear H'; obtain ⟨x3_1, rfl, HA, HK1, ⟨m1, rfl⟩⟩ := hrel
  cases gk with
  | zero => exact absurd HA.out (by simp [spec_l1Rises.l0])
  | succ k1 =>
   have H := HA.out; clear HA; simp only [spec_l1Rises.l0] at H; by_cases c2 : x3_1 < (l0.length : Int)
   ·
    rw [if_pos c2] at H; have c2b0 := decide_eq_true c2; clear c2; by_cases c3 : 0 ≤ x3_1
    ·
     rw [if_pos c3] at H; have c3b0 := decide_eq_true c3; clear c3; obtain ⟨ji4, hji4⟩ : ∃ j_ : Int, (wrap64 (x3_1 - 1)) = j_ := ⟨_, rfl⟩; replace H : (if 0 ≤ (ji4) then (if (ji4) < (l0.length : Int) then (if ((Op.bytesLess ((rdOf ByteArray.empty l0 (ji4)).toList) ((rdOf ByteArray.empty l0 x3_1).toList)) = true) then (spec_l1Rises.l0 k1 l0 (wrap64 (x3_1 + 1))) else (some false)) else (none)) else (none)) = some r := by first | (rw [hji4] at H; exact H) | (simp only [hji4] at H ⊢; exact H)
     have hji4w : (IntKind.i64.wrap (x3_1 - 1)) = ji4 := (i64_w _).trans hji4; by_cases c5 : 0 ≤ (ji4)
     ·
      rw [if_pos c5] at H; have c5b0 := decide_eq_true c5; clear c5; by_cases c6 : (ji4) < (l0.length : Int)
      ·
       rw [if_pos c6] at H; have c6b0 := decide_eq_true c6; clear c6; by_cases c7 : ((Op.bytesLess ((rdOf ByteArray.empty l0 (ji4)).toList) ((rdOf ByteArray.empty l0 x3_1).toList)) = true)
       ·
        rw [if_pos c7] at H; have c7b0 : (Op.bytesLess ((rdOf ByteArray.empty l0 (ji4)).toList) ((rdOf ByteArray.empty l0 x3_1).toList)) = true := c7; clear c7; have H' := aM H; clear H; have p147 : 0 ≤ (x3_1 : Int) := of_decide_eq_true zq6; have q147 : x3_1 < (l0.length : Int) := of_decide_eq_true zq6; obtain ⟨ad147, e147, hx147_0⟩ := Kd.at_string HR0.out x3_1 p147 q147; cases e147; replace p147 := eq_true p147; replace q147 := eq_true q147; have p148 : 0 ≤ ((ji4) : Int) := of_decide_eq_true zq6; have q148 : (ji4) < (l0.length : Int) := of_decide_eq_true zq6; obtain ⟨ad148, e148, hx148_0⟩ := Kd.at_string HR0.out (ji4) p148 q148; obtain rfl : ad147 = ad148 := (by injection e148); replace p148 := eq_true p148; replace q148 := eq_true q148; go_wp2
        repeat (go_quiet (fail); try go_wp2)
        go_roundg k1
        case measure => have := HK1.out; omega
        case rel => exact ⟨(wrap64 (x3_1 + 1)), zq1, H', ⟨zq7⟩, zq2⟩
       rw [if_neg c7] at H; have c7b0 : (Op.bytesLess ((rdOf ByteArray.empty l0 (ji4)).toList) ((rdOf ByteArray.empty l0 x3_1).toList)) = false := by simpa using c7
       clear c7; obtain rfl := Option.some.inj H; have p147 : 0 ≤ (x3_1 : Int) := of_decide_eq_true zq6; have q147 : x3_1 < (l0.length : Int) := of_decide_eq_true zq6; obtain ⟨ad147, e147, hx147_0⟩ := Kd.at_string HR0.out x3_1 p147 q147; cases e147; replace p147 := eq_true p147; replace q147 := eq_true q147; have p148 : 0 ≤ ((ji4) : Int) := of_decide_eq_true zq6; have q148 : (ji4) < (l0.length : Int) := of_decide_eq_true zq6; obtain ⟨ad148, e148, hx148_0⟩ := Kd.at_string HR0.out (ji4) p148 q148; obtain rfl : ad147 = ad148 := (by injection e148); replace p148 := eq_true p148; replace q148 := eq_true q148; go_wp2
       repeat (go_quiet (fail); try go_wp2)
       go_ret; exact ⟨by first | rfl | (simp; done) | (simp only [← hji4] <;> (first | rfl | simp)) | (simp [*]; done), zq2⟩
      exact zq132
     exact zq130
    exact zq135
   rw [if_neg c2] at H; have c2b0 := decide_eq_false c2; clear c2; obtain rfl := Option.some.inj H; go_wp2
   repeat (go_quiet (fail); try go_wp2)
   go_ret; exact ⟨zq1, zq2⟩

/-! ### spec_l1Digit: function 53 -/
def spec_l1Digit.f (a0 : Int) : Option (Bool) := if a0 ≥ 48 then (some (decide (a0 ≤ 57))) else (some false)
set_option maxHeartbeats 8000000 in
set_option maxRecDepth 100000 in
theorem spec_l1Digit.calls (a0 : Int) (r : Bool) (w : World) (h : spec_l1Digit.f a0 = some r) :
  Calls Tryd.prog 53 #[.int .u8 a0] w fun e w' => e = .returned (.bool r) ∧ Drawn0 w w' := by
 unfold spec_l1Digit.f at h; have H := h; clear h; by_cases c2 : a0 ≥ 48
 ·
  rw [if_pos c2] at H; have c2b0 : decide (48 ≤ a0) = true := decide_eq_true c2; clear c2; obtain rfl := Option.some.inj H; go_enter Tryd.func53, Tryd.ntmps53; go_wp2; go_ret; exact ⟨zq1, zq2⟩
 rw [if_neg c2] at H; have c2b0 : decide (48 ≤ a0) = false := decide_eq_false c2; clear c2; obtain rfl := Option.some.inj H; go_enter Tryd.func53, Tryd.ntmps53; go_wp2; go_ret; exact ⟨zq1, zq2⟩

/-! ### spec_l1Hexit: function 39 -/
def spec_l1Hexit.f (a0 : Int) : Option (Int) := (spec_l1Digit.f a0).bind fun t149 => (if t149 = true then (some ((a0 - 48) % 256)) else (if a0 ≥ 97 then (if a0 ≤ 102 then (some (((a0 - 97) % 256) + 10)) else (some (-1))) else (some (-1))))
set_option maxHeartbeats 8000000 in
set_option maxRecDepth 100000 in
theorem spec_l1Hexit.calls (a0 : Int) (r : Int) (w : World) (h : spec_l1Hexit.f a0 = some r) :
  Calls Tryd.prog 39 #[.int .u8 a0] w fun e w' => e = .returned (.int .i64 r) ∧ Drawn0 w w' := by
 unfold spec_l1Hexit.f at h; have H := h; clear h; replace H := Option.bind_eq_some_iff.mp H; obtain ⟨t149, A20, H⟩ := H; (try dsimp only at H); have A2 := aM A20; clear A20; by_cases c3 : t149 = true
 ·
  subst c3; rw [if_pos rfl] at H; obtain rfl := Option.some.inj H; go_enter Tryd.func39, Tryd.ntmps39
  go_wp2_with (first | ((with_reducible refine gC 53 rfl ?_); refine gL 4 Tryd.func53 #[.int .u8 a0] ?_; (with_reducible refine (spec_l1Digit.calls a0 true _ A2.out).mono ?_); rintro e w' ⟨rfl, ⟨nd, rfl⟩⟩; refine ⟨_, rfl, ?_⟩))
  go_ret; exact ⟨zq1, zq2⟩
 replace c3 := Bool.eq_false_iff.mpr c3; subst c3; rw [if_neg (show ¬ (false = true) by decide)] at H; by_cases c4 : a0 ≥ 97
 ·
  rw [if_pos c4] at H; have c4b0 : decide (97 ≤ a0) = true := decide_eq_true c4; clear c4; by_cases c5 : a0 ≤ 102
  ·
   rw [if_pos c5] at H; have c5b0 := decide_eq_true c5; clear c5; obtain rfl := Option.some.inj H; go_enter Tryd.func39, Tryd.ntmps39
   go_wp2_with (first | ((with_reducible refine gC 53 rfl ?_); refine gL 4 Tryd.func53 #[.int .u8 a0] ?_; (with_reducible refine (spec_l1Digit.calls a0 false _ A2.out).mono ?_); rintro e w' ⟨rfl, ⟨nd, rfl⟩⟩; refine ⟨_, rfl, ?_⟩))
   go_ret; exact ⟨zq1, zq2⟩
  rw [if_neg c5] at H; have c5b0 := decide_eq_false c5; clear c5; obtain rfl := Option.some.inj H; go_enter Tryd.func39, Tryd.ntmps39
  go_wp2_with (first | ((with_reducible refine gC 53 rfl ?_); refine gL 4 Tryd.func53 #[.int .u8 a0] ?_; (with_reducible refine (spec_l1Digit.calls a0 false _ A2.out).mono ?_); rintro e w' ⟨rfl, ⟨nd, rfl⟩⟩; refine ⟨_, rfl, ?_⟩))
  go_ret; exact ⟨zq1, zq2⟩
 rw [if_neg c4] at H; have c4b0 : decide (97 ≤ a0) = false := decide_eq_false c4; clear c4; obtain rfl := Option.some.inj H; go_enter Tryd.func39, Tryd.ntmps39
 go_wp2_with (first | ((with_reducible refine gC 53 rfl ?_); refine gL 4 Tryd.func53 #[.int .u8 a0] ?_; (with_reducible refine (spec_l1Digit.calls a0 false _ A2.out).mono ?_); rintro e w' ⟨rfl, ⟨nd, rfl⟩⟩; refine ⟨_, rfl, ?_⟩))
 go_ret; exact ⟨zq1, zq2⟩

end Go.Proofs.YtoeomljkhabifaaDoor.QFnDiff
