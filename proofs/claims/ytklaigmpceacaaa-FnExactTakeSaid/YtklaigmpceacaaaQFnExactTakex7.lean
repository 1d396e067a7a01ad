/- Written by wip/myprint.py of this repo (the kit's print, with additions of this session). -/
import Derived.Test.YtklaigmpceacaaaQFnExactTakex0
import Derived.Test.YtklaigmpceacaaaQFnExactTakex5
import Derived.Test.YtklaigmpceacaaaQFnExactTakex6
set_option maxRecDepth 100000
namespace Go.Proofs.Ytklaigmpceacaaa.QFnExactTake
open Go.RowKit Go.Proofs.YtklaigmpceacaaaW.PrintWords Go.Proofs.YtklaigmpceacaaaW.PrintLast Go.Proofs.YtklaigmpceacaaaW.PrintMore
attribute [local go_sem] max2_int min2_int max_two min_two max_three min_three max_four min_four   -- for this text's walks alone
set_option linter.unusedVariables false
set_option linter.unusedSimpArgs false

/-! ### impl_Packet_43: function 43 (walked by hand) -/
/-- The first place from i on whose first field is x, or -1. -/
def impl_Packet_43.at (l : List S39) (x : Int) : Nat → Nat → Int
 | 0, _ => -1
 | d + 1, i => if (rd_T39 l (i : Int)).f0 = x then (i : Int) else impl_Packet_43.at l x d (i + 1)
set_option maxHeartbeats 8000000 in
theorem impl_Packet_43.index (l : List S39) (A : Option Addr) (c : Nat) (g : Nat) (x : Int) (w : World) (hr : Kd.C k39 w A l.length l) (hc : l.length ≤ c) (hm : l.length ≤ 4611686018427387904) (hx : w.cell? ⟨g, 0, none⟩ = some (.int .i64 x)) :
  Calls Try.prog 43 #[.slice A l.length c, .func (.func 44) #[] #[.pointer (some ⟨g, 0, none⟩)]] w fun e w' => e = .returned (.int .i64 (impl_Packet_43.at l x l.length 0)) ∧ Below w.heap.size w w' := by
 have HR := Aside0.mk hr
 have HC := Aside0.mk hc
 have HM := Aside0.mk hm
 have HX := Aside0.mk hx
 obtain ⟨n, hn⟩ : ∃ n, n = l.length := ⟨_, rfl⟩
 clear hr hc hm hx
 go_enter Try.func43, Try.ntmps43
 go_wp2
 go_loopg [8] l.length (fun kq v8 w' => ∃ (i : Nat) (x8 : Int), v8 = .int .i64 x8 ∧ Aside0 (x8 = (i : Int)) ∧ Aside0 (i + kq = l.length) ∧ Aside0 (impl_Packet_43.at l x kq i = impl_Packet_43.at l x l.length 0) ∧ Aside0 (Below w.heap.size w w'))
 case atStart => exact ⟨0, 0, rfl, ⟨rfl⟩, ⟨by omega⟩, ⟨rfl⟩, ⟨Below.refl _ _⟩⟩
 case round =>
  obtain ⟨i, x8, rfl, HI, hi, HE, HB⟩ := hrel
  cases gk with
  | zero =>
   have c1 : decide (x8 < (l.length : Int)) = false := decide_eq_false zq161
   go_wp2
   go_ret
   exact ⟨by rw [← HE.out]; rfl, HB.out⟩
  | succ k1 =>
   have c1 : decide (x8 < (l.length : Int)) = true := decide_eq_true zq161
   have b1 := eq_true (show 0 ≤ x8 by have := HI.out; omega)
   have b2 := eq_true (show x8 < (l.length : Int) by have := HI.out; have := hi.out; omega)
   obtain ⟨ad, e1, h0, h1, h2, h3⟩ := at_T39 HR.out x8 (by have := HI.out; omega) zq161
   subst e1
   have hx0 : wr.cell? (ad.add (x8.toNat * 4)) = some (.int .i64 (rd_T39 l x8).f0) := (HB.out.cell (World.block_lt_of_cell? w _ h0)).trans h0
   have hx1 : wr.cell? ⟨(ad.add (x8.toNat * 4)).block, (ad.add (x8.toNat * 4)).off + 1, none⟩ = some (.int .i64 (rd_T39 l x8).f1) := (HB.out.cell (World.block_lt_of_cell? w _ h1)).trans h1
   have hx2 : wr.cell? ⟨(ad.add (x8.toNat * 4)).block, (ad.add (x8.toNat * 4)).off + 2, none⟩ = some (.int .i64 (rd_T39 l x8).f2) := (HB.out.cell (World.block_lt_of_cell? w _ h2)).trans h2
   have hx3 : wr.cell? ⟨(ad.add (x8.toNat * 4)).block, (ad.add (x8.toNat * 4)).off + 3, none⟩ = some (.string (rd_T39 l x8).f3) := (HB.out.cell (World.block_lt_of_cell? w _ h3)).trans h3
   have hxg : wr.cell? ⟨g, 0, none⟩ = some (.int .i64 x) := (HB.out.cell (World.block_lt_of_cell? w _ HX.out)).trans HX.out
   have hxa : ∀ o, (wr.alloc o).cell? ⟨g, 0, none⟩ = some (.int .i64 x) := fun o => (World.cell?_alloc_lt _ _ _ (World.block_lt_of_cell? _ _ hxg)).trans hxg
   clear h0 h1 h2 h3
   by_cases hq : (rd_T39 l x8).f0 = x
   ·
    have q1 : ((rd_T39 l x8).f0 == x) = true := beq_iff_eq.mpr hq
    have HQ := Aside0.mk hq; clear hq
    go_wp2
    go_ret
    refine ⟨?_, HB.out.alloc (below_size HB.out) _⟩
    rw [← HE.out]
    show _ = Ending.returned (Value.int IntKind.i64 (impl_Packet_43.at l x (k1 + 1) i))
    unfold impl_Packet_43.at
    rw [if_pos (by have := HI.out; subst this; exact HQ.out), HI.out]
    rfl
   have q1 : ((rd_T39 l x8).f0 == x) = false := beq_eq_false_iff_ne.mpr hq
   have HQ := Aside0.mk hq; clear hq
   go_wp2
   go_roundg k1
   case measure => omega
   case rel =>
    refine ⟨i + 1, wrap64 (x8 + 1), rfl, ⟨?_⟩, ⟨by have := hi.out; omega⟩, ⟨?_⟩, ⟨HB.out.alloc (below_size HB.out) _⟩⟩
    ·
     rw [HI.out]; have := hi.out; have := HM.out; unfold wrap64; omega
    rw [← HE.out]
    show _ = impl_Packet_43.at l x (k1 + 1) i
    conv => rhs; unfold impl_Packet_43.at
    rw [if_neg (by have := HI.out; subst this; exact HQ.out)]
def impl_Packet_43.f (l0 : List S39) (a1 : Int) : Option Int := if l0.length ≤ 4611686018427387904 then some (impl_Packet_43.at l0 a1 l0.length 0) else none
theorem impl_Packet_43.calls (A0 : Option Addr) (c0 : Nat) (l0 : List S39) (a1 : Int) (r : Int) (w : World) (hr0 : Kd.C k39 w A0 l0.length l0) (hc0 : l0.length ≤ c0) (h : impl_Packet_43.f l0 a1 = some r) (g : Nat) (hg : w.cell? ⟨g, 0, none⟩ = some (.int .i64 a1)) :
  Calls Try.prog 43 #[.slice A0 l0.length c0, .func (.func 44) #[] #[.pointer (some ⟨g, 0, none⟩)]] w fun e w' => e = .returned (.int .i64 r) ∧ Below w.heap.size w w' := by
 unfold impl_Packet_43.f at h
 split at h
 ·
  rename_i hg2
  injection h with h
  subst h
  exact impl_Packet_43.index l0 A0 c0 g a1 w hr0 hc0 hg2 hg
 exact absurd h (by simp)

/-! ### impl_Packet_45: function 45 (walked by hand) -/
section
open Go.Proofs.Ytklaigmpceacaaa.Clear
def impl_Packet_45.f (l0 : List (S39)) (a1 : Int) (a2 : Int) : Option (List (S39)) := if 0 ≤ a1 ∧ a2 = a1 + 1 ∧ a2 ≤ (l0.length : Int) then some (l0.eraseIdx a1.toNat) else none
def impl_Packet_45.T5 : Bool × List (List Nat × List Nat) := (true, [([], []), ([], []), ([0, 1], [0, 1]), ([], []), ([], []), ([3, 4], [3, 4]), ([2, 5], [2, 5]), ([6, 6, 0, 1, 2, 3, 4, 5, 6], [0, 3, 6])])
def impl_Packet_45.B5 : List Nat := [0, 0, 3, 0, 0, 24, 63, 127]
theorem impl_Packet_45.tab5 : rtab .any (opsOf Try.f45 5) = impl_Packet_45.T5 := by kernel_rfl
theorem impl_Packet_45.bits5 : waitsOk impl_Packet_45.T5.2 impl_Packet_45.B5 = true := by kernel_rfl
set_option maxHeartbeats 8000000 in
theorem impl_Packet_45.calls (P0_ : Nat → Prop) (u9000_ : Value) (l0 : List (S39)) (a1 : Int) (a2 : Int) (r : List (S39)) (w0 w : World) (hB : Below w0.heap.size w0 w) (ho0 : Kd.R k39 39 w w0.heap.size P0_ u9000_ l0) (h : impl_Packet_45.f l0 a1 a2 = some r) :
  Calls Try.prog 45 #[u9000_, .int .i64 a1, .int .i64 a2] w fun e w' => ∃ v0_ : Value, e = .returned v0_ ∧ Kd.R k39 39 w' w0.heap.size (fun k_ => (P0_ k_ ∨ w.heap.size ≤ k_)) v0_ r ∧ Below w0.heap.size w0 w' ∧ Kept w w' (fun k_ => P0_ k_) := by
 unfold impl_Packet_45.f at h
 split at h
 case isFalse => exact absurd h (by simp)
 rename_i hg
 injection h with h
 subst h
 obtain ⟨h1, h2, h3⟩ := hg
 obtain ⟨g, cap, rfl, hbg, hgw, _⟩ := Kd.R_form ho0 (by omega)
 obtain ⟨_, hcap, hC⟩ := Kd.R_reads' ho0
 have HO := Aside0.mk ho0
 have HB := Aside0.mk hB
 have HBS := Aside0.mk hB.size
 have HBG := Aside0.mk hbg
 have HP := Aside0.mk (ho0.1 g (by simp [Value.ownBlock]))
 have H1 := Aside0.mk (show 0 ≤ a1 ∧ a2 = a1 + 1 ∧ a2 ≤ (l0.length : Int) ∧ l0.length ≤ cap from ⟨h1, h2, h3, hcap⟩)
 have s1 := eq_true h1
 have s2 := eq_true (show a1 ≤ a2 by omega)
 have s3 := eq_true h3
 have s4 := eq_true (show (l0.length : Int) ≤ (cap : Int) by omega)
 have s5 := eq_true (show a1 ≤ (l0.length : Int) by omega)
 have s6 : (a1 == a2) = false := by simp; omega
 have s7 := eq_true (show 0 ≤ a2 by omega)
 have s8 := eq_false (show ¬ l0.length = a1.toNat by omega)
 have s9 := eq_true (show a1 ≤ (cap : Int) by omega)
 have e2 := Aside0.mk (show a2.toNat = a1.toNat + 1 by omega)
 clear h1 h2 h3 hcap hC ho0 hB hbg hgw
 go_enter Try.func45, Try.ntmps45
 go_wp2
 refine start_ (n := 8) (S := fun w' => True) (ds := []) #[false, false, false, false, false, false, false, false] (by kernel_rfl) rfl rfl trivial (fun hHeld => ?_)
 refine with_tabW impl_Packet_45.tab5 impl_Packet_45.bits5 (fun HT_ HW_ => ?_)
 skip
 refine pure_ (i := 0) (N := some 20) (v := ?_) (a' := ?_) #[true, false, false, false, false, false, false, false] rfl rfl (any_of HT_.out (by kernel_rfl)) (fun _ _ _ h => h) (Or.inl ⟨by rfl, ?_⟩) ?_ ?_
 rotate_left
 exact zq289
 rotate_left
 exact zq288
 refine pure_ (i := 1) (N := some 21) (v := ?_) (a' := ?_) #[true, true, false, false, false, false, false, false] rfl rfl (any_of HT_.out (by kernel_rfl)) (fun _ _ _ h => h) (Or.inl ⟨by rfl, ?_⟩) ?_ ?_
 rotate_left
 exact zq289
 rotate_left
 exact zq288
 refine pure_ (i := 2) (N := some 22) (v := ?_) (a' := ?_) #[true, true, true, false, false, false, false, false] rfl rfl (any_of HT_.out (by kernel_rfl)) (fun _ _ _ h => h) (Or.inl ⟨by rfl, ?_⟩) ?_ ?_
 rotate_left
 exact zq289
 rotate_left
 exact zq288
 refine pure_ (i := 3) (N := some 23) (v := ?_) (a' := ?_) #[true, true, true, true, false, false, false, false] rfl rfl (any_of HT_.out (by kernel_rfl)) (fun _ _ _ h => h) (Or.inl ⟨by rfl, ?_⟩) ?_ ?_
 rotate_left
 exact zq289
 rotate_left
 exact zq288
 refine pure_ (i := 4) (N := some 24) (v := ?_) (a' := ?_) #[true, true, true, true, true, false, false, false] rfl rfl (any_of HT_.out (by kernel_rfl)) (fun _ _ _ h => h) (Or.inl ⟨by rfl, ?_⟩) ?_ ?_
 rotate_left
 exact zq289
 rotate_left
 exact zq288
 refine pure_ (i := 5) (N := some 25) (v := ?_) (a' := ?_) #[true, true, true, true, true, true, false, false] rfl rfl (any_of HT_.out (by kernel_rfl)) (fun _ _ _ h => h) (Or.inl ⟨by rfl, ?_⟩) ?_ ?_
 rotate_left
 exact zq289
 rotate_left
 exact zq288
 refine one_ (i := 6) (N := some 26) #[true, true, true, true, true, true, true, false] rfl rfl (one_of HT_.out (by kernel_rfl)) (by decide) (fun K hK => ?_)
 refine Kd.R_delete_step k39 (w0 := w0) w0.heap.size (by rfl) (.tmp 22) (.tmp 25) 35 39 rfl Try.underlying35 (by kernel_rfl) (g := g) (n := l0.length) (c := cap) (k := a1.toNat) rfl rfl ?hA ?hm (by (with_reducible repeat (first | apply Kd.R_alloc | apply Kd.R_drewN | apply Kd.R_drew)); exact HO.out) ?hk zq2 HBS.out ?_
 case hA =>
  rw [e2.out]
  split
  ·
   rfl
  show some _ = some (Addr.add _ ((a1.toNat + 1) * 4))
  unfold Addr.add
  rw [if_neg (by omega)]
  simp
 case hm => rw [e2.out]
 case hk => have := H1.out; omega
 intro w1 ho hb hg
 refine hK.out _ _ trivial (fun hHeld => ?_)
 clear hK K
 refine norm_ (a' := ?_) ?_ ?_
 rotate_left
 ·
  show Act.put _ (some 26) _ = _
  simp only [Act.put, List.setIfInBounds_toArray, List.set_cons_zero, List.set_cons_succ, i64_w, i32_w]
  rfl
 refine pure_ (i := 7) (N := some 0) (v := ?_) (a' := ?_) #[true, true, true, true, true, true, true, true] rfl rfl (any_of HT_.out (by kernel_rfl)) (fun _ _ _ h => h) (Or.inl ⟨by rfl, ?_⟩) ?_ ?_
 rotate_left
 exact zq289
 rotate_left
 exact zq288
 refine done_ (done_of HT_.out (by kernel_rfl)) ?_
 generalize hA25 : (if cap = a2.toNat then (some ⟨g, 0, none⟩ : Option Addr) else some ⟨g, a2.toNat * 4, none⟩) = A25
 clear hA25
 generalize hn1 : l0.length - 1 = n1 at ho ⊢
 have hn2 := H1.out
 have t1 := eq_true (show n1 ≤ l0.length by omega)
 have t2 := eq_true (show l0.length ≤ cap by omega)
 have t3 := eq_false (show ¬ cap = n1 by omega)
 have t4 := Aside0.mk (show l0.length - n1 = 1 ∧ n1 < cap by omega)
 have HO1 := Aside0.mk ho
 have HB1 := Aside0.mk hb
 have HG1 := Aside0.mk hg
 clear hn1 hn2 ho hb hg HO HB
 go_wp2_with (first | ((with_reducible refine gate_builtin (b := .clear) (xs := #[.tmp 31]) rfl ?_); refine R_clear k39 (w0 := w0) w0.heap.size rfl (.tmp 31) 35 39 rfl Try.underlying35 (.agg #[.int .i64 0, .int .i64 0, .int .i64 0, .string ⟨#[]⟩]) (by kernel_rfl) rfl (by simp [Value.cells]; decide) (by decide) (g := g) (n := n1) (c := cap) (c2 := cap - n1) ?hX HO1.out t4.out.2 HB1.out HBG.out ?_; (case hX => show Value.slice _ _ _ = _; rw [t4.out.1]; rfl); intro w2 ho2 hb2 hg2))
 all_goals
  go_ret
  exact ⟨_, rfl, Kd.R_mono ho2 (fun _ h => .inl h), hb2, ⟨Nat.le_trans HG1.out.size hg2.size, fun k hk hn => (hg2.block k (Nat.lt_of_lt_of_le hk HG1.out.size) (fun e => hn (by injection e with e; rw [e]; exact HP.out))).trans (HG1.out.block k hk (fun e => hn (by injection e with e; rw [e]; exact HP.out)))⟩⟩
end

/-! ### impl_Take: function 20 -/
def impl_Take.f (k : Nat) (a0_0 : Int) (l0_1 : List (S39)) (a1 : Int) (a2 : Bool) : Option (Int × (List (S39)) × Int × Int × Int × ByteArray × Bool) := (impl_copyNet.f a0_0 l0_1).bind fun bt187 => ((impl_isNet.f k a0_0 l0_1).bind fun t192 => (if t192 = true then ((impl_Packet_43.f l0_1 a1).bind fun t193 => (if t193 < 0 then (some (bt187.1, bt187.2, 0, 0, 0, (⟨#[]⟩ : ByteArray), false)) else (if a2 = true then (if 0 ≤ t193 then (if t193 < (l0_1.length : Int) then (some (bt187.1, bt187.2, (rd_T39 l0_1 t193).f0, (rd_T39 l0_1 t193).f1, (rd_T39 l0_1 t193).f2, (rd_T39 l0_1 t193).f3, true)) else (none)) else (none)) else ((impl_Packet_45.f bt187.2 t193 (wrap64 (t193 + 1))).bind fun t195 => (if 0 ≤ t193 then (if t193 < (l0_1.length : Int) then (some (bt187.1, t195, (rd_T39 l0_1 t193).f0, (rd_T39 l0_1 t193).f1, (rd_T39 l0_1 t193).f2, (rd_T39 l0_1 t193).f3, true)) else (none)) else (none)))))) else (some (0, ([] : List (S39)), 0, 0, 0, (⟨#[]⟩ : ByteArray), false))))
theorem impl_Take.mono : ∀ a0 a1 a2 a3 k, LeO (impl_Take.f k a0 a1 a2 a3) (impl_Take.f (k + 1) a0 a1 a2 a3) := by
 intro a0 a1 a2 a3 k
 unfold impl_Take.f
 repeat' first
   | (with_reducible exact impl_isNet.mono _ _ _)
   | (with_reducible exact LeO.refl _)
   | (with_reducible exact LeO.none _)
   | (with_reducible refine LeO.ite ?_ ?_)
   | (with_reducible refine LeO.bind ?_ (fun _ => ?_))
   | exact LeO.none _
   | refine LeO.ite ?_ ?_
   | refine LeO.bind ?_ (fun _ => ?_)
def impl_Take.T9 : Bool × List (List Nat × List Nat) := (true, [([], []), ([], []), ([1], [1]), ([], []), ([2, 3], [2, 3]), ([4], [4]), ([0, 0], [0]), ([5, 6, 0, 1, 2, 3, 4, 5, 6], [5]), ([7, 0, 1, 2, 3, 4, 5, 6, 7], [])])
def impl_Take.B9 : List Nat := [0, 0, 2, 0, 14, 30, 1, 127, 255]
theorem impl_Take.tab9 : rtab .any (opsOf Try.f20 9) = impl_Take.T9 := by kernel_rfl
theorem impl_Take.bits9 : waitsOk impl_Take.T9.2 impl_Take.B9 = true := by kernel_rfl
set_option maxHeartbeats 8000000 in
set_option maxRecDepth 100000 in
theorem impl_Take.calls (k : Nat) (a0_0 : Int) (A0_1 : Option Addr) (c0_1 : Nat) (l0_1 : List (S39)) (a1 : Int) (a2 : Bool) (r1 : Int) (r2 : List (S39)) (r3 : Int) (r4 : Int) (r5 : Int) (r6 : ByteArray) (r7 : Bool) (w : World) (hr0_1 : Kd.C k39 w A0_1 l0_1.length l0_1) (hc0_1 : l0_1.length ≤ c0_1) (h : impl_Take.f k a0_0 l0_1 a1 a2 = some (r1, r2, r3, r4, r5, r6, r7)) :
  Calls Try.prog 20 #[.agg #[.int .i64 a0_0, .slice A0_1 l0_1.length c0_1], .int .i64 a1, .bool a2] w fun e w' => ∃ v1_ : Value, e = .returned (.tuple #[.agg #[.int .i64 r1, v1_], .agg #[.int .i64 r3, .int .i64 r4, .int .i64 r5, .string r6], .bool r7]) ∧ Kd.R k39 39 w' w.heap.size (fun _ => True) v1_ r2 ∧ Below w.heap.size w w' := by
 have hu37 := Try.underlying37
 have hu39 := Try.underlying39
 have HR0_1 := Aside0.mk hr0_1
 have HC0_1 := Aside0.mk hc0_1
 clear hr0_1 hc0_1
 have HB := Aside0.mk (Below.refl w.heap.size w)
 have H : ((impl_copyNet.f a0_0 l0_1).bind fun bt187 => ((impl_isNet.f k a0_0 l0_1).bind fun t192 => (if t192 = true then ((impl_Packet_43.f l0_1 a1).bind fun t193 => (if t193 < 0 then (some (bt187.1, bt187.2, 0, 0, 0, (⟨#[]⟩ : ByteArray), false)) else (if a2 = true then (if 0 ≤ t193 then (if t193 < (l0_1.length : Int) then (some (bt187.1, bt187.2, (rd_T39 l0_1 t193).f0, (rd_T39 l0_1 t193).f1, (rd_T39 l0_1 t193).f2, (rd_T39 l0_1 t193).f3, true)) else (none)) else (none)) else ((impl_Packet_45.f bt187.2 t193 (wrap64 (t193 + 1))).bind fun t195 => (if 0 ≤ t193 then (if t193 < (l0_1.length : Int) then (some (bt187.1, t195, (rd_T39 l0_1 t193).f0, (rd_T39 l0_1 t193).f1, (rd_T39 l0_1 t193).f2, (rd_T39 l0_1 t193).f3, true)) else (none)) else (none)))))) else (some (0, ([] : List (S39)), 0, 0, 0, (⟨#[]⟩ : ByteArray), false))))) = some (r1, r2, r3, r4, r5, r6, r7) := h
 clear h
 replace H := Option.bind_eq_some_iff.mp H
 obtain ⟨⟨t187, t188⟩, A40, H⟩ := H
 replace H : ((impl_isNet.f k a0_0 l0_1).bind fun t192 => (if t192 = true then ((impl_Packet_43.f l0_1 a1).bind fun t193 => (if t193 < 0 then (some (t187, t188, 0, 0, 0, (⟨#[]⟩ : ByteArray), false)) else (if a2 = true then (if 0 ≤ t193 then (if t193 < (l0_1.length : Int) then (some (t187, t188, (rd_T39 l0_1 t193).f0, (rd_T39 l0_1 t193).f1, (rd_T39 l0_1 t193).f2, (rd_T39 l0_1 t193).f3, true)) else (none)) else (none)) else ((impl_Packet_45.f t188 t193 (wrap64 (t193 + 1))).bind fun t195 => (if 0 ≤ t193 then (if t193 < (l0_1.length : Int) then (some (t187, t195, (rd_T39 l0_1 t193).f0, (rd_T39 l0_1 t193).f1, (rd_T39 l0_1 t193).f2, (rd_T39 l0_1 t193).f3, true)) else (none)) else (none)))))) else (some (0, ([] : List (S39)), 0, 0, 0, (⟨#[]⟩ : ByteArray), false)))) = some (r1, r2, r3, r4, r5, r6, r7) := H
 have A4 := Aside0.mk A40
 clear A40
 replace H := Option.bind_eq_some_iff.mp H
 obtain ⟨t192, A50, H⟩ := H
 replace H : (if t192 = true then ((impl_Packet_43.f l0_1 a1).bind fun t193 => (if t193 < 0 then (some (t187, t188, 0, 0, 0, (⟨#[]⟩ : ByteArray), false)) else (if a2 = true then (if 0 ≤ t193 then (if t193 < (l0_1.length : Int) then (some (t187, t188, (rd_T39 l0_1 t193).f0, (rd_T39 l0_1 t193).f1, (rd_T39 l0_1 t193).f2, (rd_T39 l0_1 t193).f3, true)) else (none)) else (none)) else ((impl_Packet_45.f t188 t193 (wrap64 (t193 + 1))).bind fun t195 => (if 0 ≤ t193 then (if t193 < (l0_1.length : Int) then (some (t187, t195, (rd_T39 l0_1 t193).f0, (rd_T39 l0_1 t193).f1, (rd_T39 l0_1 t193).f2, (rd_T39 l0_1 t193).f3, true)) else (none)) else (none)))))) else (some (0, ([] : List (S39)), 0, 0, 0, (⟨#[]⟩ : ByteArray), false))) = some (r1, r2, r3, r4, r5, r6, r7) := H
 have A5 := Aside0.mk A50
 clear A50
 by_cases c6 : t192 = true
 ·
  subst c6
  have H1 : ((impl_Packet_43.f l0_1 a1).bind fun t193 => (if t193 < 0 then (some (t187, t188, 0, 0, 0, (⟨#[]⟩ : ByteArray), false)) else (if a2 = true then (if 0 ≤ t193 then (if t193 < (l0_1.length : Int) then (some (t187, t188, (rd_T39 l0_1 t193).f0, (rd_T39 l0_1 t193).f1, (rd_T39 l0_1 t193).f2, (rd_T39 l0_1 t193).f3, true)) else (none)) else (none)) else ((impl_Packet_45.f t188 t193 (wrap64 (t193 + 1))).bind fun t195 => (if 0 ≤ t193 then (if t193 < (l0_1.length : Int) then (some (t187, t195, (rd_T39 l0_1 t193).f0, (rd_T39 l0_1 t193).f1, (rd_T39 l0_1 t193).f2, (rd_T39 l0_1 t193).f3, true)) else (none)) else (none)))))) = some (r1, r2, r3, r4, r5, r6, r7) := by rw [if_pos rfl] at H; exact H
  clear H
  have H := H1
  clear H1
  replace H := Option.bind_eq_some_iff.mp H
  obtain ⟨t193, A70, H⟩ := H
  replace H : (if t193 < 0 then (some (t187, t188, 0, 0, 0, (⟨#[]⟩ : ByteArray), false)) else (if a2 = true then (if 0 ≤ t193 then (if t193 < (l0_1.length : Int) then (some (t187, t188, (rd_T39 l0_1 t193).f0, (rd_T39 l0_1 t193).f1, (rd_T39 l0_1 t193).f2, (rd_T39 l0_1 t193).f3, true)) else (none)) else (none)) else ((impl_Packet_45.f t188 t193 (wrap64 (t193 + 1))).bind fun t195 => (if 0 ≤ t193 then (if t193 < (l0_1.length : Int) then (some (t187, t195, (rd_T39 l0_1 t193).f0, (rd_T39 l0_1 t193).f1, (rd_T39 l0_1 t193).f2, (rd_T39 l0_1 t193).f3, true)) else (none)) else (none))))) = some (r1, r2, r3, r4, r5, r6, r7) := H
  have A7 := Aside0.mk A70
  clear A70
  by_cases c8 : t193 < 0
  ·
   rw [if_pos c8] at H
   have c8b0 := decide_eq_true c8
   clear c8
   simp only [Option.some.injEq, Prod.mk.injEq] at H
   obtain ⟨rfl, rfl, rfl, rfl, rfl, rfl, rfl⟩ := H
   go_enter Try.func20, Try.ntmps20
   go_wp2_with (first | ((with_reducible refine gate_dst (N := 3) rfl ?_); refine box_event ?hg (N := 3) ?hd (cs := #[.int .i64 a0_0, .slice A0_1 l0_1.length c0_1]) (t := 37) ?hr ?_; (case hd => rfl); (case hg => rfl); (case hr => exact zq1); intro gb183 hg w9 hbox hb; have BK183 := Aside0.mk hbox; have GW183 := Aside0.mk (zq205 : w.heap.size ≤ gb183); have GE183 := Aside0.mk (zq205 : w.heap.size ≤ gb183); replace HB := sB zq2 hb; clear hb hbox hg) | ((with_reducible refine gate_dst (N := 4) rfl ?_); refine box_event ?hg (N := 4) ?hd (cs := #[.int .i64 a1]) (t := 2) ?hr ?_; (case hd => rfl); (case hg => rfl); (case hr => exact zq1); intro gb184 hg w10 hbox hb; have BK184 := Aside0.mk hbox; have GW184 := Aside0.mk (zq251 : w.heap.size ≤ gb184); have GE184 := Aside0.mk (zq251 : w.heap.size ≤ gb184); replace HB := sB zq163 hb; have NB183_184 := Aside0.mk (zq252 : gb183 ≠ gb184); have NB184_183 := Aside0.mk (zq253 : gb184 ≠ gb183); replace BK183 := bF BK183 zq162 hb; clear hb hbox hg) | ((with_reducible refine gate_dst (N := 6) rfl ?_); refine box_event ?hg (N := 6) ?hd (cs := #[.int .i64 0, .slice none 0 0]) (t := 37) ?hr ?_; (case hd => rfl); (case hg => rfl); (case hr => exact zq1); intro gb185 hg w11 hbox hb; have BK185 := Aside0.mk hbox; have GW185 := Aside0.mk (zq254 : w.heap.size ≤ gb185); have GE185 := Aside0.mk (zq254 : w.heap.size ≤ gb185); replace HB := sB zq165 hb; have NB183_185 := Aside0.mk (zq252 : gb183 ≠ gb185); have NB185_183 := Aside0.mk (zq253 : gb185 ≠ gb183); replace BK183 := bF BK183 zq162 hb; have NB184_185 := Aside0.mk (zq255 : gb184 ≠ gb185); have NB185_184 := Aside0.mk (zq256 : gb185 ≠ gb184); replace BK184 := bF BK184 zq164 hb; clear hb hbox hg) | ((with_reducible refine gate_dst (N := 7) rfl ?_); refine box_event ?hg (N := 7) ?hd (cs := #[.int .i64 0, .int .i64 0, .int .i64 0, .string (⟨#[]⟩ : ByteArray)]) (t := 39) ?hr ?_; (case hd => rfl); (case hg => rfl); (case hr => exact zq1); intro gb186 hg w12 hbox hb; have BK186 := Aside0.mk hbox; have GW186 := Aside0.mk (zq257 : w.heap.size ≤ gb186); have GE186 := Aside0.mk (zq257 : w.heap.size ≤ gb186); replace HB := sB zq167 hb; have NB183_186 := Aside0.mk (zq252 : gb183 ≠ gb186); have NB186_183 := Aside0.mk (zq253 : gb186 ≠ gb183); replace BK183 := bF BK183 zq162 hb; have NB184_186 := Aside0.mk (zq255 : gb184 ≠ gb186); have NB186_184 := Aside0.mk (zq256 : gb186 ≠ gb184); replace BK184 := bF BK184 zq164 hb; have NB185_186 := Aside0.mk (zq258 : gb185 ≠ gb186); have NB186_185 := Aside0.mk (zq259 : gb186 ≠ gb185); replace BK185 := bF BK185 zq166 hb; clear hb hbox hg; have hnb13 := NB183_184.out; have hnc13 := NB184_183.out; have hnb14 := NB183_185.out; have hnc14 := NB185_183.out; have hnb15 := NB183_186.out; have hnc15 := NB186_183.out; obtain ⟨hcz16_0, hcz16_1, hfz16_0, hfz16_1⟩ := c2 (w := w12) BK183) | ((with_reducible refine gC 41 rfl ?_); refine gL 12 Try.func41 #[.agg #[.int .i64 a0_0, .slice A0_1 l0_1.length c0_1]] ?_; (with_reducible refine (impl_copyNet.calls a0_0 _ _ l0_1 t187 t188 _ ?_ ?_ A4.out).mono ?_); exact zq9; exact zq10; rintro e w17 ⟨v189, rfl, ho0, hb⟩; refine ⟨_, rfl, ?_⟩; have HO190 := Aside0.mk (Kd.R_lower (Kd.R_newB ho0 (g := gb186) (o := .cells #[.int .i64 0, .int .i64 0, .int .i64 0, .string (⟨#[]⟩ : ByteArray)] 39 (0, 0)) zq168) (below_size zq169)); replace BK183 := bF BK183 zq162 hb; replace BK184 := bF BK184 zq164 hb; replace BK185 := bF BK185 zq166 hb; replace BK186 := bF BK186 zq168 hb; replace HB := sB zq169 hb; clear hb; (try clear ho0)) | ((with_reducible refine gate_dst (N := 9) rfl ?_); refine box_event ?hg (N := 9) ?hd (cs := #[.int .i64 0, .slice none 0 0]) (t := 37) ?hr ?_; (case hd => rfl); (case hg => rfl); (case hr => exact zq1); intro gb191 hg w18 hbox hb; replace HO190 := rB zq170 hb; have BK191 := Aside0.mk hbox; have GW191 := Aside0.mk (zq260 : w.heap.size ≤ gb191); have GE191 := Aside0.mk (zq260 : w.heap.size ≤ gb191); replace HB := sB zq169 hb; have NB183_191 := Aside0.mk (zq252 : gb183 ≠ gb191); have NB191_183 := Aside0.mk (zq253 : gb191 ≠ gb183); replace BK183 := bF BK183 zq162 hb; have NB184_191 := Aside0.mk (zq255 : gb184 ≠ gb191); have NB191_184 := Aside0.mk (zq256 : gb191 ≠ gb184); replace BK184 := bF BK184 zq164 hb; have NB185_191 := Aside0.mk (zq258 : gb185 ≠ gb191); have NB191_185 := Aside0.mk (zq259 : gb191 ≠ gb185); replace BK185 := bF BK185 zq166 hb; have NB186_191 := Aside0.mk (zq261 : gb186 ≠ gb191); have NB191_186 := Aside0.mk (zq262 : gb191 ≠ gb186); replace BK186 := bF BK186 zq168 hb; clear hb hbox hg; have hnb19 := NB191_183.out; have hnc19 := NB183_191.out; have hnb20 := NB191_184.out; have hnc20 := NB184_191.out; have hnb21 := NB191_185.out; have hnc21 := NB185_191.out; have hnb22 := NB191_186.out; have hnc22 := NB186_191.out; obtain ⟨hcz23_0, hcz23_1, hfz23_0, hfz23_1⟩ := c2 (w := w18) BK191; obtain ⟨Ao24, co24, eo24⟩ := Kd.R_slice HO190.out; subst eo24; obtain ⟨hcz25_0, hcz25_1, hfz25_0, hfz25_1⟩ := c2 (w := w18) BK183) | ((with_reducible refine gC 42 rfl ?_); refine gL 14 Try.func42 #[.agg #[.int .i64 a0_0, .slice A0_1 l0_1.length c0_1]] ?_; (with_reducible refine (impl_isNet.calls k a0_0 _ _ l0_1 true _ ?_ ?_ A5.out).mono ?_); exact zq263; exact zq10; rintro e w26 ⟨rfl, hb⟩; refine ⟨_, rfl, ?_⟩; replace HO190 := rB (by (with_reducible repeat (first | apply Kd.R_alloc | apply Kd.R_drewN | apply Kd.R_drew)); exact (Kd.R_mono (Kd.R_far (p := ⟨gb191, 1, none⟩) (Kd.R_far (p := ⟨gb191, 0, none⟩) (Kd.R_types HO190.out BK191.out (by decide)) (fun _ hk => hk.2) (.int .i64 t187)) (fun _ hk => hk.2) (.slice Ao24 t188.length co24)) (fun _ h_ => h_.1))) hb; replace BK183 := bF BK183 zq172 hb; replace BK184 := bF BK184 zq173 hb; replace BK185 := bF BK185 zq174 hb; replace BK186 := bF BK186 zq175 hb; replace BK191 := bB (g := gb191) (o := .cells #[.int .i64 t187, .slice Ao24 t188.length co24] 37 (0, 0)) zq176 hb; replace HB := sB zq171 hb; clear hb; obtain ⟨hcz27_0, hcz27_1, hfz27_0, hfz27_1⟩ := c2 (w := w26) BK183; have hnb28 := NB184_185.out; have hnc28 := NB185_184.out; have hnb29 := NB184_186.out; have hnc29 := NB186_184.out; obtain ⟨hcz30_0, hfz30_0⟩ := c1 (w := w26) BK184) | ((with_reducible refine gC 43 rfl ?_); refine gL 21 Try.func43 #[.slice A0_1 l0_1.length c0_1, .func (.func 44) #[] #[.pointer (some ⟨gb184, 0, none⟩)]] ?_; (with_reducible refine (impl_Packet_43.calls _ _ l0_1 a1 t193 _ ?_ ?_ A7.out gb184 ((blk_cell (t := 2) (cs := #[.int .i64 a1]) zq164 0).trans rfl)).mono ?_); exact zq9; exact zq10; rintro e w31 ⟨rfl, hb⟩; refine ⟨_, rfl, ?_⟩; replace HO190 := rB zq170 hb; replace BK183 := bF BK183 zq162 hb; replace BK184 := bF BK184 zq164 hb; replace BK185 := bF BK185 zq166 hb; replace BK186 := bF BK186 zq168 hb; replace BK191 := bF BK191 zq177 hb; replace HB := sB zq171 hb; clear hb; obtain ⟨hcz32_0, hcz32_1, hfz32_0, hfz32_1⟩ := c2 (w := w31) BK191; have hnb33 := NB185_186.out; have hnc33 := NB186_185.out; obtain ⟨hcz34_0, hcz34_1, hfz34_0, hfz34_1⟩ := c2 (w := w31) BK185; obtain ⟨hcz35_0, hcz35_1, hcz35_2, hcz35_3, hfz35_0, hfz35_1, hfz35_2, hfz35_3⟩ := Go.Proofs.YtklaigmpceacaaaW.PrintLast.c4 (w := w31) BK186))
   refine bodyPost_ret (results_list (rs := [.cell 6 37, .cell 7 39, .tmp 8]) rfl (by simp) (.cell gb185 37 #[.int .i64 t187, .slice Ao24 t188.length co24] (0, 0) _ rfl zq178 Try.underlying37 rfl (by kernel_rfl) (.cell gb186 39 #[.int .i64 0, .int .i64 0, .int .i64 0, .string (⟨#[]⟩ : ByteArray)] (0, 0) _ rfl zq179 Try.underlying39 rfl (by kernel_rfl) (.tmp .nil)))) rfl ?_
   exact ⟨_, zq3, by (with_reducible repeat (first | apply Kd.R_alloc | apply Kd.R_drewN | apply Kd.R_drew)); exact Kd.R_mono (Kd.R_far (p := ⟨gb186, 3, none⟩) (Kd.R_far (p := ⟨gb186, 2, none⟩) (Kd.R_far (p := ⟨gb186, 1, none⟩) (Kd.R_far (p := ⟨gb186, 0, none⟩) (Kd.R_far (p := ⟨gb185, 1, none⟩) (Kd.R_far (p := ⟨gb185, 0, none⟩) (Kd.R_mono (Kd.R_types HO190.out BK185.out (by decide)) (fun k_ hk => (⟨hk, hk.1.2⟩ : _ ∧ k_ ≠ gb186))) (fun _ hk => hk.1.2) (.int .i64 t187)) (fun _ hk => hk.1.2) (.slice Ao24 t188.length co24)) (fun _ hk => hk.2) (.int .i64 0)) (fun _ hk => hk.2) (.int .i64 0)) (fun _ hk => hk.2) (.int .i64 0)) (fun _ hk => hk.2) (.string (⟨#[]⟩ : ByteArray))) (fun _ hk => trivial), zq171⟩
  rw [if_neg c8] at H
  have c8b0 := decide_eq_false c8
  clear c8
  by_cases c36 : a2 = true
  ·
   subst c36
   have H1 : (if 0 ≤ t193 then (if t193 < (l0_1.length : Int) then (some (t187, t188, (rd_T39 l0_1 t193).f0, (rd_T39 l0_1 t193).f1, (rd_T39 l0_1 t193).f2, (rd_T39 l0_1 t193).f3, true)) else (none)) else (none)) = some (r1, r2, r3, r4, r5, r6, r7) := by rw [if_pos rfl] at H; exact H
   clear H
   have H := H1
   clear H1
   by_cases c37 : 0 ≤ t193
   ·
    rw [if_pos c37] at H
    have c37b0 := decide_eq_true c37
    clear c37
    by_cases c38 : t193 < (l0_1.length : Int)
    ·
     rw [if_pos c38] at H
     have c38b0 := decide_eq_true c38
     clear c38
     simp only [Option.some.injEq, Prod.mk.injEq] at H
     obtain ⟨rfl, rfl, rfl, rfl, rfl, rfl, rfl⟩ := H
     go_enter Try.func20, Try.ntmps20
     try go_wp2_with (first | ((with_reducible refine gate_dst (N := 3) rfl ?_); refine box_event ?hg (N := 3) ?hd (cs := #[.int .i64 a0_0, .slice A0_1 l0_1.length c0_1]) (t := 37) ?hr ?_; (case hd => rfl); (case hg => rfl); (case hr => exact zq1); intro gb183 hg w39 hbox hb; have BK183 := Aside0.mk hbox; have GW183 := Aside0.mk (zq205 : w.heap.size ≤ gb183); have GE183 := Aside0.mk (zq205 : w.heap.size ≤ gb183); replace HB := sB zq2 hb; clear hb hbox hg) | ((with_reducible refine gate_dst (N := 4) rfl ?_); refine box_event ?hg (N := 4) ?hd (cs := #[.int .i64 a1]) (t := 2) ?hr ?_; (case hd => rfl); (case hg => rfl); (case hr => exact zq1); intro gb184 hg w40 hbox hb; have BK184 := Aside0.mk hbox; have GW184 := Aside0.mk (zq251 : w.heap.size ≤ gb184); have GE184 := Aside0.mk (zq251 : w.heap.size ≤ gb184); replace HB := sB zq163 hb; have NB183_184 := Aside0.mk (zq252 : gb183 ≠ gb184); have NB184_183 := Aside0.mk (zq253 : gb184 ≠ gb183); replace BK183 := bF BK183 zq162 hb; clear hb hbox hg) | ((with_reducible refine gate_dst (N := 6) rfl ?_); refine box_event ?hg (N := 6) ?hd (cs := #[.int .i64 0, .slice none 0 0]) (t := 37) ?hr ?_; (case hd => rfl); (case hg => rfl); (case hr => exact zq1); intro gb185 hg w41 hbox hb; have BK185 := Aside0.mk hbox; have GW185 := Aside0.mk (zq254 : w.heap.size ≤ gb185); have GE185 := Aside0.mk (zq254 : w.heap.size ≤ gb185); replace HB := sB zq165 hb; have NB183_185 := Aside0.mk (zq252 : gb183 ≠ gb185); have NB185_183 := Aside0.mk (zq253 : gb185 ≠ gb183); replace BK183 := bF BK183 zq162 hb; have NB184_185 := Aside0.mk (zq255 : gb184 ≠ gb185); have NB185_184 := Aside0.mk (zq256 : gb185 ≠ gb184); replace BK184 := bF BK184 zq164 hb; clear hb hbox hg) | ((with_reducible refine gate_dst (N := 7) rfl ?_); refine box_event ?hg (N := 7) ?hd (cs := #[.int .i64 0, .int .i64 0, .int .i64 0, .string (⟨#[]⟩ : ByteArray)]) (t := 39) ?hr ?_; (case hd => rfl); (case hg => rfl); (case hr => exact zq1); intro gb186 hg w42 hbox hb; have BK186 := Aside0.mk hbox; have GW186 := Aside0.mk (zq257 : w.heap.size ≤ gb186); have GE186 := Aside0.mk (zq257 : w.heap.size ≤ gb186); replace HB := sB zq167 hb; have NB183_186 := Aside0.mk (zq252 : gb183 ≠ gb186); have NB186_183 := Aside0.mk (zq253 : gb186 ≠ gb183); replace BK183 := bF BK183 zq162 hb; have NB184_186 := Aside0.mk (zq255 : gb184 ≠ gb186); have NB186_184 := Aside0.mk (zq256 : gb186 ≠ gb184); replace BK184 := bF BK184 zq164 hb; have NB185_186 := Aside0.mk (zq258 : gb185 ≠ gb186); have NB186_185 := Aside0.mk (zq259 : gb186 ≠ gb185); replace BK185 := bF BK185 zq166 hb; clear hb hbox hg; have hnb43 := NB183_184.out; have hnc43 := NB184_183.out; have hnb44 := NB183_185.out; have hnc44 := NB185_183.out; have hnb45 := NB183_186.out; have hnc45 := NB186_183.out; obtain ⟨hcz46_0, hcz46_1, hfz46_0, hfz46_1⟩ := c2 (w := w42) BK183) | ((with_reducible refine gC 41 rfl ?_); refine gL 12 Try.func41 #[.agg #[.int .i64 a0_0, .slice A0_1 l0_1.length c0_1]] ?_; (with_reducible refine (impl_copyNet.calls a0_0 _ _ l0_1 t187 t188 _ ?_ ?_ A4.out).mono ?_); exact zq9; exact zq10; rintro e w47 ⟨v189, rfl, ho0, hb⟩; refine ⟨_, rfl, ?_⟩; have HO190 := Aside0.mk (Kd.R_lower (Kd.R_newB ho0 (g := gb186) (o := .cells #[.int .i64 0, .int .i64 0, .int .i64 0, .string (⟨#[]⟩ : ByteArray)] 39 (0, 0)) zq168) (below_size zq169)); replace BK183 := bF BK183 zq162 hb; replace BK184 := bF BK184 zq164 hb; replace BK185 := bF BK185 zq166 hb; replace BK186 := bF BK186 zq168 hb; replace HB := sB zq169 hb; clear hb; (try clear ho0)) | ((with_reducible refine gate_dst (N := 9) rfl ?_); refine box_event ?hg (N := 9) ?hd (cs := #[.int .i64 0, .slice none 0 0]) (t := 37) ?hr ?_; (case hd => rfl); (case hg => rfl); (case hr => exact zq1); intro gb191 hg w48 hbox hb; replace HO190 := rB zq170 hb; have BK191 := Aside0.mk hbox; have GW191 := Aside0.mk (zq260 : w.heap.size ≤ gb191); have GE191 := Aside0.mk (zq260 : w.heap.size ≤ gb191); replace HB := sB zq169 hb; have NB183_191 := Aside0.mk (zq252 : gb183 ≠ gb191); have NB191_183 := Aside0.mk (zq253 : gb191 ≠ gb183); replace BK183 := bF BK183 zq162 hb; have NB184_191 := Aside0.mk (zq255 : gb184 ≠ gb191); have NB191_184 := Aside0.mk (zq256 : gb191 ≠ gb184); replace BK184 := bF BK184 zq164 hb; have NB185_191 := Aside0.mk (zq258 : gb185 ≠ gb191); have NB191_185 := Aside0.mk (zq259 : gb191 ≠ gb185); replace BK185 := bF BK185 zq166 hb; have NB186_191 := Aside0.mk (zq261 : gb186 ≠ gb191); have NB191_186 := Aside0.mk (zq262 : gb191 ≠ gb186); replace BK186 := bF BK186 zq168 hb; clear hb hbox hg; have hnb49 := NB191_183.out; have hnc49 := NB183_191.out; have hnb50 := NB191_184.out; have hnc50 := NB184_191.out; have hnb51 := NB191_185.out; have hnc51 := NB185_191.out; have hnb52 := NB191_186.out; have hnc52 := NB186_191.out; obtain ⟨hcz53_0, hcz53_1, hfz53_0, hfz53_1⟩ := c2 (w := w48) BK191; obtain ⟨Ao54, co54, eo54⟩ := Kd.R_slice HO190.out; subst eo54; obtain ⟨hcz55_0, hcz55_1, hfz55_0, hfz55_1⟩ := c2 (w := w48) BK183) | ((with_reducible refine gC 42 rfl ?_); refine gL 14 Try.func42 #[.agg #[.int .i64 a0_0, .slice A0_1 l0_1.length c0_1]] ?_; (with_reducible refine (impl_isNet.calls k a0_0 _ _ l0_1 true _ ?_ ?_ A5.out).mono ?_); exact zq263; exact zq10; rintro e w56 ⟨rfl, hb⟩; refine ⟨_, rfl, ?_⟩; replace HO190 := rB (by (with_reducible repeat (first | apply Kd.R_alloc | apply Kd.R_drewN | apply Kd.R_drew)); exact (Kd.R_mono (Kd.R_far (p := ⟨gb191, 1, none⟩) (Kd.R_far (p := ⟨gb191, 0, none⟩) (Kd.R_types HO190.out BK191.out (by decide)) (fun _ hk => hk.2) (.int .i64 t187)) (fun _ hk => hk.2) (.slice Ao54 t188.length co54)) (fun _ h_ => h_.1))) hb; replace BK183 := bF BK183 zq172 hb; replace BK184 := bF BK184 zq173 hb; replace BK185 := bF BK185 zq174 hb; replace BK186 := bF BK186 zq175 hb; replace BK191 := bB (g := gb191) (o := .cells #[.int .i64 t187, .slice Ao54 t188.length co54] 37 (0, 0)) zq176 hb; replace HB := sB zq171 hb; clear hb; obtain ⟨hcz57_0, hcz57_1, hfz57_0, hfz57_1⟩ := c2 (w := w56) BK183; have hnb58 := NB184_185.out; have hnc58 := NB185_184.out; have hnb59 := NB184_186.out; have hnc59 := NB186_184.out; obtain ⟨hcz60_0, hfz60_0⟩ := c1 (w := w56) BK184) | ((with_reducible refine gC 43 rfl ?_); refine gL 21 Try.func43 #[.slice A0_1 l0_1.length c0_1, .func (.func 44) #[] #[.pointer (some ⟨gb184, 0, none⟩)]] ?_; (with_reducible refine (impl_Packet_43.calls _ _ l0_1 a1 t193 _ ?_ ?_ A7.out gb184 ((blk_cell (t := 2) (cs := #[.int .i64 a1]) zq164 0).trans rfl)).mono ?_); exact zq9; exact zq10; rintro e w61 ⟨rfl, hb⟩; refine ⟨_, rfl, ?_⟩; replace HO190 := rB zq170 hb; replace BK183 := bF BK183 zq162 hb; replace BK184 := bF BK184 zq164 hb; replace BK185 := bF BK185 zq166 hb; replace BK186 := bF BK186 zq168 hb; replace BK191 := bF BK191 zq177 hb; replace HB := sB zq171 hb; clear hb))
     replace HO190 := Aside0.mk (Kd.R_drew HO190.out)
     replace BK183 := Aside0.mk (blk_drew BK183.out)
     replace BK184 := Aside0.mk (blk_drew BK184.out)
     replace BK185 := Aside0.mk (blk_drew BK185.out)
     replace BK186 := Aside0.mk (blk_drew BK186.out)
     replace BK191 := Aside0.mk (blk_drew BK191.out)
     replace HB := Aside0.mk (below_drew1 HB.out)
     have p194 : 0 ≤ (t193 : Int) := of_decide_eq_true zq6
     have q194 : t193 < (l0_1.length : Int) := of_decide_eq_true zq6
     obtain ⟨ad194, e194, hx194_0, hx194_1, hx194_2, hx194_3⟩ := at_T39 HR0_1.out t193 p194 q194
     have hw194_3 := hx194_3
     have hw194_2 := hx194_2
     have hw194_1 := hx194_1
     have hw194_0 := hx194_0
     cases e194
     replace hx194_0 := (HB.out.cell (World.block_lt_of_cell? w _ hx194_0)).trans hx194_0
     replace hx194_1 := (HB.out.cell (World.block_lt_of_cell? w _ hx194_1)).trans hx194_1
     replace hx194_2 := (HB.out.cell (World.block_lt_of_cell? w _ hx194_2)).trans hx194_2
     replace hx194_3 := (HB.out.cell (World.block_lt_of_cell? w _ hx194_3)).trans hx194_3
     replace p194 := eq_true p194
     replace q194 := eq_true q194
     refine start_ (n := 9) (S := fun w' => w'.cell? ⟨gb191, 0, none⟩ = some (.int .i64 t187) ∧ w'.cell? ⟨gb191, 1, none⟩ = some (.slice Ao54 t188.length co54) ∧ w'.cell? ⟨gb183, 0, none⟩ = some (.int .i64 a0_0) ∧ w'.cell? ⟨gb183, 1, none⟩ = some (.slice (some ad194) l0_1.length c0_1) ∧ w'.cell? (ad194.add ((t193).toNat * 4)) = some (.int .i64 ((rd_T39 l0_1 t193).f0)) ∧ w'.cell? ⟨(ad194.add ((t193).toNat * 4)).block, (ad194.add ((t193).toNat * 4)).off + 1, none⟩ = some (.int .i64 ((rd_T39 l0_1 t193).f1)) ∧ w'.cell? ⟨(ad194.add ((t193).toNat * 4)).block, (ad194.add ((t193).toNat * 4)).off + 2, none⟩ = some (.int .i64 ((rd_T39 l0_1 t193).f2)) ∧ w'.cell? ⟨(ad194.add ((t193).toNat * 4)).block, (ad194.add ((t193).toNat * 4)).off + 3, none⟩ = some (.string ((rd_T39 l0_1 t193).f3))) (ds := []) (bA 9 0) (by kernel_rfl) rfl rfl ⟨(blk_cell BK191.out 0).trans rfl, (blk_cell BK191.out 1).trans rfl, (blk_cell BK183.out 0).trans rfl, (blk_cell BK183.out 1).trans rfl, ((HB.out.cell (World.block_lt_of_cell? w _ hw194_0)).trans hw194_0), ((HB.out.cell (World.block_lt_of_cell? w _ hw194_1)).trans hw194_1), ((HB.out.cell (World.block_lt_of_cell? w _ hw194_2)).trans hw194_2), ((HB.out.cell (World.block_lt_of_cell? w _ hw194_3)).trans hw194_3)⟩ (fun hHeld => ?_); refine with_tabW impl_Take.tab9 impl_Take.bits9 (fun HT_ HW_ => ?_)
     generalize w61.drew = w62 at HO190 BK183 BK184 BK185 BK186 BK191 HB hx194_0 hx194_1 hx194_2 hx194_3 hHeld ⊢
     refine pV 1 36 9 2 ?_
     refine pV 3 38 9 10 ?_
     refine tV 0 35 9 11 rfl zq294 ?_
     refine tV 2 37 9 15 rfl zq294 ?_
     refine pV 4 39 9 31 ?_
     refine tV 5 40 9 63 rfl zq294 ?_
     refine one_ (i := 6) (N := none) (bA 9 127) rfl rfl (one_of HT_.out (by kernel_rfl)) (by decide) (fun K hK => ?_)
     have hs63 : w62.cell? ⟨gb185, 0, none⟩ = some (.int .i64 0) := (blk_cell BK185.out 0).trans rfl
     have hfs63 := blk_frozen BK185.out 0
     have hns63_0 := NB183_185.out
     have hns63_1 := NB184_185.out
     have hns63_3 := NB186_185.out
     have hns63_4 := NB191_185.out
     have hms63_0 := NB185_183.out
     have hms63_1 := NB185_184.out
     have hms63_3 := NB185_186.out
     have hms63_4 := NB185_191.out
     have hs64 : w62.cell? ⟨gb185, 1, none⟩ = some (.slice none 0 0) := (blk_cell BK185.out 1).trans rfl
     have hfs64 := blk_frozen BK185.out 1
     have hns64_0 := NB183_185.out
     have hns64_1 := NB184_185.out
     have hns64_3 := NB186_185.out
     have hns64_4 := NB191_185.out
     have hms64_0 := NB185_183.out
     have hms64_1 := NB185_184.out
     have hms64_3 := NB185_186.out
     have hms64_4 := NB185_191.out
     refine skip_ (w1 := ?_) (by rfl) rfl ?_ ?_
     rotate_left
     ·
      go_simp
      rfl
     refine hK.out _ _ ⟨((cell_far (p := ⟨gb185, _, none⟩) NB191_185.out _).trans (((cell_far (p := ⟨gb185, _, none⟩) NB191_185.out _).trans (hHeld.1)))), ((cell_far (p := ⟨gb185, _, none⟩) NB191_185.out _).trans (((cell_far (p := ⟨gb185, _, none⟩) NB191_185.out _).trans (hHeld.2.1)))), ((cell_far (p := ⟨gb185, _, none⟩) NB183_185.out _).trans (((cell_far (p := ⟨gb185, _, none⟩) NB183_185.out _).trans (hHeld.2.2.1)))), ((cell_far (p := ⟨gb185, _, none⟩) NB183_185.out _).trans (((cell_far (p := ⟨gb185, _, none⟩) NB183_185.out _).trans (hHeld.2.2.2.1)))), ((cell_far (p := ⟨gb185, _, none⟩) zq264 _).trans (((cell_far (p := ⟨gb185, _, none⟩) zq264 _).trans (hHeld.2.2.2.2.1)))), ((cell_far (p := ⟨gb185, _, none⟩) zq265 _).trans (((cell_far (p := ⟨gb185, _, none⟩) zq265 _).trans (hHeld.2.2.2.2.2.1)))), ((cell_far (p := ⟨gb185, _, none⟩) zq266 _).trans (((cell_far (p := ⟨gb185, _, none⟩) zq266 _).trans (hHeld.2.2.2.2.2.2.1)))), ((cell_far (p := ⟨gb185, _, none⟩) zq267 _).trans (((cell_far (p := ⟨gb185, _, none⟩) zq267 _).trans (hHeld.2.2.2.2.2.2.2))))⟩ (fun hHeld => ?_)
     clear hK K
     refine one_ (i := 7) (N := none) (bA 9 255) rfl rfl (one_of HT_.out (by kernel_rfl)) (by decide) (fun K hK => ?_)
     have hs65 : w62.cell? ⟨gb186, 0, none⟩ = some (.int .i64 0) := (blk_cell BK186.out 0).trans rfl
     have hfs65 := blk_frozen BK186.out 0
     have hns65_0 := NB183_186.out
     have hns65_1 := NB184_186.out
     have hns65_2 := NB185_186.out
     have hns65_4 := NB191_186.out
     have hms65_0 := NB186_183.out
     have hms65_1 := NB186_184.out
     have hms65_2 := NB186_185.out
     have hms65_4 := NB186_191.out
     have hs66 : w62.cell? ⟨gb186, 1, none⟩ = some (.int .i64 0) := (blk_cell BK186.out 1).trans rfl
     have hfs66 := blk_frozen BK186.out 1
     have hns66_0 := NB183_186.out
     have hns66_1 := NB184_186.out
     have hns66_2 := NB185_186.out
     have hns66_4 := NB191_186.out
     have hms66_0 := NB186_183.out
     have hms66_1 := NB186_184.out
     have hms66_2 := NB186_185.out
     have hms66_4 := NB186_191.out
     have hs67 : w62.cell? ⟨gb186, 2, none⟩ = some (.int .i64 0) := (blk_cell BK186.out 2).trans rfl
     have hfs67 := blk_frozen BK186.out 2
     have hns67_0 := NB183_186.out
     have hns67_1 := NB184_186.out
     have hns67_2 := NB185_186.out
     have hns67_4 := NB191_186.out
     have hms67_0 := NB186_183.out
     have hms67_1 := NB186_184.out
     have hms67_2 := NB186_185.out
     have hms67_4 := NB186_191.out
     have hs68 : w62.cell? ⟨gb186, 3, none⟩ = some (.string (⟨#[]⟩ : ByteArray)) := (blk_cell BK186.out 3).trans rfl
     have hfs68 := blk_frozen BK186.out 3
     have hns68_0 := NB183_186.out
     have hns68_1 := NB184_186.out
     have hns68_2 := NB185_186.out
     have hns68_4 := NB191_186.out
     have hms68_0 := NB186_183.out
     have hms68_1 := NB186_184.out
     have hms68_2 := NB186_185.out
     have hms68_4 := NB186_191.out
     refine skip_ (w1 := ?_) (by rfl) rfl ?_ ?_
     rotate_left
     ·
      go_simp
      rfl
     refine hK.out _ _ ⟨((cell_far (p := ⟨gb186, _, none⟩) NB191_186.out _).trans (((cell_far (p := ⟨gb186, _, none⟩) NB191_186.out _).trans (((cell_far (p := ⟨gb186, _, none⟩) NB191_186.out _).trans (((cell_far (p := ⟨gb186, _, none⟩) NB191_186.out _).trans (hHeld.1)))))))), ((cell_far (p := ⟨gb186, _, none⟩) NB191_186.out _).trans (((cell_far (p := ⟨gb186, _, none⟩) NB191_186.out _).trans (((cell_far (p := ⟨gb186, _, none⟩) NB191_186.out _).trans (((cell_far (p := ⟨gb186, _, none⟩) NB191_186.out _).trans (hHeld.2.1)))))))), ((cell_far (p := ⟨gb186, _, none⟩) NB183_186.out _).trans (((cell_far (p := ⟨gb186, _, none⟩) NB183_186.out _).trans (((cell_far (p := ⟨gb186, _, none⟩) NB183_186.out _).trans (((cell_far (p := ⟨gb186, _, none⟩) NB183_186.out _).trans (hHeld.2.2.1)))))))), ((cell_far (p := ⟨gb186, _, none⟩) NB183_186.out _).trans (((cell_far (p := ⟨gb186, _, none⟩) NB183_186.out _).trans (((cell_far (p := ⟨gb186, _, none⟩) NB183_186.out _).trans (((cell_far (p := ⟨gb186, _, none⟩) NB183_186.out _).trans (hHeld.2.2.2.1)))))))), ((cell_far (p := ⟨gb186, _, none⟩) zq268 _).trans (((cell_far (p := ⟨gb186, _, none⟩) zq268 _).trans (((cell_far (p := ⟨gb186, _, none⟩) zq268 _).trans (((cell_far (p := ⟨gb186, _, none⟩) zq268 _).trans (hHeld.2.2.2.2.1)))))))), ((cell_far (p := ⟨gb186, _, none⟩) zq269 _).trans (((cell_far (p := ⟨gb186, _, none⟩) zq269 _).trans (((cell_far (p := ⟨gb186, _, none⟩) zq269 _).trans (((cell_far (p := ⟨gb186, _, none⟩) zq269 _).trans (hHeld.2.2.2.2.2.1)))))))), ((cell_far (p := ⟨gb186, _, none⟩) zq270 _).trans (((cell_far (p := ⟨gb186, _, none⟩) zq270 _).trans (((cell_far (p := ⟨gb186, _, none⟩) zq270 _).trans (((cell_far (p := ⟨gb186, _, none⟩) zq270 _).trans (hHeld.2.2.2.2.2.2.1)))))))), ((cell_far (p := ⟨gb186, _, none⟩) zq271 _).trans (((cell_far (p := ⟨gb186, _, none⟩) zq271 _).trans (((cell_far (p := ⟨gb186, _, none⟩) zq271 _).trans (((cell_far (p := ⟨gb186, _, none⟩) zq271 _).trans (hHeld.2.2.2.2.2.2.2))))))))⟩ (fun hHeld => ?_)
     clear hK K
     refine pV 8 8 9 511 ?_
     refine done_ (done_of HT_.out (by kernel_rfl)) ?_
     try go_wp2
     refine bodyPost_ret (results_list (rs := [.cell 6 37, .cell 7 39, .tmp 8]) rfl (by simp) (.cell gb185 37 #[.int .i64 t187, .slice Ao54 t188.length co54] (0, 0) _ rfl zq178 Try.underlying37 rfl (by kernel_rfl) (.cell gb186 39 #[.int .i64 ((rd_T39 l0_1 t193).f0), .int .i64 ((rd_T39 l0_1 t193).f1), .int .i64 ((rd_T39 l0_1 t193).f2), .string ((rd_T39 l0_1 t193).f3)] (0, 0) _ rfl zq184 Try.underlying39 rfl (by kernel_rfl) (.tmp .nil)))) rfl ?_
     exact ⟨_, zq3, by (with_reducible repeat (first | apply Kd.R_alloc | apply Kd.R_drewN | apply Kd.R_drew)); exact Kd.R_mono (Kd.R_far (p := ⟨gb186, 3, none⟩) (Kd.R_far (p := ⟨gb186, 2, none⟩) (Kd.R_far (p := ⟨gb186, 1, none⟩) (Kd.R_far (p := ⟨gb186, 0, none⟩) (Kd.R_far (p := ⟨gb185, 1, none⟩) (Kd.R_far (p := ⟨gb185, 0, none⟩) (Kd.R_mono (Kd.R_types HO190.out BK185.out (by decide)) (fun k_ hk => (⟨hk, hk.1.2⟩ : _ ∧ k_ ≠ gb186))) (fun _ hk => hk.1.2) (.int .i64 t187)) (fun _ hk => hk.1.2) (.slice Ao54 t188.length co54)) (fun _ hk => hk.2) (.int .i64 ((rd_T39 l0_1 t193).f0))) (fun _ hk => hk.2) (.int .i64 ((rd_T39 l0_1 t193).f1))) (fun _ hk => hk.2) (.int .i64 ((rd_T39 l0_1 t193).f2))) (fun _ hk => hk.2) (.string ((rd_T39 l0_1 t193).f3))) (fun _ hk => trivial), zq171⟩
    rw [if_neg c38] at H
    exact absurd H (by simp)
   rw [if_neg c37] at H
   exact absurd H (by simp)
  replace c36 := Bool.eq_false_iff.mpr c36
  subst c36
  have H1 : ((impl_Packet_45.f t188 t193 (wrap64 (t193 + 1))).bind fun t195 => (if 0 ≤ t193 then (if t193 < (l0_1.length : Int) then (some (t187, t195, (rd_T39 l0_1 t193).f0, (rd_T39 l0_1 t193).f1, (rd_T39 l0_1 t193).f2, (rd_T39 l0_1 t193).f3, true)) else (none)) else (none))) = some (r1, r2, r3, r4, r5, r6, r7) := by rw [if_neg (show ¬ (false = true) by decide)] at H; exact H
  clear H
  have H := H1
  clear H1
  replace H := Option.bind_eq_some_iff.mp H
  obtain ⟨t195, A690, H⟩ := H
  replace H : (if 0 ≤ t193 then (if t193 < (l0_1.length : Int) then (some (t187, t195, (rd_T39 l0_1 t193).f0, (rd_T39 l0_1 t193).f1, (rd_T39 l0_1 t193).f2, (rd_T39 l0_1 t193).f3, true)) else (none)) else (none)) = some (r1, r2, r3, r4, r5, r6, r7) := H
  have A69 := Aside0.mk A690
  clear A690
  by_cases c70 : 0 ≤ t193
  ·
   rw [if_pos c70] at H
   have c70b0 := decide_eq_true c70
   clear c70
   by_cases c71 : t193 < (l0_1.length : Int)
   ·
    rw [if_pos c71] at H
    have c71b0 := decide_eq_true c71
    clear c71
    simp only [Option.some.injEq, Prod.mk.injEq] at H
    obtain ⟨rfl, rfl, rfl, rfl, rfl, rfl, rfl⟩ := H
    go_enter Try.func20, Try.ntmps20
    try go_wp2_with (first | ((with_reducible refine gate_dst (N := 3) rfl ?_); refine box_event ?hg (N := 3) ?hd (cs := #[.int .i64 a0_0, .slice A0_1 l0_1.length c0_1]) (t := 37) ?hr ?_; (case hd => rfl); (case hg => rfl); (case hr => exact zq1); intro gb183 hg w72 hbox hb; have BK183 := Aside0.mk hbox; have GW183 := Aside0.mk (zq205 : w.heap.size ≤ gb183); have GE183 := Aside0.mk (zq205 : w.heap.size ≤ gb183); replace HB := sB zq2 hb; clear hb hbox hg) | ((with_reducible refine gate_dst (N := 4) rfl ?_); refine box_event ?hg (N := 4) ?hd (cs := #[.int .i64 a1]) (t := 2) ?hr ?_; (case hd => rfl); (case hg => rfl); (case hr => exact zq1); intro gb184 hg w73 hbox hb; have BK184 := Aside0.mk hbox; have GW184 := Aside0.mk (zq251 : w.heap.size ≤ gb184); have GE184 := Aside0.mk (zq251 : w.heap.size ≤ gb184); replace HB := sB zq163 hb; have NB183_184 := Aside0.mk (zq252 : gb183 ≠ gb184); have NB184_183 := Aside0.mk (zq253 : gb184 ≠ gb183); replace BK183 := bF BK183 zq162 hb; clear hb hbox hg) | ((with_reducible refine gate_dst (N := 6) rfl ?_); refine box_event ?hg (N := 6) ?hd (cs := #[.int .i64 0, .slice none 0 0]) (t := 37) ?hr ?_; (case hd => rfl); (case hg => rfl); (case hr => exact zq1); intro gb185 hg w74 hbox hb; have BK185 := Aside0.mk hbox; have GW185 := Aside0.mk (zq254 : w.heap.size ≤ gb185); have GE185 := Aside0.mk (zq254 : w.heap.size ≤ gb185); replace HB := sB zq165 hb; have NB183_185 := Aside0.mk (zq252 : gb183 ≠ gb185); have NB185_183 := Aside0.mk (zq253 : gb185 ≠ gb183); replace BK183 := bF BK183 zq162 hb; have NB184_185 := Aside0.mk (zq255 : gb184 ≠ gb185); have NB185_184 := Aside0.mk (zq256 : gb185 ≠ gb184); replace BK184 := bF BK184 zq164 hb; clear hb hbox hg) | ((with_reducible refine gate_dst (N := 7) rfl ?_); refine box_event ?hg (N := 7) ?hd (cs := #[.int .i64 0, .int .i64 0, .int .i64 0, .string (⟨#[]⟩ : ByteArray)]) (t := 39) ?hr ?_; (case hd => rfl); (case hg => rfl); (case hr => exact zq1); intro gb186 hg w75 hbox hb; have BK186 := Aside0.mk hbox; have GW186 := Aside0.mk (zq257 : w.heap.size ≤ gb186); have GE186 := Aside0.mk (zq257 : w.heap.size ≤ gb186); replace HB := sB zq167 hb; have NB183_186 := Aside0.mk (zq252 : gb183 ≠ gb186); have NB186_183 := Aside0.mk (zq253 : gb186 ≠ gb183); replace BK183 := bF BK183 zq162 hb; have NB184_186 := Aside0.mk (zq255 : gb184 ≠ gb186); have NB186_184 := Aside0.mk (zq256 : gb186 ≠ gb184); replace BK184 := bF BK184 zq164 hb; have NB185_186 := Aside0.mk (zq258 : gb185 ≠ gb186); have NB186_185 := Aside0.mk (zq259 : gb186 ≠ gb185); replace BK185 := bF BK185 zq166 hb; clear hb hbox hg; have hnb76 := NB183_184.out; have hnc76 := NB184_183.out; have hnb77 := NB183_185.out; have hnc77 := NB185_183.out; have hnb78 := NB183_186.out; have hnc78 := NB186_183.out; obtain ⟨hcz79_0, hcz79_1, hfz79_0, hfz79_1⟩ := c2 (w := w75) BK183) | ((with_reducible refine gC 41 rfl ?_); refine gL 12 Try.func41 #[.agg #[.int .i64 a0_0, .slice A0_1 l0_1.length c0_1]] ?_; (with_reducible refine (impl_copyNet.calls a0_0 _ _ l0_1 t187 t188 _ ?_ ?_ A4.out).mono ?_); exact zq9; exact zq10; rintro e w80 ⟨v189, rfl, ho0, hb⟩; refine ⟨_, rfl, ?_⟩; have HO190 := Aside0.mk (Kd.R_lower (Kd.R_newB ho0 (g := gb186) (o := .cells #[.int .i64 0, .int .i64 0, .int .i64 0, .string (⟨#[]⟩ : ByteArray)] 39 (0, 0)) zq168) (below_size zq169)); replace BK183 := bF BK183 zq162 hb; replace BK184 := bF BK184 zq164 hb; replace BK185 := bF BK185 zq166 hb; replace BK186 := bF BK186 zq168 hb; replace HB := sB zq169 hb; clear hb; (try clear ho0)) | ((with_reducible refine gate_dst (N := 9) rfl ?_); refine box_event ?hg (N := 9) ?hd (cs := #[.int .i64 0, .slice none 0 0]) (t := 37) ?hr ?_; (case hd => rfl); (case hg => rfl); (case hr => exact zq1); intro gb191 hg w81 hbox hb; replace HO190 := rB zq170 hb; have BK191 := Aside0.mk hbox; have GW191 := Aside0.mk (zq260 : w.heap.size ≤ gb191); have GE191 := Aside0.mk (zq260 : w.heap.size ≤ gb191); replace HB := sB zq169 hb; have NB183_191 := Aside0.mk (zq252 : gb183 ≠ gb191); have NB191_183 := Aside0.mk (zq253 : gb191 ≠ gb183); replace BK183 := bF BK183 zq162 hb; have NB184_191 := Aside0.mk (zq255 : gb184 ≠ gb191); have NB191_184 := Aside0.mk (zq256 : gb191 ≠ gb184); replace BK184 := bF BK184 zq164 hb; have NB185_191 := Aside0.mk (zq258 : gb185 ≠ gb191); have NB191_185 := Aside0.mk (zq259 : gb191 ≠ gb185); replace BK185 := bF BK185 zq166 hb; have NB186_191 := Aside0.mk (zq261 : gb186 ≠ gb191); have NB191_186 := Aside0.mk (zq262 : gb191 ≠ gb186); replace BK186 := bF BK186 zq168 hb; clear hb hbox hg; have hnb82 := NB191_183.out; have hnc82 := NB183_191.out; have hnb83 := NB191_184.out; have hnc83 := NB184_191.out; have hnb84 := NB191_185.out; have hnc84 := NB185_191.out; have hnb85 := NB191_186.out; have hnc85 := NB186_191.out; obtain ⟨hcz86_0, hcz86_1, hfz86_0, hfz86_1⟩ := c2 (w := w81) BK191; obtain ⟨Ao87, co87, eo87⟩ := Kd.R_slice HO190.out; subst eo87; obtain ⟨hcz88_0, hcz88_1, hfz88_0, hfz88_1⟩ := c2 (w := w81) BK183) | ((with_reducible refine gC 42 rfl ?_); refine gL 14 Try.func42 #[.agg #[.int .i64 a0_0, .slice A0_1 l0_1.length c0_1]] ?_; (with_reducible refine (impl_isNet.calls k a0_0 _ _ l0_1 true _ ?_ ?_ A5.out).mono ?_); exact zq263; exact zq10; rintro e w89 ⟨rfl, hb⟩; refine ⟨_, rfl, ?_⟩; replace HO190 := rB (by (with_reducible repeat (first | apply Kd.R_alloc | apply Kd.R_drewN | apply Kd.R_drew)); exact (Kd.R_mono (Kd.R_far (p := ⟨gb191, 1, none⟩) (Kd.R_far (p := ⟨gb191, 0, none⟩) (Kd.R_types HO190.out BK191.out (by decide)) (fun _ hk => hk.2) (.int .i64 t187)) (fun _ hk => hk.2) (.slice Ao87 t188.length co87)) (fun _ h_ => h_.1))) hb; replace BK183 := bF BK183 zq172 hb; replace BK184 := bF BK184 zq173 hb; replace BK185 := bF BK185 zq174 hb; replace BK186 := bF BK186 zq175 hb; replace BK191 := bB (g := gb191) (o := .cells #[.int .i64 t187, .slice Ao87 t188.length co87] 37 (0, 0)) zq176 hb; replace HB := sB zq171 hb; clear hb; obtain ⟨hcz90_0, hcz90_1, hfz90_0, hfz90_1⟩ := c2 (w := w89) BK183; have hnb91 := NB184_185.out; have hnc91 := NB185_184.out; have hnb92 := NB184_186.out; have hnc92 := NB186_184.out; obtain ⟨hcz93_0, hfz93_0⟩ := c1 (w := w89) BK184) | ((with_reducible refine gC 43 rfl ?_); refine gL 21 Try.func43 #[.slice A0_1 l0_1.length c0_1, .func (.func 44) #[] #[.pointer (some ⟨gb184, 0, none⟩)]] ?_; (with_reducible refine (impl_Packet_43.calls _ _ l0_1 a1 t193 _ ?_ ?_ A7.out gb184 ((blk_cell (t := 2) (cs := #[.int .i64 a1]) zq164 0).trans rfl)).mono ?_); exact zq9; exact zq10; rintro e w94 ⟨rfl, hb⟩; refine ⟨_, rfl, ?_⟩; replace HO190 := rB zq170 hb; replace BK183 := bF BK183 zq162 hb; replace BK184 := bF BK184 zq164 hb; replace BK185 := bF BK185 zq166 hb; replace BK186 := bF BK186 zq168 hb; replace BK191 := bF BK191 zq177 hb; replace HB := sB zq171 hb; clear hb; obtain ⟨hcz95_0, hcz95_1, hfz95_0, hfz95_1⟩ := c2 (w := w94) BK191) | ((with_reducible refine gC 45 rfl ?_); refine gL 33 Try.func45 #[.slice Ao87 t188.length co87, .int .i64 t193, .int .i64 (wrap64 (t193 + 1))] ?_; (with_reducible refine (impl_Packet_45.calls (fun k_ => some k_ = (.slice Ao87 t188.length co87 : Value).ownBlock) (.slice Ao87 t188.length co87) t188 t193 (wrap64 (t193 + 1)) t195 w _ ?_ ?_ A69.out).mono ?_); exact zq171; exact Kd.R_tight rfl HO190.out; rintro e w96 ⟨v196, rfl, ho0, hb, hkp⟩; refine ⟨_, rfl, ?_⟩; have n0_ := Aside0.mk (blk_kept (by first | with_reducible exact BK183.out | exact blk_drewN BK183.out _ | exact blk_drewN (blk_drewN BK183.out _) _ | ((with_reducible repeat (first | refine blk_drewN ?_ _ | refine blk_drew ?_ | refine blk_alloc ?_ _)); exact BK183.out)) hkp (fun hs_ => (fun e_ => (Kd.R_ne HO190.out BK183.out (by decide)) e_) hs_)); have n1_ := Aside0.mk (blk_kept (by first | with_reducible exact BK184.out | exact blk_drewN BK184.out _ | exact blk_drewN (blk_drewN BK184.out _) _ | ((with_reducible repeat (first | refine blk_drewN ?_ _ | refine blk_drew ?_ | refine blk_alloc ?_ _)); exact BK184.out)) hkp (fun hs_ => (fun e_ => (Kd.R_ne HO190.out BK184.out (by decide)) e_) hs_)); have n2_ := Aside0.mk (blk_kept (by first | with_reducible exact BK185.out | exact blk_drewN BK185.out _ | exact blk_drewN (blk_drewN BK185.out _) _ | ((with_reducible repeat (first | refine blk_drewN ?_ _ | refine blk_drew ?_ | refine blk_alloc ?_ _)); exact BK185.out)) hkp (fun hs_ => (fun e_ => (Kd.R_ne HO190.out BK185.out (by decide)) e_) hs_)); have n3_ := Aside0.mk (blk_kept (by first | with_reducible exact BK186.out | exact blk_drewN BK186.out _ | exact blk_drewN (blk_drewN BK186.out _) _ | ((with_reducible repeat (first | refine blk_drewN ?_ _ | refine blk_drew ?_ | refine blk_alloc ?_ _)); exact BK186.out)) hkp (fun hs_ => (fun e_ => (Kd.R_away HO190.out (fun _ hk => hk.2)) e_) hs_)); have n4_ := Aside0.mk (blk_kept (by first | with_reducible exact BK191.out | exact blk_drewN BK191.out _ | exact blk_drewN (blk_drewN BK191.out _) _ | ((with_reducible repeat (first | refine blk_drewN ?_ _ | refine blk_drew ?_ | refine blk_alloc ?_ _)); exact BK191.out)) hkp (fun hs_ => (fun e_ => (Kd.R_ne HO190.out BK191.out (by decide)) e_) hs_)); have n5_ := Aside0.mk (Kd.R_mono (ok' := fun k_ => k_ ≠ gb186) ho0 (fun k_ hk_ => Or.elim hk_ (fun hs_ => fun e_ => (Kd.R_away HO190.out (fun _ hk => hk.2)) (by rw [← e_]; exact hs_)) (fun hn_ => (Kd.freshB (g := gb186) (o := .cells #[.int .i64 0, .int .i64 0, .int .i64 0, .string (⟨#[]⟩ : ByteArray)] 39 (0, 0)) zq168 k_ hn_)))); have n6_ := Aside0.mk (hb); clear BK183; clear BK184; clear BK185; clear BK186; clear BK191; clear HB; clear HO190; have BK183 := n0_; have BK184 := n1_; have BK185 := n2_; have BK186 := n3_; have BK191 := n4_; have HO197 := n5_; have HB := n6_; clear n0_ n1_ n2_ n3_ n4_ n5_ n6_; clear hb; (try clear hkp); (try clear ho0); obtain ⟨Ao97, co97, eo97⟩ := Kd.R_slice HO197.out; subst eo97; obtain ⟨hcz98_0, hcz98_1, hfz98_0, hfz98_1⟩ := c2 (w := w96) BK191))
    have n0_ : Aside0 (Kd.R k39 39 (w96.setCell ⟨gb191, 1, none⟩ (.slice Ao97 t195.length co97)) w.heap.size (fun k_ => k_ ≠ gb186) (.slice Ao97 t195.length co97) t195) := ⟨by (with_reducible repeat (first | apply Kd.R_alloc | apply Kd.R_drewN | apply Kd.R_drew)); exact Kd.R_mono (Kd.R_far (p := ⟨gb191, 1, none⟩) (Kd.R_types HO197.out BK191.out (by decide)) (fun _ hk => hk.2) (.slice Ao97 t195.length co97)) (fun _ hk => hk.1)⟩
    have n1_ : Aside0 ((w96.setCell ⟨gb191, 1, none⟩ (.slice Ao97 t195.length co97)).heap[gb183]? = some (.cells #[.int .i64 a0_0, .slice A0_1 l0_1.length c0_1] 37 (0, 0))) := ⟨by (with_reducible repeat (first | refine blk_drewN ?_ _ | refine blk_drew ?_ | refine blk_alloc ?_ _)); refine blk_far ?_ NB183_191.out _; (with_reducible repeat (first | refine blk_drewN ?_ _ | refine blk_drew ?_ | refine blk_alloc ?_ _)); exact BK183.out⟩
    have n2_ : Aside0 ((w96.setCell ⟨gb191, 1, none⟩ (.slice Ao97 t195.length co97)).heap[gb184]? = some (.cells #[.int .i64 a1] 2 (0, 0))) := ⟨by (with_reducible repeat (first | refine blk_drewN ?_ _ | refine blk_drew ?_ | refine blk_alloc ?_ _)); refine blk_far ?_ NB184_191.out _; (with_reducible repeat (first | refine blk_drewN ?_ _ | refine blk_drew ?_ | refine blk_alloc ?_ _)); exact BK184.out⟩
    have n3_ : Aside0 ((w96.setCell ⟨gb191, 1, none⟩ (.slice Ao97 t195.length co97)).heap[gb185]? = some (.cells #[.int .i64 0, .slice none 0 0] 37 (0, 0))) := ⟨by (with_reducible repeat (first | refine blk_drewN ?_ _ | refine blk_drew ?_ | refine blk_alloc ?_ _)); refine blk_far ?_ NB185_191.out _; (with_reducible repeat (first | refine blk_drewN ?_ _ | refine blk_drew ?_ | refine blk_alloc ?_ _)); exact BK185.out⟩
    have n4_ : Aside0 ((w96.setCell ⟨gb191, 1, none⟩ (.slice Ao97 t195.length co97)).heap[gb186]? = some (.cells #[.int .i64 0, .int .i64 0, .int .i64 0, .string (⟨#[]⟩ : ByteArray)] 39 (0, 0))) := ⟨by (with_reducible repeat (first | refine blk_drewN ?_ _ | refine blk_drew ?_ | refine blk_alloc ?_ _)); refine blk_far ?_ NB186_191.out _; (with_reducible repeat (first | refine blk_drewN ?_ _ | refine blk_drew ?_ | refine blk_alloc ?_ _)); exact BK186.out⟩
    have n5_ : Aside0 ((w96.setCell ⟨gb191, 1, none⟩ (.slice Ao97 t195.length co97)).heap[gb191]? = some (.cells #[.int .i64 t187, .slice Ao97 t195.length co97] 37 (0, 0))) := ⟨by (with_reducible repeat (first | refine blk_drewN ?_ _ | refine blk_drew ?_ | refine blk_alloc ?_ _)); refine blk_put (cs := #[.int .i64 t187, .slice Ao87 t188.length co87]) ?_ 1 _ rfl; (with_reducible repeat (first | refine blk_drewN ?_ _ | refine blk_drew ?_ | refine blk_alloc ?_ _)); exact BK191.out⟩
    have n6_ : Aside0 (Below w.heap.size w (w96.setCell ⟨gb191, 1, none⟩ (.slice Ao97 t195.length co97))) := ⟨zq171⟩
    (try clear HO197)
    (try clear BK183)
    (try clear BK184)
    (try clear BK185)
    (try clear BK186)
    (try clear BK191)
    (try clear HB)
    generalize (w96.setCell ⟨gb191, 1, none⟩ (.slice Ao97 t195.length co97)) = w99 at n0_ n1_ n2_ n3_ n4_ n5_ n6_ ⊢
    have HO197 := n0_
    have BK183 := n1_
    have BK184 := n2_
    have BK185 := n3_
    have BK186 := n4_
    have BK191 := n5_
    have HB := n6_
    clear n0_ n1_ n2_ n3_ n4_ n5_ n6_
    replace HO197 := Aside0.mk (Kd.R_drew HO197.out)
    replace BK183 := Aside0.mk (blk_drew BK183.out)
    replace BK184 := Aside0.mk (blk_drew BK184.out)
    replace BK185 := Aside0.mk (blk_drew BK185.out)
    replace BK186 := Aside0.mk (blk_drew BK186.out)
    replace BK191 := Aside0.mk (blk_drew BK191.out)
    replace HB := Aside0.mk (below_drew1 HB.out)
    have p198 : 0 ≤ (t193 : Int) := of_decide_eq_true zq6
    have q198 : t193 < (l0_1.length : Int) := of_decide_eq_true zq6
    obtain ⟨ad198, e198, hx198_0, hx198_1, hx198_2, hx198_3⟩ := at_T39 HR0_1.out t193 p198 q198
    have hw198_3 := hx198_3
    have hw198_2 := hx198_2
    have hw198_1 := hx198_1
    have hw198_0 := hx198_0
    cases e198
    replace hx198_0 := (HB.out.cell (World.block_lt_of_cell? w _ hx198_0)).trans hx198_0
    replace hx198_1 := (HB.out.cell (World.block_lt_of_cell? w _ hx198_1)).trans hx198_1
    replace hx198_2 := (HB.out.cell (World.block_lt_of_cell? w _ hx198_2)).trans hx198_2
    replace hx198_3 := (HB.out.cell (World.block_lt_of_cell? w _ hx198_3)).trans hx198_3
    replace p198 := eq_true p198
    replace q198 := eq_true q198
    refine start_ (n := 9) (S := fun w' => w'.cell? ⟨gb191, 0, none⟩ = some (.int .i64 t187) ∧ w'.cell? ⟨gb191, 1, none⟩ = some (.slice Ao97 t195.length co97) ∧ w'.cell? ⟨gb183, 0, none⟩ = some (.int .i64 a0_0) ∧ w'.cell? ⟨gb183, 1, none⟩ = some (.slice (some ad198) l0_1.length c0_1) ∧ w'.cell? (ad198.add ((t193).toNat * 4)) = some (.int .i64 ((rd_T39 l0_1 t193).f0)) ∧ w'.cell? ⟨(ad198.add ((t193).toNat * 4)).block, (ad198.add ((t193).toNat * 4)).off + 1, none⟩ = some (.int .i64 ((rd_T39 l0_1 t193).f1)) ∧ w'.cell? ⟨(ad198.add ((t193).toNat * 4)).block, (ad198.add ((t193).toNat * 4)).off + 2, none⟩ = some (.int .i64 ((rd_T39 l0_1 t193).f2)) ∧ w'.cell? ⟨(ad198.add ((t193).toNat * 4)).block, (ad198.add ((t193).toNat * 4)).off + 3, none⟩ = some (.string ((rd_T39 l0_1 t193).f3))) (ds := []) (bA 9 0) (by kernel_rfl) rfl rfl ⟨(blk_cell BK191.out 0).trans rfl, (blk_cell BK191.out 1).trans rfl, (blk_cell BK183.out 0).trans rfl, (blk_cell BK183.out 1).trans rfl, ((HB.out.cell (World.block_lt_of_cell? w _ hw198_0)).trans hw198_0), ((HB.out.cell (World.block_lt_of_cell? w _ hw198_1)).trans hw198_1), ((HB.out.cell (World.block_lt_of_cell? w _ hw198_2)).trans hw198_2), ((HB.out.cell (World.block_lt_of_cell? w _ hw198_3)).trans hw198_3)⟩ (fun hHeld => ?_); refine with_tabW impl_Take.tab9 impl_Take.bits9 (fun HT_ HW_ => ?_)
    generalize w99.drew = w100 at HO197 BK183 BK184 BK185 BK186 BK191 HB hx198_0 hx198_1 hx198_2 hx198_3 hHeld ⊢
    refine pV 1 36 9 2 ?_
    refine pV 3 38 9 10 ?_
    refine tV 0 35 9 11 rfl zq294 ?_
    refine tV 2 37 9 15 rfl zq294 ?_
    refine pV 4 39 9 31 ?_
    refine tV 5 40 9 63 rfl zq294 ?_
    refine one_ (i := 6) (N := none) (bA 9 127) rfl rfl (one_of HT_.out (by kernel_rfl)) (by decide) (fun K hK => ?_)
    have hs101 : w100.cell? ⟨gb185, 0, none⟩ = some (.int .i64 0) := (blk_cell BK185.out 0).trans rfl
    have hfs101 := blk_frozen BK185.out 0
    have hns101_0 := NB183_185.out
    have hns101_1 := NB184_185.out
    have hns101_3 := NB186_185.out
    have hns101_4 := NB191_185.out
    have hms101_0 := NB185_183.out
    have hms101_1 := NB185_184.out
    have hms101_3 := NB185_186.out
    have hms101_4 := NB185_191.out
    have hs102 : w100.cell? ⟨gb185, 1, none⟩ = some (.slice none 0 0) := (blk_cell BK185.out 1).trans rfl
    have hfs102 := blk_frozen BK185.out 1
    have hns102_0 := NB183_185.out
    have hns102_1 := NB184_185.out
    have hns102_3 := NB186_185.out
    have hns102_4 := NB191_185.out
    have hms102_0 := NB185_183.out
    have hms102_1 := NB185_184.out
    have hms102_3 := NB185_186.out
    have hms102_4 := NB185_191.out
    refine skip_ (w1 := ?_) (by rfl) rfl ?_ ?_
    rotate_left
    ·
     go_simp
     rfl
    refine hK.out _ _ ⟨((cell_far (p := ⟨gb185, _, none⟩) NB191_185.out _).trans (((cell_far (p := ⟨gb185, _, none⟩) NB191_185.out _).trans (hHeld.1)))), ((cell_far (p := ⟨gb185, _, none⟩) NB191_185.out _).trans (((cell_far (p := ⟨gb185, _, none⟩) NB191_185.out _).trans (hHeld.2.1)))), ((cell_far (p := ⟨gb185, _, none⟩) NB183_185.out _).trans (((cell_far (p := ⟨gb185, _, none⟩) NB183_185.out _).trans (hHeld.2.2.1)))), ((cell_far (p := ⟨gb185, _, none⟩) NB183_185.out _).trans (((cell_far (p := ⟨gb185, _, none⟩) NB183_185.out _).trans (hHeld.2.2.2.1)))), ((cell_far (p := ⟨gb185, _, none⟩) zq272 _).trans (((cell_far (p := ⟨gb185, _, none⟩) zq272 _).trans (hHeld.2.2.2.2.1)))), ((cell_far (p := ⟨gb185, _, none⟩) zq273 _).trans (((cell_far (p := ⟨gb185, _, none⟩) zq273 _).trans (hHeld.2.2.2.2.2.1)))), ((cell_far (p := ⟨gb185, _, none⟩) zq274 _).trans (((cell_far (p := ⟨gb185, _, none⟩) zq274 _).trans (hHeld.2.2.2.2.2.2.1)))), ((cell_far (p := ⟨gb185, _, none⟩) zq275 _).trans (((cell_far (p := ⟨gb185, _, none⟩) zq275 _).trans (hHeld.2.2.2.2.2.2.2))))⟩ (fun hHeld => ?_)
    clear hK K
    refine one_ (i := 7) (N := none) (bA 9 255) rfl rfl (one_of HT_.out (by kernel_rfl)) (by decide) (fun K hK => ?_)
    have hs103 : w100.cell? ⟨gb186, 0, none⟩ = some (.int .i64 0) := (blk_cell BK186.out 0).trans rfl
    have hfs103 := blk_frozen BK186.out 0
    have hns103_0 := NB183_186.out
    have hns103_1 := NB184_186.out
    have hns103_2 := NB185_186.out
    have hns103_4 := NB191_186.out
    have hms103_0 := NB186_183.out
    have hms103_1 := NB186_184.out
    have hms103_2 := NB186_185.out
    have hms103_4 := NB186_191.out
    have hs104 : w100.cell? ⟨gb186, 1, none⟩ = some (.int .i64 0) := (blk_cell BK186.out 1).trans rfl
    have hfs104 := blk_frozen BK186.out 1
    have hns104_0 := NB183_186.out
    have hns104_1 := NB184_186.out
    have hns104_2 := NB185_186.out
    have hns104_4 := NB191_186.out
    have hms104_0 := NB186_183.out
    have hms104_1 := NB186_184.out
    have hms104_2 := NB186_185.out
    have hms104_4 := NB186_191.out
    have hs105 : w100.cell? ⟨gb186, 2, none⟩ = some (.int .i64 0) := (blk_cell BK186.out 2).trans rfl
    have hfs105 := blk_frozen BK186.out 2
    have hns105_0 := NB183_186.out
    have hns105_1 := NB184_186.out
    have hns105_2 := NB185_186.out
    have hns105_4 := NB191_186.out
    have hms105_0 := NB186_183.out
    have hms105_1 := NB186_184.out
    have hms105_2 := NB186_185.out
    have hms105_4 := NB186_191.out
    have hs106 : w100.cell? ⟨gb186, 3, none⟩ = some (.string (⟨#[]⟩ : ByteArray)) := (blk_cell BK186.out 3).trans rfl
    have hfs106 := blk_frozen BK186.out 3
    have hns106_0 := NB183_186.out
    have hns106_1 := NB184_186.out
    have hns106_2 := NB185_186.out
    have hns106_4 := NB191_186.out
    have hms106_0 := NB186_183.out
    have hms106_1 := NB186_184.out
    have hms106_2 := NB186_185.out
    have hms106_4 := NB186_191.out
    refine skip_ (w1 := ?_) (by rfl) rfl ?_ ?_
    rotate_left
    ·
     go_simp
     rfl
    refine hK.out _ _ ⟨((cell_far (p := ⟨gb186, _, none⟩) NB191_186.out _).trans (((cell_far (p := ⟨gb186, _, none⟩) NB191_186.out _).trans (((cell_far (p := ⟨gb186, _, none⟩) NB191_186.out _).trans (((cell_far (p := ⟨gb186, _, none⟩) NB191_186.out _).trans (hHeld.1)))))))), ((cell_far (p := ⟨gb186, _, none⟩) NB191_186.out _).trans (((cell_far (p := ⟨gb186, _, none⟩) NB191_186.out _).trans (((cell_far (p := ⟨gb186, _, none⟩) NB191_186.out _).trans (((cell_far (p := ⟨gb186, _, none⟩) NB191_186.out _).trans (hHeld.2.1)))))))), ((cell_far (p := ⟨gb186, _, none⟩) NB183_186.out _).trans (((cell_far (p := ⟨gb186, _, none⟩) NB183_186.out _).trans (((cell_far (p := ⟨gb186, _, none⟩) NB183_186.out _).trans (((cell_far (p := ⟨gb186, _, none⟩) NB183_186.out _).trans (hHeld.2.2.1)))))))), ((cell_far (p := ⟨gb186, _, none⟩) NB183_186.out _).trans (((cell_far (p := ⟨gb186, _, none⟩) NB183_186.out _).trans (((cell_far (p := ⟨gb186, _, none⟩) NB183_186.out _).trans (((cell_far (p := ⟨gb186, _, none⟩) NB183_186.out _).trans (hHeld.2.2.2.1)))))))), ((cell_far (p := ⟨gb186, _, none⟩) zq276 _).trans (((cell_far (p := ⟨gb186, _, none⟩) zq276 _).trans (((cell_far (p := ⟨gb186, _, none⟩) zq276 _).trans (((cell_far (p := ⟨gb186, _, none⟩) zq276 _).trans (hHeld.2.2.2.2.1)))))))), ((cell_far (p := ⟨gb186, _, none⟩) zq277 _).trans (((cell_far (p := ⟨gb186, _, none⟩) zq277 _).trans (((cell_far (p := ⟨gb186, _, none⟩) zq277 _).trans (((cell_far (p := ⟨gb186, _, none⟩) zq277 _).trans (hHeld.2.2.2.2.2.1)))))))), ((cell_far (p := ⟨gb186, _, none⟩) zq278 _).trans (((cell_far (p := ⟨gb186, _, none⟩) zq278 _).trans (((cell_far (p := ⟨gb186, _, none⟩) zq278 _).trans (((cell_far (p := ⟨gb186, _, none⟩) zq278 _).trans (hHeld.2.2.2.2.2.2.1)))))))), ((cell_far (p := ⟨gb186, _, none⟩) zq279 _).trans (((cell_far (p := ⟨gb186, _, none⟩) zq279 _).trans (((cell_far (p := ⟨gb186, _, none⟩) zq279 _).trans (((cell_far (p := ⟨gb186, _, none⟩) zq279 _).trans (hHeld.2.2.2.2.2.2.2))))))))⟩ (fun hHeld => ?_)
    clear hK K
    refine pV 8 8 9 511 ?_
    refine done_ (done_of HT_.out (by kernel_rfl)) ?_
    try go_wp2
    refine bodyPost_ret (results_list (rs := [.cell 6 37, .cell 7 39, .tmp 8]) rfl (by simp) (.cell gb185 37 #[.int .i64 t187, .slice Ao97 t195.length co97] (0, 0) _ rfl zq178 Try.underlying37 rfl (by kernel_rfl) (.cell gb186 39 #[.int .i64 ((rd_T39 l0_1 t193).f0), .int .i64 ((rd_T39 l0_1 t193).f1), .int .i64 ((rd_T39 l0_1 t193).f2), .string ((rd_T39 l0_1 t193).f3)] (0, 0) _ rfl zq184 Try.underlying39 rfl (by kernel_rfl) (.tmp .nil)))) rfl ?_
    exact ⟨_, zq3, by (with_reducible repeat (first | apply Kd.R_alloc | apply Kd.R_drewN | apply Kd.R_drew)); exact Kd.R_mono (Kd.R_far (p := ⟨gb186, 3, none⟩) (Kd.R_far (p := ⟨gb186, 2, none⟩) (Kd.R_far (p := ⟨gb186, 1, none⟩) (Kd.R_far (p := ⟨gb186, 0, none⟩) (Kd.R_far (p := ⟨gb185, 1, none⟩) (Kd.R_far (p := ⟨gb185, 0, none⟩) (Kd.R_mono (Kd.R_types HO197.out BK185.out (by decide)) (fun k_ hk => (⟨hk, hk.1⟩ : _ ∧ k_ ≠ gb186))) (fun _ hk => hk.1.2) (.int .i64 t187)) (fun _ hk => hk.1.2) (.slice Ao97 t195.length co97)) (fun _ hk => hk.2) (.int .i64 ((rd_T39 l0_1 t193).f0))) (fun _ hk => hk.2) (.int .i64 ((rd_T39 l0_1 t193).f1))) (fun _ hk => hk.2) (.int .i64 ((rd_T39 l0_1 t193).f2))) (fun _ hk => hk.2) (.string ((rd_T39 l0_1 t193).f3))) (fun _ hk => trivial), zq171⟩
   rw [if_neg c71] at H
   exact absurd H (by simp)
  rw [if_neg c70] at H
  exact absurd H (by simp)
 replace c6 := Bool.eq_false_iff.mpr c6
 subst c6
 have H1 : (some (0, ([] : List (S39)), 0, 0, 0, (⟨#[]⟩ : ByteArray), false)) = some (r1, r2, r3, r4, r5, r6, r7) := by rw [if_neg (show ¬ (false = true) by decide)] at H; exact H
 clear H
 have H := H1
 clear H1
 simp only [Option.some.injEq, Prod.mk.injEq] at H
 obtain ⟨rfl, rfl, rfl, rfl, rfl, rfl, rfl⟩ := H
 go_enter Try.func20, Try.ntmps20
 go_wp2_with (first | ((with_reducible refine gate_dst (N := 3) rfl ?_); refine box_event ?hg (N := 3) ?hd (cs := #[.int .i64 a0_0, .slice A0_1 l0_1.length c0_1]) (t := 37) ?hr ?_; (case hd => rfl); (case hg => rfl); (case hr => exact zq1); intro gb183 hg w107 hbox hb; have BK183 := Aside0.mk hbox; have GW183 := Aside0.mk (zq205 : w.heap.size ≤ gb183); have GE183 := Aside0.mk (zq205 : w.heap.size ≤ gb183); replace HB := sB zq2 hb; clear hb hbox hg) | ((with_reducible refine gate_dst (N := 4) rfl ?_); refine box_event ?hg (N := 4) ?hd (cs := #[.int .i64 a1]) (t := 2) ?hr ?_; (case hd => rfl); (case hg => rfl); (case hr => exact zq1); intro gb184 hg w108 hbox hb; have BK184 := Aside0.mk hbox; have GW184 := Aside0.mk (zq251 : w.heap.size ≤ gb184); have GE184 := Aside0.mk (zq251 : w.heap.size ≤ gb184); replace HB := sB zq163 hb; have NB183_184 := Aside0.mk (zq252 : gb183 ≠ gb184); have NB184_183 := Aside0.mk (zq253 : gb184 ≠ gb183); replace BK183 := bF BK183 zq162 hb; clear hb hbox hg) | ((with_reducible refine gate_dst (N := 6) rfl ?_); refine box_event ?hg (N := 6) ?hd (cs := #[.int .i64 0, .slice none 0 0]) (t := 37) ?hr ?_; (case hd => rfl); (case hg => rfl); (case hr => exact zq1); intro gb185 hg w109 hbox hb; have BK185 := Aside0.mk hbox; have GW185 := Aside0.mk (zq254 : w.heap.size ≤ gb185); have GE185 := Aside0.mk (zq254 : w.heap.size ≤ gb185); replace HB := sB zq165 hb; have NB183_185 := Aside0.mk (zq252 : gb183 ≠ gb185); have NB185_183 := Aside0.mk (zq253 : gb185 ≠ gb183); replace BK183 := bF BK183 zq162 hb; have NB184_185 := Aside0.mk (zq255 : gb184 ≠ gb185); have NB185_184 := Aside0.mk (zq256 : gb185 ≠ gb184); replace BK184 := bF BK184 zq164 hb; clear hb hbox hg) | ((with_reducible refine gate_dst (N := 7) rfl ?_); refine box_event ?hg (N := 7) ?hd (cs := #[.int .i64 0, .int .i64 0, .int .i64 0, .string (⟨#[]⟩ : ByteArray)]) (t := 39) ?hr ?_; (case hd => rfl); (case hg => rfl); (case hr => exact zq1); intro gb186 hg w110 hbox hb; have BK186 := Aside0.mk hbox; have GW186 := Aside0.mk (zq257 : w.heap.size ≤ gb186); have GE186 := Aside0.mk (zq257 : w.heap.size ≤ gb186); replace HB := sB zq167 hb; have NB183_186 := Aside0.mk (zq252 : gb183 ≠ gb186); have NB186_183 := Aside0.mk (zq253 : gb186 ≠ gb183); replace BK183 := bF BK183 zq162 hb; have NB184_186 := Aside0.mk (zq255 : gb184 ≠ gb186); have NB186_184 := Aside0.mk (zq256 : gb186 ≠ gb184); replace BK184 := bF BK184 zq164 hb; have NB185_186 := Aside0.mk (zq258 : gb185 ≠ gb186); have NB186_185 := Aside0.mk (zq259 : gb186 ≠ gb185); replace BK185 := bF BK185 zq166 hb; clear hb hbox hg; have hnb111 := NB183_184.out; have hnc111 := NB184_183.out; have hnb112 := NB183_185.out; have hnc112 := NB185_183.out; have hnb113 := NB183_186.out; have hnc113 := NB186_183.out; obtain ⟨hcz114_0, hcz114_1, hfz114_0, hfz114_1⟩ := c2 (w := w110) BK183) | ((with_reducible refine gC 41 rfl ?_); refine gL 12 Try.func41 #[.agg #[.int .i64 a0_0, .slice A0_1 l0_1.length c0_1]] ?_; (with_reducible refine (impl_copyNet.calls a0_0 _ _ l0_1 t187 t188 _ ?_ ?_ A4.out).mono ?_); exact zq9; exact zq10; rintro e w115 ⟨v189, rfl, ho0, hb⟩; refine ⟨_, rfl, ?_⟩; have HO190 := Aside0.mk (Kd.R_lower (Kd.R_newB ho0 (g := gb186) (o := .cells #[.int .i64 0, .int .i64 0, .int .i64 0, .string (⟨#[]⟩ : ByteArray)] 39 (0, 0)) zq168) (below_size zq169)); replace BK183 := bF BK183 zq162 hb; replace BK184 := bF BK184 zq164 hb; replace BK185 := bF BK185 zq166 hb; replace BK186 := bF BK186 zq168 hb; replace HB := sB zq169 hb; clear hb; (try clear ho0)) | ((with_reducible refine gate_dst (N := 9) rfl ?_); refine box_event ?hg (N := 9) ?hd (cs := #[.int .i64 0, .slice none 0 0]) (t := 37) ?hr ?_; (case hd => rfl); (case hg => rfl); (case hr => exact zq1); intro gb191 hg w116 hbox hb; replace HO190 := rB zq170 hb; have BK191 := Aside0.mk hbox; have GW191 := Aside0.mk (zq260 : w.heap.size ≤ gb191); have GE191 := Aside0.mk (zq260 : w.heap.size ≤ gb191); replace HB := sB zq169 hb; have NB183_191 := Aside0.mk (zq252 : gb183 ≠ gb191); have NB191_183 := Aside0.mk (zq253 : gb191 ≠ gb183); replace BK183 := bF BK183 zq162 hb; have NB184_191 := Aside0.mk (zq255 : gb184 ≠ gb191); have NB191_184 := Aside0.mk (zq256 : gb191 ≠ gb184); replace BK184 := bF BK184 zq164 hb; have NB185_191 := Aside0.mk (zq258 : gb185 ≠ gb191); have NB191_185 := Aside0.mk (zq259 : gb191 ≠ gb185); replace BK185 := bF BK185 zq166 hb; have NB186_191 := Aside0.mk (zq261 : gb186 ≠ gb191); have NB191_186 := Aside0.mk (zq262 : gb191 ≠ gb186); replace BK186 := bF BK186 zq168 hb; clear hb hbox hg; have hnb117 := NB191_183.out; have hnc117 := NB183_191.out; have hnb118 := NB191_184.out; have hnc118 := NB184_191.out; have hnb119 := NB191_185.out; have hnc119 := NB185_191.out; have hnb120 := NB191_186.out; have hnc120 := NB186_191.out; obtain ⟨hcz121_0, hcz121_1, hfz121_0, hfz121_1⟩ := c2 (w := w116) BK191; obtain ⟨Ao122, co122, eo122⟩ := Kd.R_slice HO190.out; subst eo122; obtain ⟨hcz123_0, hcz123_1, hfz123_0, hfz123_1⟩ := c2 (w := w116) BK183) | ((with_reducible refine gC 42 rfl ?_); refine gL 14 Try.func42 #[.agg #[.int .i64 a0_0, .slice A0_1 l0_1.length c0_1]] ?_; (with_reducible refine (impl_isNet.calls k a0_0 _ _ l0_1 false _ ?_ ?_ A5.out).mono ?_); exact zq263; exact zq10; rintro e w124 ⟨rfl, hb⟩; refine ⟨_, rfl, ?_⟩; replace HO190 := rB (by (with_reducible repeat (first | apply Kd.R_alloc | apply Kd.R_drewN | apply Kd.R_drew)); exact (Kd.R_mono (Kd.R_far (p := ⟨gb191, 1, none⟩) (Kd.R_far (p := ⟨gb191, 0, none⟩) (Kd.R_types HO190.out BK191.out (by decide)) (fun _ hk => hk.2) (.int .i64 t187)) (fun _ hk => hk.2) (.slice Ao122 t188.length co122)) (fun _ h_ => h_.1))) hb; replace BK183 := bF BK183 zq172 hb; replace BK184 := bF BK184 zq173 hb; replace BK185 := bF BK185 zq174 hb; replace BK186 := bF BK186 zq175 hb; replace BK191 := bB (g := gb191) (o := .cells #[.int .i64 t187, .slice Ao122 t188.length co122] 37 (0, 0)) zq176 hb; replace HB := sB zq171 hb; clear hb; have hnb125 := NB185_184.out; have hnc125 := NB184_185.out; have hnb126 := NB185_186.out; have hnc126 := NB186_185.out; obtain ⟨hcz127_0, hcz127_1, hfz127_0, hfz127_1⟩ := c2 (w := w124) BK185; have hnb128 := NB186_184.out; have hnc128 := NB184_186.out; obtain ⟨hcz129_0, hcz129_1, hcz129_2, hcz129_3, hfz129_0, hfz129_1, hfz129_2, hfz129_3⟩ := Go.Proofs.YtklaigmpceacaaaW.PrintLast.c4 (w := w124) BK186))
 refine bodyPost_ret (results_list (rs := [.cell 6 37, .cell 7 39, .tmp 8]) rfl (by simp) (.cell gb185 37 #[.int .i64 0, .slice none 0 0] (0, 0) _ rfl (by (with_reducible repeat (first | refine blk_drewN ?_ _ | refine blk_drew ?_ | refine blk_alloc ?_ _)); refine blk_far ?_ NB185_186.out _; (with_reducible repeat (first | refine blk_drewN ?_ _ | refine blk_drew ?_ | refine blk_alloc ?_ _)); refine blk_far ?_ NB185_186.out _; (with_reducible repeat (first | refine blk_drewN ?_ _ | refine blk_drew ?_ | refine blk_alloc ?_ _)); refine blk_far ?_ NB185_186.out _; (with_reducible repeat (first | refine blk_drewN ?_ _ | refine blk_drew ?_ | refine blk_alloc ?_ _)); refine blk_far ?_ NB185_186.out _; (with_reducible repeat (first | refine blk_drewN ?_ _ | refine blk_drew ?_ | refine blk_alloc ?_ _)); refine blk_put (cs := #[.int .i64 0, .slice none 0 0]) ?_ 1 _ rfl; (with_reducible repeat (first | refine blk_drewN ?_ _ | refine blk_drew ?_ | refine blk_alloc ?_ _)); refine blk_put (cs := #[.int .i64 0, .slice none 0 0]) ?_ 0 _ rfl; (with_reducible repeat (first | refine blk_drewN ?_ _ | refine blk_drew ?_ | refine blk_alloc ?_ _)); exact BK185.out) Try.underlying37 rfl (by kernel_rfl) (.cell gb186 39 #[.int .i64 0, .int .i64 0, .int .i64 0, .string (⟨#[]⟩ : ByteArray)] (0, 0) _ rfl zq179 Try.underlying39 rfl (by kernel_rfl) (.tmp .nil)))) rfl ?_
 exact ⟨_, zq3, zq140, zq171⟩

/-! ### laws_eqPacket: function 22 -/
def laws_eqPacket.f (a0_0 : Int) (a0_1 : Int) (a0_2 : Int) (a0_3 : ByteArray) (a1_0 : Int) (a1_1 : Int) (a1_2 : Int) (a1_3 : ByteArray) : Option (Bool) := if a0_0 = a1_0 then (if a0_1 = a1_1 then (if a0_2 = a1_2 then (if a0_3.toList = a1_3.toList then (some true) else (some false)) else (some false)) else (some false)) else (some false)
set_option maxHeartbeats 8000000 in
set_option maxRecDepth 100000 in
theorem laws_eqPacket.calls (a0_0 : Int) (a0_1 : Int) (a0_2 : Int) (a0_3 : ByteArray) (a1_0 : Int) (a1_1 : Int) (a1_2 : Int) (a1_3 : ByteArray) (r : Bool) (w : World) (h : laws_eqPacket.f a0_0 a0_1 a0_2 a0_3 a1_0 a1_1 a1_2 a1_3 = some r) :
  Calls Try.prog 22 #[.agg #[.int .i64 a0_0, .int .i64 a0_1, .int .i64 a0_2, .string a0_3], .agg #[.int .i64 a1_0, .int .i64 a1_1, .int .i64 a1_2, .string a1_3]] w fun e w' => e = .returned (.bool r) ∧ Below w.heap.size w w' := by
 have hu39 := Try.underlying39
 have HB := Aside0.mk (Below.refl w.heap.size w)
 have H : (if a0_0 = a1_0 then (if a0_1 = a1_1 then (if a0_2 = a1_2 then (if a0_3.toList = a1_3.toList then (some true) else (some false)) else (some false)) else (some false)) else (some false)) = some r := h
 clear h
 by_cases c3 : a0_0 = a1_0
 ·
  rw [if_pos c3] at H
  have c3b0 : (a0_0 == a1_0) = true := beq_iff_eq.mpr c3
  have c3b1 : (a0_0 != a1_0) = false := bne_eq_false_iff_eq.mpr c3
  clear c3
  by_cases c4 : a0_1 = a1_1
  ·
   rw [if_pos c4] at H
   have c4b0 : (a0_1 == a1_1) = true := beq_iff_eq.mpr c4
   have c4b1 : (a0_1 != a1_1) = false := bne_eq_false_iff_eq.mpr c4
   clear c4
   by_cases c5 : a0_2 = a1_2
   ·
    rw [if_pos c5] at H
    have c5b0 : (a0_2 == a1_2) = true := beq_iff_eq.mpr c5
    have c5b1 : (a0_2 != a1_2) = false := bne_eq_false_iff_eq.mpr c5
    clear c5
    by_cases c6 : a0_3.toList = a1_3.toList
    ·
     rw [if_pos c6] at H
     have c6b0 : (a0_3.toList == a1_3.toList) = true := beq_iff_eq.mpr c6
     have c6b1 : (a0_3.toList != a1_3.toList) = false := bne_eq_false_iff_eq.mpr c6
     clear c6
     obtain rfl := Option.some.inj H
     go_enter Try.func22, Try.ntmps22
     go_wp2_with (first | ((with_reducible refine gate_dst (N := 2) rfl ?_); refine box_event ?hg (N := 2) ?hd (cs := #[.int .i64 a0_0, .int .i64 a0_1, .int .i64 a0_2, .string a0_3]) (t := 39) ?hr ?_; (case hd => rfl); (case hg => rfl); (case hr => exact zq1); intro gb199 hg w7 hbox hb; have BK199 := Aside0.mk hbox; have GW199 := Aside0.mk (zq205 : w.heap.size ≤ gb199); have GE199 := Aside0.mk (zq205 : w.heap.size ≤ gb199); replace HB := sB zq2 hb; clear hb hbox hg) | ((with_reducible refine gate_dst (N := 3) rfl ?_); refine box_event ?hg (N := 3) ?hd (cs := #[.int .i64 a1_0, .int .i64 a1_1, .int .i64 a1_2, .string a1_3]) (t := 39) ?hr ?_; (case hd => rfl); (case hg => rfl); (case hr => exact zq1); intro gb200 hg w8 hbox hb; have BK200 := Aside0.mk hbox; have GW200 := Aside0.mk (zq280 : w.heap.size ≤ gb200); have GE200 := Aside0.mk (zq280 : w.heap.size ≤ gb200); replace HB := sB zq190 hb; have NB199_200 := Aside0.mk (zq281 : gb199 ≠ gb200); have NB200_199 := Aside0.mk (zq282 : gb200 ≠ gb199); replace BK199 := bF BK199 zq189 hb; clear hb hbox hg; have hnb9 := NB199_200.out; have hnc9 := NB200_199.out; obtain ⟨hcz10_0, hcz10_1, hcz10_2, hcz10_3, hfz10_0, hfz10_1, hfz10_2, hfz10_3⟩ := Go.Proofs.YtklaigmpceacaaaW.PrintLast.c4 (w := w8) BK199; obtain ⟨hcz11_0, hcz11_1, hcz11_2, hcz11_3, hfz11_0, hfz11_1, hfz11_2, hfz11_3⟩ := Go.Proofs.YtklaigmpceacaaaW.PrintLast.c4 (w := w8) BK200))
     go_ret
     exact ⟨zq3, zq191⟩
    rw [if_neg c6] at H
    have c6b0 : (a0_3.toList == a1_3.toList) = false := beq_eq_false_iff_ne.mpr c6
    have c6b1 : (a0_3.toList != a1_3.toList) = true := bne_iff_ne.mpr c6
    obtain rfl := Option.some.inj H
    go_enter Try.func22, Try.ntmps22
    go_wp2_with (first | ((with_reducible refine gate_dst (N := 2) rfl ?_); refine box_event ?hg (N := 2) ?hd (cs := #[.int .i64 a0_0, .int .i64 a0_1, .int .i64 a0_2, .string a0_3]) (t := 39) ?hr ?_; (case hd => rfl); (case hg => rfl); (case hr => exact zq1); intro gb199 hg w12 hbox hb; have BK199 := Aside0.mk hbox; have GW199 := Aside0.mk (zq205 : w.heap.size ≤ gb199); have GE199 := Aside0.mk (zq205 : w.heap.size ≤ gb199); replace HB := sB zq2 hb; clear hb hbox hg) | ((with_reducible refine gate_dst (N := 3) rfl ?_); refine box_event ?hg (N := 3) ?hd (cs := #[.int .i64 a1_0, .int .i64 a1_1, .int .i64 a1_2, .string a1_3]) (t := 39) ?hr ?_; (case hd => rfl); (case hg => rfl); (case hr => exact zq1); intro gb200 hg w13 hbox hb; have BK200 := Aside0.mk hbox; have GW200 := Aside0.mk (zq280 : w.heap.size ≤ gb200); have GE200 := Aside0.mk (zq280 : w.heap.size ≤ gb200); replace HB := sB zq190 hb; have NB199_200 := Aside0.mk (zq281 : gb199 ≠ gb200); have NB200_199 := Aside0.mk (zq282 : gb200 ≠ gb199); replace BK199 := bF BK199 zq189 hb; clear hb hbox hg; have hnb14 := NB199_200.out; have hnc14 := NB200_199.out; obtain ⟨hcz15_0, hcz15_1, hcz15_2, hcz15_3, hfz15_0, hfz15_1, hfz15_2, hfz15_3⟩ := Go.Proofs.YtklaigmpceacaaaW.PrintLast.c4 (w := w13) BK199; obtain ⟨hcz16_0, hcz16_1, hcz16_2, hcz16_3, hfz16_0, hfz16_1, hfz16_2, hfz16_3⟩ := Go.Proofs.YtklaigmpceacaaaW.PrintLast.c4 (w := w13) BK200))
    go_ret
    exact ⟨zq3, zq191⟩
   rw [if_neg c5] at H
   have c5b0 : (a0_2 == a1_2) = false := beq_eq_false_iff_ne.mpr c5
   have c5b1 : (a0_2 != a1_2) = true := bne_iff_ne.mpr c5
   obtain rfl := Option.some.inj H
   go_enter Try.func22, Try.ntmps22
   go_wp2_with (first | ((with_reducible refine gate_dst (N := 2) rfl ?_); refine box_event ?hg (N := 2) ?hd (cs := #[.int .i64 a0_0, .int .i64 a0_1, .int .i64 a0_2, .string a0_3]) (t := 39) ?hr ?_; (case hd => rfl); (case hg => rfl); (case hr => exact zq1); intro gb199 hg w17 hbox hb; have BK199 := Aside0.mk hbox; have GW199 := Aside0.mk (zq205 : w.heap.size ≤ gb199); have GE199 := Aside0.mk (zq205 : w.heap.size ≤ gb199); replace HB := sB zq2 hb; clear hb hbox hg) | ((with_reducible refine gate_dst (N := 3) rfl ?_); refine box_event ?hg (N := 3) ?hd (cs := #[.int .i64 a1_0, .int .i64 a1_1, .int .i64 a1_2, .string a1_3]) (t := 39) ?hr ?_; (case hd => rfl); (case hg => rfl); (case hr => exact zq1); intro gb200 hg w18 hbox hb; have BK200 := Aside0.mk hbox; have GW200 := Aside0.mk (zq280 : w.heap.size ≤ gb200); have GE200 := Aside0.mk (zq280 : w.heap.size ≤ gb200); replace HB := sB zq190 hb; have NB199_200 := Aside0.mk (zq281 : gb199 ≠ gb200); have NB200_199 := Aside0.mk (zq282 : gb200 ≠ gb199); replace BK199 := bF BK199 zq189 hb; clear hb hbox hg; have hnb19 := NB199_200.out; have hnc19 := NB200_199.out; obtain ⟨hcz20_0, hcz20_1, hcz20_2, hcz20_3, hfz20_0, hfz20_1, hfz20_2, hfz20_3⟩ := Go.Proofs.YtklaigmpceacaaaW.PrintLast.c4 (w := w18) BK199; obtain ⟨hcz21_0, hcz21_1, hcz21_2, hcz21_3, hfz21_0, hfz21_1, hfz21_2, hfz21_3⟩ := Go.Proofs.YtklaigmpceacaaaW.PrintLast.c4 (w := w18) BK200))
   go_ret
   exact ⟨zq3, zq191⟩
  rw [if_neg c4] at H
  have c4b0 : (a0_1 == a1_1) = false := beq_eq_false_iff_ne.mpr c4
  have c4b1 : (a0_1 != a1_1) = true := bne_iff_ne.mpr c4
  obtain rfl := Option.some.inj H
  go_enter Try.func22, Try.ntmps22
  go_wp2_with (first | ((with_reducible refine gate_dst (N := 2) rfl ?_); refine box_event ?hg (N := 2) ?hd (cs := #[.int .i64 a0_0, .int .i64 a0_1, .int .i64 a0_2, .string a0_3]) (t := 39) ?hr ?_; (case hd => rfl); (case hg => rfl); (case hr => exact zq1); intro gb199 hg w22 hbox hb; have BK199 := Aside0.mk hbox; have GW199 := Aside0.mk (zq205 : w.heap.size ≤ gb199); have GE199 := Aside0.mk (zq205 : w.heap.size ≤ gb199); replace HB := sB zq2 hb; clear hb hbox hg) | ((with_reducible refine gate_dst (N := 3) rfl ?_); refine box_event ?hg (N := 3) ?hd (cs := #[.int .i64 a1_0, .int .i64 a1_1, .int .i64 a1_2, .string a1_3]) (t := 39) ?hr ?_; (case hd => rfl); (case hg => rfl); (case hr => exact zq1); intro gb200 hg w23 hbox hb; have BK200 := Aside0.mk hbox; have GW200 := Aside0.mk (zq280 : w.heap.size ≤ gb200); have GE200 := Aside0.mk (zq280 : w.heap.size ≤ gb200); replace HB := sB zq190 hb; have NB199_200 := Aside0.mk (zq281 : gb199 ≠ gb200); have NB200_199 := Aside0.mk (zq282 : gb200 ≠ gb199); replace BK199 := bF BK199 zq189 hb; clear hb hbox hg; have hnb24 := NB199_200.out; have hnc24 := NB200_199.out; obtain ⟨hcz25_0, hcz25_1, hcz25_2, hcz25_3, hfz25_0, hfz25_1, hfz25_2, hfz25_3⟩ := Go.Proofs.YtklaigmpceacaaaW.PrintLast.c4 (w := w23) BK199; obtain ⟨hcz26_0, hcz26_1, hcz26_2, hcz26_3, hfz26_0, hfz26_1, hfz26_2, hfz26_3⟩ := Go.Proofs.YtklaigmpceacaaaW.PrintLast.c4 (w := w23) BK200))
  go_ret
  exact ⟨zq3, zq191⟩
 rw [if_neg c3] at H
 have c3b0 : (a0_0 == a1_0) = false := beq_eq_false_iff_ne.mpr c3
 have c3b1 : (a0_0 != a1_0) = true := bne_iff_ne.mpr c3
 obtain rfl := Option.some.inj H
 go_enter Try.func22, Try.ntmps22
 go_wp2_with (first | ((with_reducible refine gate_dst (N := 2) rfl ?_); refine box_event ?hg (N := 2) ?hd (cs := #[.int .i64 a0_0, .int .i64 a0_1, .int .i64 a0_2, .string a0_3]) (t := 39) ?hr ?_; (case hd => rfl); (case hg => rfl); (case hr => exact zq1); intro gb199 hg w27 hbox hb; have BK199 := Aside0.mk hbox; have GW199 := Aside0.mk (zq205 : w.heap.size ≤ gb199); have GE199 := Aside0.mk (zq205 : w.heap.size ≤ gb199); replace HB := sB zq2 hb; clear hb hbox hg) | ((with_reducible refine gate_dst (N := 3) rfl ?_); refine box_event ?hg (N := 3) ?hd (cs := #[.int .i64 a1_0, .int .i64 a1_1, .int .i64 a1_2, .string a1_3]) (t := 39) ?hr ?_; (case hd => rfl); (case hg => rfl); (case hr => exact zq1); intro gb200 hg w28 hbox hb; have BK200 := Aside0.mk hbox; have GW200 := Aside0.mk (zq280 : w.heap.size ≤ gb200); have GE200 := Aside0.mk (zq280 : w.heap.size ≤ gb200); replace HB := sB zq190 hb; have NB199_200 := Aside0.mk (zq281 : gb199 ≠ gb200); have NB200_199 := Aside0.mk (zq282 : gb200 ≠ gb199); replace BK199 := bF BK199 zq189 hb; clear hb hbox hg; have hnb29 := NB199_200.out; have hnc29 := NB200_199.out; obtain ⟨hcz30_0, hcz30_1, hcz30_2, hcz30_3, hfz30_0, hfz30_1, hfz30_2, hfz30_3⟩ := Go.Proofs.YtklaigmpceacaaaW.PrintLast.c4 (w := w28) BK199; obtain ⟨hcz31_0, hcz31_1, hcz31_2, hcz31_3, hfz31_0, hfz31_1, hfz31_2, hfz31_3⟩ := Go.Proofs.YtklaigmpceacaaaW.PrintLast.c4 (w := w28) BK200))
 go_ret
 exact ⟨zq3, zq191⟩

end Go.Proofs.Ytklaigmpceacaaa.QFnExactTake
