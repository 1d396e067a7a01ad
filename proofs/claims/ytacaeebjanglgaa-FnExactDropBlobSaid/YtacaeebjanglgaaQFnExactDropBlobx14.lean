/- Written by wip/myprint.py of this repo (the kit's print, with additions of this session). -/
import Derived.Test.YtacaeebjanglgaaQFnExactDropBlobx0
import Derived.Test.YtacaeebjanglgaaQFnExactDropBlobx13
set_option maxRecDepth 100000
namespace Go.Proofs.Ytacaeebjanglgaa.QFnExactDropBlob
open Go.RowKit Go.Proofs.YtacaeebjanglgaaW.PrintWords Go.Proofs.YtacaeebjanglgaaW.PrintLast Go.Proofs.YtacaeebjanglgaaW.PrintMore
attribute [local go_sem] max2_int min2_int max_two min_two max_three min_three max_four min_four   -- for this text's walks alone
set_option linter.unusedVariables false
set_option linter.unusedSimpArgs false

/-! ### impl_blobOf: function 60 (walked by hand) -/
set_option maxHeartbeats 8000000 in
/-- The closure: how the digest of a blob lies to a text. -/
theorem impl_blobOf.cmp (b0 b1 d : ByteArray) (w : World) :
  Calls Try.prog 94 #[.agg #[.string b0, .string b1], .string d] w fun e w' => e = .returned (.int .i64 (Lib.compareBytes b0.data.toList d.data.toList)) ∧ Below w.heap.size w w' := by
 have hb1 := (Below.refl w.heap.size w).alloc (Nat.le_refl _) (.cells #[.string b0, .string b1] 66)
 go_enter Try.func94, Try.ntmps94
 go_wp2_with (first | ((with_reducible refine gC 95 rfl ?_); refine gL 8 Try.func95 #[.string b0, .string d] ?_; refine (Any.strings_Compare Try.lays106 b0 d _).mono ?_; rintro e w7 ⟨rfl, rfl⟩; refine ⟨_, rfl, ?_⟩))
 go_ret
 exact ⟨rfl, hb1⟩
def impl_blobOf.bs (l : List S66) (d : ByteArray) : Nat → Nat → Nat → Nat
 | 0, i, _ => i
 | k + 1, i, j => if i < j then (if Lib.compareBytes (rd_T66 l (((i + j) / 2 : Nat) : Int)).f0.data.toList d.data.toList < 0 then impl_blobOf.bs l d k ((i + j) / 2 + 1) j else impl_blobOf.bs l d k i ((i + j) / 2)) else i
theorem impl_blobOf.bs_done (l : List S66) (d : ByteArray) (k i j : Nat) (h : ¬ i < j) : impl_blobOf.bs l d k i j = i := by
 cases k with
 | zero => rfl
 | succ k => unfold impl_blobOf.bs; rw [if_neg h]
theorem impl_blobOf.half (i j : Nat) (x y : Int) (hx : x = (i : Int)) (hy : y = (j : Int)) (h : i + j < 4611686018427387904) : wrap64 (IntKind.u64.wrap (wrap64 (x + y)) / 2) = (((i + j) / 2 : Nat) : Int) := by
 subst hx; subst hy
 have e1 : wrap64 ((i : Int) + (j : Int)) = ((i + j : Nat) : Int) := by unfold wrap64; omega
 have e2 : IntKind.u64.wrap ((i + j : Nat) : Int) = ((i + j : Nat) : Int) := by unfold IntKind.wrap; simp [IntKind.bits, IntKind.signed]; omega
 rw [e1, e2]
 unfold wrap64; omega
set_option maxHeartbeats 8000000 in
theorem impl_blobOf.search (l : List S66) (A : Option Addr) (c : Nat) (d : ByteArray) (w : World) (hr : Kd.C k66 w A l.length l) (hc : l.length ≤ c) (hm : l.length ≤ 2305843009213693952) :
  Calls Try.prog 93 #[.slice A l.length c, .string d, .func (.func 94) #[] #[]] w fun e w' => e = .returned (.tuple #[.int .i64 (impl_blobOf.bs l d l.length 0 l.length : Int), .bool (decide (impl_blobOf.bs l d l.length 0 l.length < l.length) && decide (Lib.compareBytes (rd_T66 l (impl_blobOf.bs l d l.length 0 l.length : Int)).f0.data.toList d.data.toList = 0))]) ∧ Below w.heap.size w w' := by
 have HR := Aside0.mk hr
 have HC := Aside0.mk hc
 have HM := Aside0.mk hm
 clear hr hc hm
 go_enter Try.func93, Try.ntmps93
 go_wp2
 go_loopg [9, 10] l.length (fun kq v9 v10 w' => ∃ (i j : Nat) (x9 x10 : Int), v9 = .int .i64 x9 ∧ v10 = .int .i64 x10 ∧ Aside0 (x9 = (i : Int)) ∧ Aside0 (x10 = (j : Int)) ∧ Aside0 (i ≤ j ∧ j ≤ l.length ∧ j - i ≤ kq) ∧ Aside0 (impl_blobOf.bs l d kq i j = impl_blobOf.bs l d l.length 0 l.length) ∧ Aside0 (Below w.heap.size w w'))
 case atStart => exact ⟨0, l.length, 0, (l.length : Int), rfl, rfl, ⟨rfl⟩, ⟨rfl⟩, ⟨by omega⟩, ⟨rfl⟩, ⟨Below.refl _ _⟩⟩
 case round =>
  obtain ⟨i, j, x9, x10, rfl, rfl, HI, HJ, hij, HE, HB⟩ := hrel
  by_cases g : i < j
  ·
   have c1 : decide (x9 < x10) = true := decide_eq_true (by have := HI.out; have := HJ.out; omega)
   cases gk with
   | zero => exact absurd hij.out (by omega)
   | succ k1 =>
    have G := Aside0.mk g; clear g
    have eh : wrap64 (IntKind.u64.wrap (wrap64 (x9 + x10)) / 2) = (((i + j) / 2 : Nat) : Int) := impl_blobOf.half i j x9 x10 HI.out HJ.out (by have := hij.out; have := HM.out; have := G.out; omega)
    have EH := Aside0.mk eh; clear eh
    have b1 := eq_true (show 0 ≤ wrap64 (IntKind.u64.wrap (wrap64 (x9 + x10)) / 2) by have := EH.out; omega)
    have b2 := eq_true (show wrap64 (IntKind.u64.wrap (wrap64 (x9 + x10)) / 2) < (l.length : Int) by have := EH.out; have := hij.out; have := G.out; omega)
    obtain ⟨ad, e1, h0, h1⟩ := at_T66 HR.out (wrap64 (IntKind.u64.wrap (wrap64 (x9 + x10)) / 2)) (by simpa using b1) (by simpa using b2)
    subst e1
    have hx0 := (HB.out.cell (World.block_lt_of_cell? w _ h0)).trans h0
    have hx1 := (HB.out.cell (World.block_lt_of_cell? w _ h1)).trans h1
    clear h0 h1
    by_cases hq : Lib.compareBytes (rd_T66 l (wrap64 (IntKind.u64.wrap (wrap64 (x9 + x10)) / 2))).f0.data.toList d.data.toList < 0
    ·
     have q1 := decide_eq_true hq
     have HQ := Aside0.mk hq; clear hq
     go_wp2_with (fail)
     refine (impl_blobOf.cmp _ _ d wr).mono ?_
     rintro e w7 ⟨rfl, hb⟩
     have HB2 := Aside0.mk (below_step HB.out hb); clear hb
     try dsimp only
     go_wp2
     go_roundg k1
     case measure => omega
     case rel =>
      refine ⟨(i + j) / 2 + 1, j, _, x10, rfl, rfl, ⟨?_⟩, HJ, ⟨by have := hij.out; have := G.out; omega⟩, ⟨?_⟩, HB2⟩
      ·
       rw [EH.out]; have := hij.out; have := HM.out; unfold wrap64; omega
      rw [← HE.out]
      conv => rhs; unfold impl_blobOf.bs
      rw [if_pos G.out, if_pos (by have := HQ.out; rw [EH.out] at this; exact this)]
    have q1 := decide_eq_false hq
    have HQ := Aside0.mk hq; clear hq
    go_wp2_with (fail)
    refine (impl_blobOf.cmp _ _ d wr).mono ?_
    rintro e w7 ⟨rfl, hb⟩
    have HB2 := Aside0.mk (below_step HB.out hb); clear hb
    try dsimp only
    go_wp2
    go_roundg k1
    case measure => omega
    case rel =>
     refine ⟨i, (i + j) / 2, x9, _, rfl, rfl, HI, EH, ⟨by have := hij.out; have := G.out; omega⟩, ⟨?_⟩, HB2⟩
     rw [← HE.out]
     conv => rhs; unfold impl_blobOf.bs
     rw [if_pos G.out, if_neg (by have := HQ.out; rw [EH.out] at this; omega)]
  have c1 : decide (x9 < x10) = false := decide_eq_false (by have := HI.out; have := HJ.out; omega)
  have G := Aside0.mk g; clear g
  by_cases gn : i < l.length
  ·
   have c2 : decide (x9 < (l.length : Int)) = true := decide_eq_true (by have := HI.out; omega)
   have b1 := eq_true (show 0 ≤ x9 by have := HI.out; omega)
   have b2 := eq_true (show x9 < (l.length : Int) by have := HI.out; omega)
   obtain ⟨ad, e1, h0, h1⟩ := at_T66 HR.out x9 (by simpa using b1) (by simpa using b2)
   subst e1
   have hx0 := (HB.out.cell (World.block_lt_of_cell? w _ h0)).trans h0
   have hx1 := (HB.out.cell (World.block_lt_of_cell? w _ h1)).trans h1
   clear h0 h1
   have GN := Aside0.mk gn; clear gn
   go_wp2_with (fail)
   refine (impl_blobOf.cmp _ _ d wr).mono ?_
   rintro e w7 ⟨rfl, hb⟩
   have HB2 := Aside0.mk (below_step HB.out hb); clear hb
   try dsimp only
   go_wp2
   refine bodyPost_ret (results_tmp2 rfl _ _ _) rfl ?_
   refine ⟨?_, HB2.out⟩
   rw [← HE.out, impl_blobOf.bs_done _ _ _ _ _ G.out]
   have hi := HI.out
   subst hi
   rw [decide_eq_true GN.out, Bool.true_and]
   rfl
  have c2 : decide (x9 < (l.length : Int)) = false := decide_eq_false (by have := HI.out; omega)
  have GN := Aside0.mk gn; clear gn
  go_wp2
  refine bodyPost_ret (results_tmp2 rfl _ _ _) rfl ?_
  refine ⟨?_, HB.out⟩
  rw [← HE.out, impl_blobOf.bs_done _ _ _ _ _ G.out]
  have hi := HI.out
  subst hi
  rw [decide_eq_false GN.out, Bool.false_and]
  rfl
set_option maxHeartbeats 8000000 in
theorem impl_blobOf.blobOf (q : Int) (A1 : Option Addr) (c1 : Nat) (l1 : List S66) (A2 : Option Addr) (c2 : Nat) (l2 : List S68) (nx : Int) (d : ByteArray) (w : World) (hr1 : Kd.C k66 w A1 l1.length l1) (hc1 : l1.length ≤ c1) (hm : l1.length ≤ 2305843009213693952)
  (r1 : Int) (r2 : Bool) (h1 : (impl_blobOf.bs l1 d l1.length 0 l1.length : Int) = r1) (h2 : (decide (impl_blobOf.bs l1 d l1.length 0 l1.length < l1.length) && decide (Lib.compareBytes (rd_T66 l1 (impl_blobOf.bs l1 d l1.length 0 l1.length : Int)).f0.data.toList d.data.toList = 0)) = r2) :
  Calls Try.prog 60 #[.agg #[.int .i64 q, .slice A1 l1.length c1, .slice A2 l2.length c2, .int .i64 nx], .string d] w fun e w' => e = .returned (.tuple #[.int .i64 r1, .bool r2]) ∧ Below w.heap.size w w' := by
 have hb2 := (Below.refl w.heap.size w).alloc (Nat.le_refl _) (.cells #[.int .i64 q, .slice A1 l1.length c1, .slice A2 l2.length c2, .int .i64 nx] 31)
 have hS := impl_blobOf.search l1 A1 c1 d (w.alloc (.cells #[.int .i64 q, .slice A1 l1.length c1, .slice A2 l2.length c2, .int .i64 nx] 31)) (Kd.C_alloc hr1 _) hc1 hm
 rw [h2, h1] at hS
 have HS := Aside0.mk hS
 clear hS h1 h2 hr1 hc1 hm
 go_enter Try.func60, Try.ntmps60
 go_wp2_with (first | ((with_reducible refine gC 93 rfl ?_); refine gL 9 Try.func93 #[.slice A1 l1.length c1, .string d, .func (.func 94) #[] #[]] ?_; refine HS.out.mono ?_; rintro e w7 ⟨rfl, hb⟩; refine ⟨_, rfl, ?_⟩; have HB := Aside0.mk (below_step hb2 hb); clear hb))
 refine bodyPost_ret (results_tmp2 rfl _ _ _) rfl ⟨rfl, HB.out⟩
def impl_blobOf.f (a0_0 : Int) (l0_1 : List S66) (l0_2 : List S68) (a0_3 : Int) (a1 : ByteArray) : Option (Int × Bool) := if l0_1.length ≤ 2305843009213693952 then some ((impl_blobOf.bs l0_1 a1 l0_1.length 0 l0_1.length : Int), decide (impl_blobOf.bs l0_1 a1 l0_1.length 0 l0_1.length < l0_1.length) && decide (Lib.compareBytes (rd_T66 l0_1 (impl_blobOf.bs l0_1 a1 l0_1.length 0 l0_1.length : Int)).f0.data.toList a1.data.toList = 0)) else none
theorem impl_blobOf.calls (a0_0 : Int) (A0_1 : Option Addr) (c0_1 : Nat) (l0_1 : List S66) (A0_2 : Option Addr) (c0_2 : Nat) (l0_2 : List S68) (a0_3 : Int) (a1 : ByteArray) (r1 : Int) (r2 : Bool) (w : World) (hr0_1 : Kd.C k66 w A0_1 l0_1.length l0_1) (hc0_1 : l0_1.length ≤ c0_1) (hr0_2 : Kd.C k68 w A0_2 l0_2.length l0_2) (hc0_2 : l0_2.length ≤ c0_2) (h : impl_blobOf.f a0_0 l0_1 l0_2 a0_3 a1 = some (r1, r2)) :
  Calls Try.prog 60 #[.agg #[.int .i64 a0_0, .slice A0_1 l0_1.length c0_1, .slice A0_2 l0_2.length c0_2, .int .i64 a0_3], .string a1] w fun e w' => e = .returned (.tuple #[.int .i64 r1, .bool r2]) ∧ Below w.heap.size w w' := by
 unfold impl_blobOf.f at h
 split at h
 ·
  rename_i hg
  injection h with h
  injection h with h1 h2
  exact impl_blobOf.blobOf a0_0 A0_1 c0_1 l0_1 A0_2 c0_2 l0_2 a0_3 a1 w hr0_1 hc0_1 hg r1 r2 h1 h2
 exact absurd h (by simp)

/-! ### impl_copyStore: function 65 -/
def impl_copyStore.f (a0_0 : Int) (l0_1 : List (S66)) (l0_2 : List (S68)) (a0_3 : Int) : Option (Int × (List (S66)) × (List (S68)) × Int) := (some (([] : List (S66)) : List (S66))).bind fun y373 => (if y373.length + l0_1.length < 4398046511104 then ((some (([] : List (S68)) : List (S68))).bind fun y379 => (if y379.length + l0_2.length < 5864062014805 then (some (a0_0, (y373 ++ l0_1), (y379 ++ l0_2), a0_3)) else (none))) else (none))
set_option maxHeartbeats 8000000 in
set_option maxRecDepth 100000 in
theorem impl_copyStore.calls (a0_0 : Int) (A0_1 : Option Addr) (c0_1 : Nat) (l0_1 : List (S66)) (A0_2 : Option Addr) (c0_2 : Nat) (l0_2 : List (S68)) (a0_3 : Int) (r1 : Int) (r2 : List (S66)) (r3 : List (S68)) (r4 : Int) (w : World) (hr0_1 : Kd.C k66 w A0_1 l0_1.length l0_1) (hc0_1 : l0_1.length ≤ c0_1) (hr0_2 : Kd.C k68 w A0_2 l0_2.length l0_2) (hc0_2 : l0_2.length ≤ c0_2) (h : impl_copyStore.f a0_0 l0_1 l0_2 a0_3 = some (r1, r2, r3, r4)) :
  Calls Try.prog 65 #[.agg #[.int .i64 a0_0, .slice A0_1 l0_1.length c0_1, .slice A0_2 l0_2.length c0_2, .int .i64 a0_3]] w fun e w' => ∃ v1_ v2_ : Value, e = .returned (.agg #[.int .i64 r1, v1_, v2_, .int .i64 r4]) ∧ Kd.R k66 66 w' w.heap.size (fun _ => True) v1_ r2 ∧ Kd.R k68 68 w' w.heap.size (fun _ => True) v2_ r3 ∧ Below w.heap.size w w' := by
 have hu31 := Try.underlying31
 have HR0_1 := Aside0.mk hr0_1
 have HC0_1 := Aside0.mk hc0_1
 clear hr0_1 hc0_1
 have HR0_2 := Aside0.mk hr0_2
 have HC0_2 := Aside0.mk hc0_2
 clear hr0_2 hc0_2
 have HB := Aside0.mk (Below.refl w.heap.size w)
 have H : ((some (([] : List (S66)) : List (S66))).bind fun y373 => (if y373.length + l0_1.length < 4398046511104 then ((some (([] : List (S68)) : List (S68))).bind fun y379 => (if y379.length + l0_2.length < 5864062014805 then (some (a0_0, (y373 ++ l0_1), (y379 ++ l0_2), a0_3)) else (none))) else (none))) = some (r1, r2, r3, r4) := h
 clear h
 obtain ⟨y373, hy373⟩ : ∃ y_ : List (S66), y_ = (([] : List (S66))) := ⟨_, rfl⟩
 replace H : (if y373.length + l0_1.length < 4398046511104 then ((some (([] : List (S68)) : List (S68))).bind fun y379 => (if y379.length + l0_2.length < 5864062014805 then (some (a0_0, (y373 ++ l0_1), (y379 ++ l0_2), a0_3)) else (none))) else (none)) = some (r1, r2, r3, r4) := by first | (rw [hy373]; with_reducible exact H) | (have H2_ := (Option.bind_some _ _).symm.trans H; rw [hy373]; with_reducible exact H2_) | (have H2_ := (Option.bind_some _ _).symm.trans H; with_reducible exact H2_) | with_reducible exact H | (rw [hy373]; exact H) | exact H
 have Ny373 := Aside0.mk hy373
 clear hy373
 by_cases c2 : y373.length + l0_1.length < 4398046511104
 ·
  rw [if_pos c2] at H
  have LMc2 := Aside0.mk c2
  clear c2
  obtain ⟨y376, hy376⟩ : ∃ y_ : List (S66), y_ = (y373 ++ l0_1) := ⟨_, rfl⟩
  replace H : ((some (([] : List (S68)) : List (S68))).bind fun y379 => (if y379.length + l0_2.length < 5864062014805 then (some (a0_0, y376, (y379 ++ l0_2), a0_3)) else (none))) = some (r1, r2, r3, r4) := by first | (rw [hy376]; with_reducible exact H) | (have H2_ := (Option.bind_some _ _).symm.trans H; rw [hy376]; with_reducible exact H2_) | (have H2_ := (Option.bind_some _ _).symm.trans H; with_reducible exact H2_) | with_reducible exact H | (rw [hy376]; exact H) | exact H
  have Ny376 := Aside0.mk hy376
  clear hy376
  obtain ⟨y379, hy379⟩ : ∃ y_ : List (S68), y_ = (([] : List (S68))) := ⟨_, rfl⟩
  replace H : (if y379.length + l0_2.length < 5864062014805 then (some (a0_0, y376, (y379 ++ l0_2), a0_3)) else (none)) = some (r1, r2, r3, r4) := by first | (rw [hy379]; with_reducible exact H) | (have H2_ := (Option.bind_some _ _).symm.trans H; rw [hy379]; with_reducible exact H2_) | (have H2_ := (Option.bind_some _ _).symm.trans H; with_reducible exact H2_) | with_reducible exact H | (rw [hy379]; exact H) | exact H
  have Ny379 := Aside0.mk hy379
  clear hy379
  by_cases c3 : y379.length + l0_2.length < 5864062014805
  ·
   rw [if_pos c3] at H
   have LMc3 := Aside0.mk c3
   clear c3
   obtain ⟨y382, hy382⟩ : ∃ y_ : List (S68), y_ = (y379 ++ l0_2) := ⟨_, rfl⟩
   replace H : (some (a0_0, y376, y382, a0_3)) = some (r1, r2, r3, r4) := by first | (rw [hy382]; with_reducible exact H) | (have H2_ := (Option.bind_some _ _).symm.trans H; rw [hy382]; with_reducible exact H2_) | (have H2_ := (Option.bind_some _ _).symm.trans H; with_reducible exact H2_) | with_reducible exact H | (rw [hy382]; exact H) | exact H
   have Ny382 := Aside0.mk hy382
   clear hy382
   simp only [Option.some.injEq, Prod.mk.injEq] at H
   obtain ⟨rfl, rfl, rfl, rfl⟩ := H
   go_enter Try.func65, Try.ntmps65
   go_wp2_with (first | ((with_reducible refine gate_dst (N := 1) rfl ?_); refine box_event ?hg (N := 1) ?hd (cs := #[.int .i64 a0_0, .slice A0_1 l0_1.length c0_1, .slice A0_2 l0_2.length c0_2, .int .i64 a0_3]) (t := 31) ?hr ?_; (case hd => rfl); (case hg => rfl); (case hr => exact zq2); intro gb371 hg w4 hbox hb; have BK371 := Aside0.mk hbox; have GW371 := Aside0.mk (zq254 : w.heap.size ≤ gb371); have GE371 := Aside0.mk (zq254 : w.heap.size ≤ gb371); replace HB := sB zq3 hb; clear hb hbox hg) | ((with_reducible refine gate_dst (N := 2) rfl ?_); refine box_event ?hg (N := 2) ?hd (cs := #[.int .i64 0, .slice none 0 0, .slice none 0 0, .int .i64 0]) (t := 31) ?hr ?_; (case hd => rfl); (case hg => rfl); (case hr => exact zq2); intro gb372 hg w5 hbox hb; have BK372 := Aside0.mk hbox; have GW372 := Aside0.mk (by rw [hg]; exact (below_size zq65) : w.heap.size ≤ gb372); have GE372 := Aside0.mk (by rw [hg]; exact (below_size zq65) : w.heap.size ≤ gb372); replace HB := sB zq65 hb; have NB371_372 := Aside0.mk (by rw [hg]; exact Nat.ne_of_lt (blk_lt (g := gb371) (o := .cells #[.int .i64 a0_0, .slice A0_1 l0_1.length c0_1, .slice A0_2 l0_2.length c0_2, .int .i64 a0_3] 31 (0, 0)) zq64) : gb371 ≠ gb372); have NB372_371 := Aside0.mk (by rw [hg]; exact Nat.ne_of_gt (blk_lt (g := gb371) (o := .cells #[.int .i64 a0_0, .slice A0_1 l0_1.length c0_1, .slice A0_2 l0_2.length c0_2, .int .i64 a0_3] 31 (0, 0)) zq64) : gb372 ≠ gb371); replace BK371 := bF BK371 zq64 hb; clear hb hbox hg) | ((with_reducible refine gate_dst (N := 3) rfl ?_); refine Kd.R_lit k66 _ 66 ?hg (N := 3) ?hd (xs := ([] : List (S66))) (inner := []) (ok := fun _ => True) (okp := fun _ => True) ?hr ?hp (fun _ hk => hk) trivial (Below.refl _ _) (Nat.le_refl _) (by simp) ?_; (case hd => rfl); (case hg => rfl); (case hr => exact zq2); (case hp => exact zq41); intro v374 w6 ho7 hb hg_ hnew_; clear hg_ hnew_; (first | rw [← Ny373.out] at ho7 | (simp only [Int.reduceToNat] at ho7; rw [← Ny373.out] at ho7)); have HO375 := Aside0.mk (Kd.R_lower ho7 (below_size zq66)); replace BK371 := bF BK371 zq64 hb; replace BK372 := bF BK372 zq67 hb; replace HB := sB zq66 hb; clear hb ho7; have hnb8 := NB371_372.out; have hnc8 := NB372_371.out; obtain ⟨hcz9_0, hcz9_1, hcz9_2, hcz9_3, hfz9_0, hfz9_1, hfz9_2, hfz9_3⟩ := c4 (w := w6) BK371) | ((with_reducible refine gate_builtin (b := .append) (xs := #[.tmp 3, .tmp 5]) rfl ?_); at_builtin; refine Kd.R_append_rows k66 (w0 := w) w.heap.size rfl (.tmp 3) (.tmp 5) 28 66 (.agg #[(.string ⟨#[]⟩), (.string ⟨#[]⟩)]) 32 rfl Try.underlying28 info66 rfl (by decide) (by omega) v374 y373 l0_1 _ _ _ (fun _ => True) (fun _ => False) rfl rfl ?aO ?aR (fun _ _ h => h) (fun _ h => h.elim) ?aF ?aB ?aS ?aL ?_; (case aR => exact zq11); (case aB => exact zq66); (case aF => exact zq39); (case aO => exact (by (with_reducible repeat (first | apply Kd.R_alloc | apply Kd.R_drewN | apply Kd.R_drew)); exact HO375.out)); (case aS => exact (below_size zq66)); (case aL => have := LMc2.out; omega); intro v377 w10 ho hb hg hat; rw [← Ny376.out] at ho; have n0_ := Aside0.mk (blk_grown (g := gb371) (o := .cells #[.int .i64 a0_0, .slice A0_1 l0_1.length c0_1, .slice A0_2 l0_2.length c0_2, .int .i64 a0_3] 31 (0, 0)) zq64 hg (Kd.R_ne HO375.out BK371.out (by decide))); have n1_ := Aside0.mk (blk_grown (g := gb372) (o := .cells #[.int .i64 0, .slice none 0 0, .slice none 0 0, .int .i64 0] 31 (0, 0)) zq67 hg (Kd.R_ne HO375.out BK372.out (by decide))); have n2_ := Aside0.mk (hb); have n3_ := Aside0.mk (ho); clear BK371; clear BK372; clear HB; clear HO375; have BK371 := n0_; have BK372 := n1_; have HB := n2_; have HO378 := n3_; clear n0_ n1_ n2_ n3_; clear ho hb hg hat; obtain ⟨Ao11, co11, eo11⟩ := Kd.R_slice HO378.out; subst eo11; obtain ⟨hcz12_0, hcz12_1, hcz12_2, hcz12_3, hfz12_0, hfz12_1, hfz12_2, hfz12_3⟩ := c4 (w := w10) BK371) | ((with_reducible refine gate_dst (N := 8) rfl ?_); refine Kd.R_lit k68 _ 68 ?hg (N := 8) ?hd (xs := ([] : List (S68))) (inner := []) (ok := fun _ => True) (okp := fun _ => True) ?hr ?hp (fun _ hk => hk) trivial (Below.refl _ _) (Nat.le_refl _) (by simp) ?_; (case hd => rfl); (case hg => rfl); (case hr => exact zq2); (case hp => exact zq41); intro v380 w13 ho14 hb hg_ hnew_; clear hg_ hnew_; (first | rw [← Ny379.out] at ho14 | (simp only [Int.reduceToNat] at ho14; rw [← Ny379.out] at ho14)); replace HO378 := rB (by (with_reducible repeat (first | apply Kd.R_alloc | apply Kd.R_drewN | apply Kd.R_drew)); exact (Kd.R_mono (Kd.R_far (p := ⟨gb371, 1, none⟩) (Kd.R_types HO378.out BK371.out (by decide)) (fun _ hk => hk.2) (.slice Ao11 y376.length co11)) (fun _ h_ => h_.1))) hb; have HO381 := Aside0.mk (Kd.R_lower ho14 (below_size zq66)); replace BK371 := bB (g := gb371) (o := .cells #[.int .i64 a0_0, .slice Ao11 y376.length co11, .slice A0_2 l0_2.length c0_2, .int .i64 a0_3] 31 (0, 0)) (by (with_reducible repeat (first | refine blk_drewN ?_ _ | refine blk_drew ?_ | refine blk_alloc ?_ _)); refine blk_put (cs := #[.int .i64 a0_0, .slice A0_1 l0_1.length c0_1, .slice A0_2 l0_2.length c0_2, .int .i64 a0_3]) ?_ 1 _ rfl; (with_reducible repeat (first | refine blk_drewN ?_ _ | refine blk_drew ?_ | refine blk_alloc ?_ _)); exact BK371.out) hb; replace BK372 := bF BK372 (by (with_reducible repeat (first | refine blk_drewN ?_ _ | refine blk_drew ?_ | refine blk_alloc ?_ _)); refine blk_far ?_ NB372_371.out _; (with_reducible repeat (first | refine blk_drewN ?_ _ | refine blk_drew ?_ | refine blk_alloc ?_ _)); exact BK372.out) hb; replace HB := sB zq66 hb; clear hb ho14; obtain ⟨hcz15_0, hcz15_1, hcz15_2, hcz15_3, hfz15_0, hfz15_1, hfz15_2, hfz15_3⟩ := c4 (w := w13) BK371) | ((with_reducible refine gate_builtin (b := .append) (xs := #[.tmp 8, .tmp 10]) rfl ?_); at_builtin; refine Kd.R_append_rows k68 (w0 := w) w.heap.size rfl (.tmp 8) (.tmp 10) 29 68 (.agg #[(.int .i64 0), (.string ⟨#[]⟩)]) 24 rfl Try.underlying29 info68 rfl (by decide) (by omega) v380 y379 l0_2 _ _ _ (fun _ => True) (fun _ => False) rfl rfl ?aO ?aR (fun _ _ h => h) (fun _ h => h.elim) ?aF ?aB ?aS ?aL ?_; (case aR => exact zq15); (case aB => exact zq66); (case aF => exact zq39); (case aO => exact zq68); (case aS => exact (below_size zq66)); (case aL => have := LMc3.out; omega); intro v383 w16 ho hb hg hat; rw [← Ny382.out] at ho; have n0_ := Aside0.mk (blk_grown (g := gb371) (o := .cells #[.int .i64 a0_0, .slice Ao11 y376.length co11, .slice A0_2 l0_2.length c0_2, .int .i64 a0_3] 31 (0, 0)) zq64 hg (Kd.R_ne HO381.out BK371.out (by decide))); have n1_ := Aside0.mk (blk_grown (g := gb372) (o := .cells #[.int .i64 0, .slice none 0 0, .slice none 0 0, .int .i64 0] 31 (0, 0)) zq67 hg (Kd.R_ne HO381.out BK372.out (by decide))); have n2_ := Aside0.mk (Kd.R_over' (by (with_reducible repeat (first | apply Kd.R_alloc | apply Kd.R_drewN | apply Kd.R_drew)); exact HO378.out) (Kd.R_typed zq68) (by decide) hg); have n3_ := Aside0.mk (hb); have n4_ := Aside0.mk (ho); clear BK371; clear BK372; clear HO378; clear HB; clear HO381; have BK371 := n0_; have BK372 := n1_; have HO378 := n2_; have HB := n3_; have HO384 := n4_; clear n0_ n1_ n2_ n3_ n4_; clear ho hb hg hat; obtain ⟨Ao17, co17, eo17⟩ := Kd.R_slice HO384.out; subst eo17; obtain ⟨hcz18_0, hcz18_1, hcz18_2, hcz18_3, hfz18_0, hfz18_1, hfz18_2, hfz18_3⟩ := c4 (w := w16) BK371; obtain ⟨hcz19_0, hcz19_1, hcz19_2, hcz19_3, hfz19_0, hfz19_1, hfz19_2, hfz19_3⟩ := c4 (w := w16) BK372))
   refine bodyPost_ret (results_cell_row rfl _ _ gb372 31 #[.int .i64 a0_0, .slice Ao11 y376.length co11, .slice Ao17 y382.length co17, .int .i64 a0_3] (0, 0) _ rfl (by (with_reducible repeat (first | refine blk_drewN ?_ _ | refine blk_drew ?_ | refine blk_alloc ?_ _)); refine blk_put (cs := #[.int .i64 a0_0, .slice Ao11 y376.length co11, .slice Ao17 y382.length co17, .int .i64 0]) ?_ 3 _ rfl; (with_reducible repeat (first | refine blk_drewN ?_ _ | refine blk_drew ?_ | refine blk_alloc ?_ _)); refine blk_put (cs := #[.int .i64 a0_0, .slice Ao11 y376.length co11, .slice none 0 0, .int .i64 0]) ?_ 2 _ rfl; (with_reducible repeat (first | refine blk_drewN ?_ _ | refine blk_drew ?_ | refine blk_alloc ?_ _)); refine blk_put (cs := #[.int .i64 a0_0, .slice none 0 0, .slice none 0 0, .int .i64 0]) ?_ 1 _ rfl; (with_reducible repeat (first | refine blk_drewN ?_ _ | refine blk_drew ?_ | refine blk_alloc ?_ _)); refine blk_put (cs := #[.int .i64 0, .slice none 0 0, .slice none 0 0, .int .i64 0]) ?_ 0 _ rfl; (with_reducible repeat (first | refine blk_drewN ?_ _ | refine blk_drew ?_ | refine blk_alloc ?_ _)); refine blk_far ?_ NB372_371.out _; (with_reducible repeat (first | refine blk_drewN ?_ _ | refine blk_drew ?_ | refine blk_alloc ?_ _)); exact BK372.out) Try.underlying31 rfl (by kernel_rfl)) rfl ?_
   exact ⟨_, _, zq4, by (with_reducible repeat (first | apply Kd.R_alloc | apply Kd.R_drewN | apply Kd.R_drew)); exact Kd.R_mono (Kd.R_far (p := ⟨gb372, 3, none⟩) (Kd.R_far (p := ⟨gb372, 2, none⟩) (Kd.R_far (p := ⟨gb372, 1, none⟩) (Kd.R_far (p := ⟨gb372, 0, none⟩) (Kd.R_far (p := ⟨gb371, 2, none⟩) (Kd.R_types (Kd.R_types HO378.out BK371.out (by decide)) BK372.out (by decide)) (fun _ hk => hk.1.2) (.slice Ao17 y382.length co17)) (fun _ hk => hk.2) (.int .i64 a0_0)) (fun _ hk => hk.2) (.slice Ao11 y376.length co11)) (fun _ hk => hk.2) (.slice Ao17 y382.length co17)) (fun _ hk => hk.2) (.int .i64 a0_3)) (fun _ hk => trivial), by (with_reducible repeat (first | apply Kd.R_alloc | apply Kd.R_drewN | apply Kd.R_drew)); exact Kd.R_mono (Kd.R_far (p := ⟨gb372, 3, none⟩) (Kd.R_far (p := ⟨gb372, 2, none⟩) (Kd.R_far (p := ⟨gb372, 1, none⟩) (Kd.R_far (p := ⟨gb372, 0, none⟩) (Kd.R_far (p := ⟨gb371, 2, none⟩) (Kd.R_types (Kd.R_types HO384.out BK371.out (by decide)) BK372.out (by decide)) (fun _ hk => hk.1.2) (.slice Ao17 y382.length co17)) (fun _ hk => hk.2) (.int .i64 a0_0)) (fun _ hk => hk.2) (.slice Ao11 y376.length co11)) (fun _ hk => hk.2) (.slice Ao17 y382.length co17)) (fun _ hk => hk.2) (.int .i64 a0_3)) (fun _ hk => trivial), zq66⟩
  exact zq310
 exact zq311

/-! ### impl_Blob: function 73 (walked by hand) -/
section
open Go.Proofs.Ytacaeebjanglgaa.Clear
def impl_Blob.f (l0 : List (S66)) (a1 : Int) (a2 : Int) : Option (List (S66)) := if 0 ≤ a1 ∧ a2 = a1 + 1 ∧ a2 ≤ (l0.length : Int) then some (l0.eraseIdx a1.toNat) else none
def impl_Blob.T5 : Bool × List (List Nat × List Nat) := (true, [([], []), ([], []), ([0, 1], [0, 1]), ([], []), ([], []), ([3, 4], [3, 4]), ([2, 5], [2, 5]), ([6, 6, 0, 1, 2, 3, 4, 5, 6], [0, 3, 6])])
def impl_Blob.B5 : List Nat := [0, 0, 3, 0, 0, 24, 63, 127]
theorem impl_Blob.tab5 : rtab .any (opsOf Try.f73 5) = impl_Blob.T5 := by kernel_rfl
theorem impl_Blob.bits5 : waitsOk impl_Blob.T5.2 impl_Blob.B5 = true := by kernel_rfl
set_option maxHeartbeats 8000000 in
theorem impl_Blob.calls (P0_ : Nat → Prop) (u9000_ : Value) (l0 : List (S66)) (a1 : Int) (a2 : Int) (r : List (S66)) (w0 w : World) (hB : Below w0.heap.size w0 w) (ho0 : Kd.R k66 66 w w0.heap.size P0_ u9000_ l0) (h : impl_Blob.f l0 a1 a2 = some r) :
  Calls Try.prog 73 #[u9000_, .int .i64 a1, .int .i64 a2] w fun e w' => ∃ v0_ : Value, e = .returned v0_ ∧ Kd.R k66 66 w' w0.heap.size (fun k_ => (P0_ k_ ∨ w.heap.size ≤ k_)) v0_ r ∧ Below w0.heap.size w0 w' ∧ Kept w w' (fun k_ => P0_ k_) := by
 unfold impl_Blob.f at h
 split at h
 case isFalse => exact absurd h (by simp)
 rename_i hg
 injection h with h
 subst h
 obtain ⟨h1, h2, h3⟩ := hg
 obtain ⟨g, cap, rfl, hbg, hgw, _⟩ := Kd.R_form ho0 (by omega)
 obtain ⟨_, hcap, hC⟩ := Kd.R_reads' ho0
 have HO := Aside0.mk ho0
 have HB := Aside0.mk hB
 have HBS := Aside0.mk hB.size
 have HBG := Aside0.mk hbg
 have HP := Aside0.mk (ho0.1 g (by simp [Value.ownBlock]))
 have H1 := Aside0.mk (show 0 ≤ a1 ∧ a2 = a1 + 1 ∧ a2 ≤ (l0.length : Int) ∧ l0.length ≤ cap from ⟨h1, h2, h3, hcap⟩)
 have s1 := eq_true h1
 have s2 := eq_true (show a1 ≤ a2 by omega)
 have s3 := eq_true h3
 have s4 := eq_true (show (l0.length : Int) ≤ (cap : Int) by omega)
 have s5 := eq_true (show a1 ≤ (l0.length : Int) by omega)
 have s6 : (a1 == a2) = false := by simp; omega
 have s7 := eq_true (show 0 ≤ a2 by omega)
 have s8 := eq_false (show ¬ l0.length = a1.toNat by omega)
 have s9 := eq_true (show a1 ≤ (cap : Int) by omega)
 have e2 := Aside0.mk (show a2.toNat = a1.toNat + 1 by omega)
 clear h1 h2 h3 hcap hC ho0 hB hbg hgw
 go_enter Try.func73, Try.ntmps73
 go_wp2
 refine start_ (n := 8) (S := fun w' => True) (ds := []) #[false, false, false, false, false, false, false, false] (by kernel_rfl) rfl rfl trivial (fun hHeld => ?_)
 refine with_tabW impl_Blob.tab5 impl_Blob.bits5 (fun HT_ HW_ => ?_)
 skip
 refine pure_ (i := 0) (N := some 20) (v := ?_) (a' := ?_) #[true, false, false, false, false, false, false, false] rfl rfl (any_of HT_.out (by kernel_rfl)) (fun _ _ _ h => h) (Or.inl ⟨by rfl, ?_⟩) ?_ ?_
 rotate_left
 exact zq314
 rotate_left
 exact zq315
 refine pure_ (i := 1) (N := some 21) (v := ?_) (a' := ?_) #[true, true, false, false, false, false, false, false] rfl rfl (any_of HT_.out (by kernel_rfl)) (fun _ _ _ h => h) (Or.inl ⟨by rfl, ?_⟩) ?_ ?_
 rotate_left
 exact zq314
 rotate_left
 exact zq315
 refine pure_ (i := 2) (N := some 22) (v := ?_) (a' := ?_) #[true, true, true, false, false, false, false, false] rfl rfl (any_of HT_.out (by kernel_rfl)) (fun _ _ _ h => h) (Or.inl ⟨by rfl, ?_⟩) ?_ ?_
 rotate_left
 exact zq314
 rotate_left
 exact zq315
 refine pure_ (i := 3) (N := some 23) (v := ?_) (a' := ?_) #[true, true, true, true, false, false, false, false] rfl rfl (any_of HT_.out (by kernel_rfl)) (fun _ _ _ h => h) (Or.inl ⟨by rfl, ?_⟩) ?_ ?_
 rotate_left
 exact zq314
 rotate_left
 exact zq315
 refine pure_ (i := 4) (N := some 24) (v := ?_) (a' := ?_) #[true, true, true, true, true, false, false, false] rfl rfl (any_of HT_.out (by kernel_rfl)) (fun _ _ _ h => h) (Or.inl ⟨by rfl, ?_⟩) ?_ ?_
 rotate_left
 exact zq314
 rotate_left
 exact zq315
 refine pure_ (i := 5) (N := some 25) (v := ?_) (a' := ?_) #[true, true, true, true, true, true, false, false] rfl rfl (any_of HT_.out (by kernel_rfl)) (fun _ _ _ h => h) (Or.inl ⟨by rfl, ?_⟩) ?_ ?_
 rotate_left
 exact zq314
 rotate_left
 exact zq315
 refine one_ (i := 6) (N := some 26) #[true, true, true, true, true, true, true, false] rfl rfl (one_of HT_.out (by kernel_rfl)) (by decide) (fun K hK => ?_)
 refine Kd.R_delete_step k66 (w0 := w0) w0.heap.size (by rfl) (.tmp 22) (.tmp 25) 28 66 rfl Try.underlying28 (by kernel_rfl) (g := g) (n := l0.length) (c := cap) (k := a1.toNat) rfl rfl ?hA ?hm (by (with_reducible repeat (first | apply Kd.R_alloc | apply Kd.R_drewN | apply Kd.R_drew)); exact HO.out) ?hk zq3 HBS.out ?_
 case hA =>
  rw [e2.out]
  split
  ·
   rfl
  show some _ = some (Addr.add _ ((a1.toNat + 1) * 2))
  unfold Addr.add
  rw [if_neg (by omega)]
  simp
 case hm => rw [e2.out]
 case hk => have := H1.out; omega
 intro w1 ho hb hg
 refine hK.out _ _ trivial (fun hHeld => ?_)
 clear hK K
 refine norm_ (a' := ?_) ?_ ?_
 rotate_left
 exact zq323
 refine pure_ (i := 7) (N := some 0) (v := ?_) (a' := ?_) #[true, true, true, true, true, true, true, true] rfl rfl (any_of HT_.out (by kernel_rfl)) (fun _ _ _ h => h) (Or.inl ⟨by rfl, ?_⟩) ?_ ?_
 rotate_left
 exact zq314
 rotate_left
 exact zq315
 refine done_ (done_of HT_.out (by kernel_rfl)) ?_
 generalize hA25 : (if cap = a2.toNat then (some ⟨g, 0, none⟩ : Option Addr) else some ⟨g, a2.toNat * 2, none⟩) = A25
 clear hA25
 generalize hn1 : l0.length - 1 = n1 at ho ⊢
 have hn2 := H1.out
 have t1 := eq_true (show n1 ≤ l0.length by omega)
 have t2 := eq_true (show l0.length ≤ cap by omega)
 have t3 := eq_false (show ¬ cap = n1 by omega)
 have t4 := Aside0.mk (show l0.length - n1 = 1 ∧ n1 < cap by omega)
 have HO1 := Aside0.mk ho
 have HB1 := Aside0.mk hb
 have HG1 := Aside0.mk hg
 clear hn1 hn2 ho hb hg HO HB
 go_wp2_with (first | ((with_reducible refine gate_builtin (b := .clear) (xs := #[.tmp 31]) rfl ?_); refine R_clear k66 (w0 := w0) w0.heap.size rfl (.tmp 31) 28 66 rfl Try.underlying28 (.agg #[.string ⟨#[]⟩, .string ⟨#[]⟩]) (by kernel_rfl) rfl (by simp [Value.cells]; decide) (by decide) (g := g) (n := n1) (c := cap) (c2 := cap - n1) ?hX HO1.out t4.out.2 HB1.out HBG.out ?_; (case hX => show Value.slice _ _ _ = _; rw [t4.out.1]; rfl); intro w2 ho2 hb2 hg2))
 all_goals
  go_ret
  exact ⟨_, rfl, Kd.R_mono ho2 (fun _ h => .inl h), hb2, ⟨Nat.le_trans HG1.out.size hg2.size, fun k hk hn => (hg2.block k (Nat.lt_of_lt_of_le hk HG1.out.size) (fun e => hn (by injection e with e; rw [e]; exact HP.out))).trans (HG1.out.block k hk (fun e => hn (by injection e with e; rw [e]; exact HP.out)))⟩⟩
end

/-! ### impl_DropBlob: function 38 -/
def impl_DropBlob.f (k : Nat) (a0_0 : Int) (l0_1 : List (S66)) (l0_2 : List (S68)) (a0_3 : Int) (a1 : ByteArray) : Option (Int × (List (S66)) × (List (S68)) × Int × Bool) := (impl_copyStore.f a0_0 l0_1 l0_2 a0_3).bind fun bt387 => ((impl_blobOf.f a0_0 l0_1 l0_2 a0_3 a1).bind fun bt396 => ((impl_isStore.f k a0_0 l0_1 l0_2 a0_3).bind fun t398 => (if t398 = true then (if bt396.2 = true then ((impl_Blob.f bt387.2.1 bt396.1 (wrap64 (bt396.1 + 1))).bind fun t399 => (some (bt387.1, t399, bt387.2.2.1, bt387.2.2.2, true))) else (some (0, ([] : List (S66)), ([] : List (S68)), 0, false))) else (some (0, ([] : List (S66)), ([] : List (S68)), 0, false)))))
theorem impl_DropBlob.mono : ∀ a0 a1 a2 a3 a4 k, LeO (impl_DropBlob.f k a0 a1 a2 a3 a4) (impl_DropBlob.f (k + 1) a0 a1 a2 a3 a4) := by
 intro a0 a1 a2 a3 a4 k
 unfold impl_DropBlob.f
 repeat' first
   | (with_reducible exact impl_isStore.mono _ _ _ _ _)
   | (with_reducible exact LeO.refl _)
   | (with_reducible exact LeO.none _)
   | (with_reducible refine LeO.ite ?_ ?_)
   | (with_reducible refine LeO.bind ?_ (fun _ => ?_))
   | exact LeO.none _
   | refine LeO.ite ?_ ?_
   | refine LeO.bind ?_ (fun _ => ?_)
set_option maxHeartbeats 8000000 in
set_option maxRecDepth 100000 in
theorem impl_DropBlob.calls (k : Nat) (a0_0 : Int) (A0_1 : Option Addr) (c0_1 : Nat) (l0_1 : List (S66)) (A0_2 : Option Addr) (c0_2 : Nat) (l0_2 : List (S68)) (a0_3 : Int) (a1 : ByteArray) (r1 : Int) (r2 : List (S66)) (r3 : List (S68)) (r4 : Int) (r5 : Bool) (w : World) (hr0_1 : Kd.C k66 w A0_1 l0_1.length l0_1) (hc0_1 : l0_1.length ≤ c0_1) (hr0_2 : Kd.C k68 w A0_2 l0_2.length l0_2) (hc0_2 : l0_2.length ≤ c0_2) (h : impl_DropBlob.f k a0_0 l0_1 l0_2 a0_3 a1 = some (r1, r2, r3, r4, r5)) :
  Calls Try.prog 38 #[.agg #[.int .i64 a0_0, .slice A0_1 l0_1.length c0_1, .slice A0_2 l0_2.length c0_2, .int .i64 a0_3], .string a1] w fun e w' => ∃ v1_ v2_ : Value, e = .returned (.tuple #[.agg #[.int .i64 r1, v1_, v2_, .int .i64 r4], .bool r5]) ∧ Kd.R k66 66 w' w.heap.size (fun _ => True) v1_ r2 ∧ Kd.R k68 68 w' w.heap.size (fun _ => True) v2_ r3 ∧ Below w.heap.size w w' := by
 have hu31 := Try.underlying31
 have HR0_1 := Aside0.mk hr0_1
 have HC0_1 := Aside0.mk hc0_1
 clear hr0_1 hc0_1
 have HR0_2 := Aside0.mk hr0_2
 have HC0_2 := Aside0.mk hc0_2
 clear hr0_2 hc0_2
 have HB := Aside0.mk (Below.refl w.heap.size w)
 have H : ((impl_copyStore.f a0_0 l0_1 l0_2 a0_3).bind fun bt387 => ((impl_blobOf.f a0_0 l0_1 l0_2 a0_3 a1).bind fun bt396 => ((impl_isStore.f k a0_0 l0_1 l0_2 a0_3).bind fun t398 => (if t398 = true then (if bt396.2 = true then ((impl_Blob.f bt387.2.1 bt396.1 (wrap64 (bt396.1 + 1))).bind fun t399 => (some (bt387.1, t399, bt387.2.2.1, bt387.2.2.2, true))) else (some (0, ([] : List (S66)), ([] : List (S68)), 0, false))) else (some (0, ([] : List (S66)), ([] : List (S68)), 0, false)))))) = some (r1, r2, r3, r4, r5) := h
 clear h
 replace H := Option.bind_eq_some_iff.mp H
 obtain ⟨⟨t387, t388, t391, t394⟩, A30, H⟩ := H
 replace H : ((impl_blobOf.f a0_0 l0_1 l0_2 a0_3 a1).bind fun bt396 => ((impl_isStore.f k a0_0 l0_1 l0_2 a0_3).bind fun t398 => (if t398 = true then (if bt396.2 = true then ((impl_Blob.f t388 bt396.1 (wrap64 (bt396.1 + 1))).bind fun t399 => (some (t387, t399, t391, t394, true))) else (some (0, ([] : List (S66)), ([] : List (S68)), 0, false))) else (some (0, ([] : List (S66)), ([] : List (S68)), 0, false))))) = some (r1, r2, r3, r4, r5) := H
 have A3 := Aside0.mk A30
 clear A30
 replace H := Option.bind_eq_some_iff.mp H
 obtain ⟨⟨t396, t397⟩, A40, H⟩ := H
 replace H : ((impl_isStore.f k a0_0 l0_1 l0_2 a0_3).bind fun t398 => (if t398 = true then (if t397 = true then ((impl_Blob.f t388 t396 (wrap64 (t396 + 1))).bind fun t399 => (some (t387, t399, t391, t394, true))) else (some (0, ([] : List (S66)), ([] : List (S68)), 0, false))) else (some (0, ([] : List (S66)), ([] : List (S68)), 0, false)))) = some (r1, r2, r3, r4, r5) := H
 have A4 := Aside0.mk A40
 clear A40
 replace H := Option.bind_eq_some_iff.mp H
 obtain ⟨t398, A50, H⟩ := H
 replace H : (if t398 = true then (if t397 = true then ((impl_Blob.f t388 t396 (wrap64 (t396 + 1))).bind fun t399 => (some (t387, t399, t391, t394, true))) else (some (0, ([] : List (S66)), ([] : List (S68)), 0, false))) else (some (0, ([] : List (S66)), ([] : List (S68)), 0, false))) = some (r1, r2, r3, r4, r5) := H
 have A5 := Aside0.mk A50
 clear A50
 by_cases c6 : t398 = true
 ·
  subst c6
  have H1 : (if t397 = true then ((impl_Blob.f t388 t396 (wrap64 (t396 + 1))).bind fun t399 => (some (t387, t399, t391, t394, true))) else (some (0, ([] : List (S66)), ([] : List (S68)), 0, false))) = some (r1, r2, r3, r4, r5) := by rw [if_pos rfl] at H; exact H
  clear H
  have H := H1
  clear H1
  by_cases c7 : t397 = true
  ·
   subst c7
   have H1 : ((impl_Blob.f t388 t396 (wrap64 (t396 + 1))).bind fun t399 => (some (t387, t399, t391, t394, true))) = some (r1, r2, r3, r4, r5) := by rw [if_pos rfl] at H; exact H
   clear H
   have H := H1
   clear H1
   replace H := Option.bind_eq_some_iff.mp H
   obtain ⟨t399, A80, H⟩ := H
   replace H : (some (t387, t399, t391, t394, true)) = some (r1, r2, r3, r4, r5) := H
   have A8 := Aside0.mk A80
   clear A80
   simp only [Option.some.injEq, Prod.mk.injEq] at H
   obtain ⟨rfl, rfl, rfl, rfl, rfl⟩ := H
   go_enter Try.func38, Try.ntmps38
   go_wp2_with (first | ((with_reducible refine gate_dst (N := 2) rfl ?_); refine box_event ?hg (N := 2) ?hd (cs := #[.int .i64 a0_0, .slice A0_1 l0_1.length c0_1, .slice A0_2 l0_2.length c0_2, .int .i64 a0_3]) (t := 31) ?hr ?_; (case hd => rfl); (case hg => rfl); (case hr => exact zq2); intro gb385 hg w9 hbox hb; have BK385 := Aside0.mk hbox; have GW385 := Aside0.mk (zq254 : w.heap.size ≤ gb385); have GE385 := Aside0.mk (zq254 : w.heap.size ≤ gb385); replace HB := sB zq3 hb; clear hb hbox hg) | ((with_reducible refine gate_dst (N := 4) rfl ?_); refine box_event ?hg (N := 4) ?hd (cs := #[.int .i64 0, .slice none 0 0, .slice none 0 0, .int .i64 0]) (t := 31) ?hr ?_; (case hd => rfl); (case hg => rfl); (case hr => exact zq2); intro gb386 hg w10 hbox hb; have BK386 := Aside0.mk hbox; have GW386 := Aside0.mk (zq271 : w.heap.size ≤ gb386); have GE386 := Aside0.mk (zq271 : w.heap.size ≤ gb386); replace HB := sB zq70 hb; have NB385_386 := Aside0.mk (zq272 : gb385 ≠ gb386); have NB386_385 := Aside0.mk (zq273 : gb386 ≠ gb385); replace BK385 := bF BK385 zq69 hb; clear hb hbox hg; have hnb11 := NB385_386.out; have hnc11 := NB386_385.out; obtain ⟨hcz12_0, hcz12_1, hcz12_2, hcz12_3, hfz12_0, hfz12_1, hfz12_2, hfz12_3⟩ := c4 (w := w10) BK385) | ((with_reducible refine gC 65 rfl ?_); refine gL 10 Try.func65 #[.agg #[.int .i64 a0_0, .slice A0_1 l0_1.length c0_1, .slice A0_2 l0_2.length c0_2, .int .i64 a0_3]] ?_; (with_reducible refine (impl_copyStore.calls a0_0 _ _ l0_1 _ _ l0_2 a0_3 t387 t388 t391 t394 _ ?_ ?_ ?_ ?_ A3.out).mono ?_); exact zq11; exact zq12; exact zq15; exact zq16; rintro e w13 ⟨v389, v392, rfl, ho0, ho1, hb⟩; refine ⟨_, rfl, ?_⟩; have HO390 := Aside0.mk (Kd.R_lower ho0 (below_size zq71)); have HO393 := Aside0.mk (Kd.R_lower ho1 (below_size zq71)); replace BK385 := bF BK385 zq69 hb; replace BK386 := bF BK386 zq72 hb; replace HB := sB zq71 hb; clear hb; (try clear ho0); (try clear ho1)) | ((with_reducible refine gate_dst (N := 6) rfl ?_); refine box_event ?hg (N := 6) ?hd (cs := #[.int .i64 0, .slice none 0 0, .slice none 0 0, .int .i64 0]) (t := 31) ?hr ?_; (case hd => rfl); (case hg => rfl); (case hr => exact zq2); intro gb395 hg w14 hbox hb; replace HO390 := rB zq73 hb; replace HO393 := rB zq74 hb; have BK395 := Aside0.mk hbox; have GW395 := Aside0.mk (zq274 : w.heap.size ≤ gb395); have GE395 := Aside0.mk (zq274 : w.heap.size ≤ gb395); replace HB := sB zq71 hb; have NB385_395 := Aside0.mk (zq272 : gb385 ≠ gb395); have NB395_385 := Aside0.mk (zq273 : gb395 ≠ gb385); replace BK385 := bF BK385 zq69 hb; have NB386_395 := Aside0.mk (zq275 : gb386 ≠ gb395); have NB395_386 := Aside0.mk (zq276 : gb395 ≠ gb386); replace BK386 := bF BK386 zq72 hb; clear hb hbox hg; have hnb15 := NB395_385.out; have hnc15 := NB385_395.out; have hnb16 := NB395_386.out; have hnc16 := NB386_395.out; obtain ⟨hcz17_0, hcz17_1, hcz17_2, hcz17_3, hfz17_0, hfz17_1, hfz17_2, hfz17_3⟩ := c4 (w := w14) BK395; obtain ⟨Ao18, co18, eo18⟩ := Kd.R_slice HO390.out; subst eo18; obtain ⟨Ao19, co19, eo19⟩ := Kd.R_slice HO393.out; subst eo19; obtain ⟨hcz20_0, hcz20_1, hcz20_2, hcz20_3, hfz20_0, hfz20_1, hfz20_2, hfz20_3⟩ := c4 (w := w14) BK385) | ((with_reducible refine gC 60 rfl ?_); refine gL 14 Try.func60 #[.agg #[.int .i64 a0_0, .slice A0_1 l0_1.length c0_1, .slice A0_2 l0_2.length c0_2, .int .i64 a0_3], .string a1] ?_; (with_reducible refine (impl_blobOf.calls a0_0 _ _ l0_1 _ _ l0_2 a0_3 a1 t396 true _ ?_ ?_ ?_ ?_ A4.out).mono ?_); exact zq277; exact zq12; exact zq278; exact zq16; rintro e w21 ⟨rfl, hb⟩; refine ⟨_, rfl, ?_⟩; replace HO390 := rB (by (with_reducible repeat (first | apply Kd.R_alloc | apply Kd.R_drewN | apply Kd.R_drew)); exact (Kd.R_mono (Kd.R_far (p := ⟨gb395, 3, none⟩) (Kd.R_far (p := ⟨gb395, 2, none⟩) (Kd.R_far (p := ⟨gb395, 1, none⟩) (Kd.R_far (p := ⟨gb395, 0, none⟩) (Kd.R_types HO390.out BK395.out (by decide)) (fun _ hk => hk.2) (.int .i64 t387)) (fun _ hk => hk.2) (.slice Ao18 t388.length co18)) (fun _ hk => hk.2) (.slice Ao19 t391.length co19)) (fun _ hk => hk.2) (.int .i64 t394)) (fun _ h_ => h_.1))) hb; replace HO393 := rB (by (with_reducible repeat (first | apply Kd.R_alloc | apply Kd.R_drewN | apply Kd.R_drew)); exact (Kd.R_mono (Kd.R_far (p := ⟨gb395, 3, none⟩) (Kd.R_far (p := ⟨gb395, 2, none⟩) (Kd.R_far (p := ⟨gb395, 1, none⟩) (Kd.R_far (p := ⟨gb395, 0, none⟩) (Kd.R_types HO393.out BK395.out (by decide)) (fun _ hk => hk.2) (.int .i64 t387)) (fun _ hk => hk.2) (.slice Ao18 t388.length co18)) (fun _ hk => hk.2) (.slice Ao19 t391.length co19)) (fun _ hk => hk.2) (.int .i64 t394)) (fun _ h_ => h_.1))) hb; replace BK385 := bF BK385 zq76 hb; replace BK386 := bF BK386 zq77 hb; replace BK395 := bB (g := gb395) (o := .cells #[.int .i64 t387, .slice Ao18 t388.length co18, .slice Ao19 t391.length co19, .int .i64 t394] 31 (0, 0)) (by (with_reducible repeat (first | refine blk_drewN ?_ _ | refine blk_drew ?_ | refine blk_alloc ?_ _)); refine blk_put (cs := #[.int .i64 t387, .slice Ao18 t388.length co18, .slice Ao19 t391.length co19, .int .i64 0]) ?_ 3 _ rfl; (with_reducible repeat (first | refine blk_drewN ?_ _ | refine blk_drew ?_ | refine blk_alloc ?_ _)); refine blk_put (cs := #[.int .i64 t387, .slice Ao18 t388.length co18, .slice none 0 0, .int .i64 0]) ?_ 2 _ rfl; (with_reducible repeat (first | refine blk_drewN ?_ _ | refine blk_drew ?_ | refine blk_alloc ?_ _)); refine blk_put (cs := #[.int .i64 t387, .slice none 0 0, .slice none 0 0, .int .i64 0]) ?_ 1 _ rfl; (with_reducible repeat (first | refine blk_drewN ?_ _ | refine blk_drew ?_ | refine blk_alloc ?_ _)); refine blk_put (cs := #[.int .i64 0, .slice none 0 0, .slice none 0 0, .int .i64 0]) ?_ 0 _ rfl; (with_reducible repeat (first | refine blk_drewN ?_ _ | refine blk_drew ?_ | refine blk_alloc ?_ _)); exact BK395.out) hb; replace HB := sB zq75 hb; clear hb; obtain ⟨hcz22_0, hcz22_1, hcz22_2, hcz22_3, hfz22_0, hfz22_1, hfz22_2, hfz22_3⟩ := c4 (w := w21) BK385) | ((with_reducible refine gC 55 rfl ?_); refine gL 18 Try.func55 #[.agg #[.int .i64 a0_0, .slice A0_1 l0_1.length c0_1, .slice A0_2 l0_2.length c0_2, .int .i64 a0_3]] ?_; (with_reducible refine (impl_isStore.calls k a0_0 _ _ l0_1 _ _ l0_2 a0_3 true _ ?_ ?_ ?_ ?_ A5.out).mono ?_); exact zq11; exact zq12; exact zq15; exact zq16; rintro e w23 ⟨rfl, hb⟩; refine ⟨_, rfl, ?_⟩; replace HO390 := rB zq73 hb; replace HO393 := rB zq74 hb; replace BK385 := bF BK385 zq69 hb; replace BK386 := bF BK386 zq72 hb; replace BK395 := bF BK395 zq78 hb; replace HB := sB zq75 hb; clear hb; obtain ⟨hcz24_0, hcz24_1, hcz24_2, hcz24_3, hfz24_0, hfz24_1, hfz24_2, hfz24_3⟩ := c4 (w := w23) BK395) | ((with_reducible refine gC 73 rfl ?_); refine gL 30 Try.func73 #[.slice Ao18 t388.length co18, .int .i64 t396, .int .i64 (wrap64 (t396 + 1))] ?_; (with_reducible refine (impl_Blob.calls (fun k_ => some k_ = (.slice Ao18 t388.length co18 : Value).ownBlock) (.slice Ao18 t388.length co18) t388 t396 (wrap64 (t396 + 1)) t399 w _ ?_ ?_ A8.out).mono ?_); exact zq75; exact Kd.R_tight rfl HO390.out; rintro e w25 ⟨v400, rfl, ho0, hb, hkp⟩; refine ⟨_, rfl, ?_⟩; have n0_ := Aside0.mk (blk_kept (by first | with_reducible exact BK385.out | exact blk_drewN BK385.out _ | exact blk_drewN (blk_drewN BK385.out _) _ | ((with_reducible repeat (first | refine blk_drewN ?_ _ | refine blk_drew ?_ | refine blk_alloc ?_ _)); exact BK385.out)) hkp (fun hs_ => (fun e_ => (Kd.R_ne HO390.out BK385.out (by decide)) e_) hs_)); have n1_ := Aside0.mk (blk_kept (by first | with_reducible exact BK386.out | exact blk_drewN BK386.out _ | exact blk_drewN (blk_drewN BK386.out _) _ | ((with_reducible repeat (first | refine blk_drewN ?_ _ | refine blk_drew ?_ | refine blk_alloc ?_ _)); exact BK386.out)) hkp (fun hs_ => (fun e_ => (Kd.R_ne HO390.out BK386.out (by decide)) e_) hs_)); have n2_ := Aside0.mk (Kd.R_mono (ok' := fun k_ => True) (Kd.R_keptB ((Kd.R_apart' HO393.out (Kd.R_typed HO390.out) (by decide))) hkp (fun k_ hk_ hs_ => by first | exact (hk_.2) hs_ | simp_all)) (fun k_ hk_ => trivial)); have n3_ := Aside0.mk (blk_kept (by first | with_reducible exact BK395.out | exact blk_drewN BK395.out _ | exact blk_drewN (blk_drewN BK395.out _) _ | ((with_reducible repeat (first | refine blk_drewN ?_ _ | refine blk_drew ?_ | refine blk_alloc ?_ _)); exact BK395.out)) hkp (fun hs_ => (fun e_ => (Kd.R_ne HO390.out BK395.out (by decide)) e_) hs_)); have n4_ := Aside0.mk (Kd.R_mono (ok' := fun k_ => True) ho0 (fun k_ hk_ => trivial)); have n5_ := Aside0.mk (hb); clear BK385; clear BK386; clear HO393; clear BK395; clear HB; clear HO390; have BK385 := n0_; have BK386 := n1_; have HO393 := n2_; have BK395 := n3_; have HO401 := n4_; have HB := n5_; clear n0_ n1_ n2_ n3_ n4_ n5_; clear hb; (try clear hkp); (try clear ho0); obtain ⟨Ao26, co26, eo26⟩ := Kd.R_slice HO401.out; subst eo26; obtain ⟨hcz27_0, hcz27_1, hcz27_2, hcz27_3, hfz27_0, hfz27_1, hfz27_2, hfz27_3⟩ := c4 (w := w25) BK395; obtain ⟨hcz28_0, hcz28_1, hcz28_2, hcz28_3, hfz28_0, hfz28_1, hfz28_2, hfz28_3⟩ := c4 (w := w25) BK386))
   refine bodyPost_ret (results_ct rfl _ _ gb386 31 #[.int .i64 t387, .slice Ao26 t399.length co26, .slice Ao19 t391.length co19, .int .i64 t394] (0, 0) _ rfl (by (with_reducible repeat (first | refine blk_drewN ?_ _ | refine blk_drew ?_ | refine blk_alloc ?_ _)); refine blk_put (cs := #[.int .i64 t387, .slice Ao26 t399.length co26, .slice Ao19 t391.length co19, .int .i64 0]) ?_ 3 _ rfl; (with_reducible repeat (first | refine blk_drewN ?_ _ | refine blk_drew ?_ | refine blk_alloc ?_ _)); refine blk_put (cs := #[.int .i64 t387, .slice Ao26 t399.length co26, .slice none 0 0, .int .i64 0]) ?_ 2 _ rfl; (with_reducible repeat (first | refine blk_drewN ?_ _ | refine blk_drew ?_ | refine blk_alloc ?_ _)); refine blk_put (cs := #[.int .i64 t387, .slice none 0 0, .slice none 0 0, .int .i64 0]) ?_ 1 _ rfl; (with_reducible repeat (first | refine blk_drewN ?_ _ | refine blk_drew ?_ | refine blk_alloc ?_ _)); refine blk_put (cs := #[.int .i64 0, .slice none 0 0, .slice none 0 0, .int .i64 0]) ?_ 0 _ rfl; (with_reducible repeat (first | refine blk_drewN ?_ _ | refine blk_drew ?_ | refine blk_alloc ?_ _)); refine blk_far ?_ NB386_395.out _; (with_reducible repeat (first | refine blk_drewN ?_ _ | refine blk_drew ?_ | refine blk_alloc ?_ _)); exact BK386.out) Try.underlying31 rfl (by kernel_rfl)) rfl ?_
   exact ⟨_, _, zq4, by (with_reducible repeat (first | apply Kd.R_alloc | apply Kd.R_drewN | apply Kd.R_drew)); exact Kd.R_mono (Kd.R_far (p := ⟨gb386, 3, none⟩) (Kd.R_far (p := ⟨gb386, 2, none⟩) (Kd.R_far (p := ⟨gb386, 1, none⟩) (Kd.R_far (p := ⟨gb386, 0, none⟩) (Kd.R_far (p := ⟨gb395, 1, none⟩) (Kd.R_types (Kd.R_types HO401.out BK395.out (by decide)) BK386.out (by decide)) (fun _ hk => hk.1.2) (.slice Ao26 t399.length co26)) (fun _ hk => hk.2) (.int .i64 t387)) (fun _ hk => hk.2) (.slice Ao26 t399.length co26)) (fun _ hk => hk.2) (.slice Ao19 t391.length co19)) (fun _ hk => hk.2) (.int .i64 t394)) (fun _ hk => trivial), by (with_reducible repeat (first | apply Kd.R_alloc | apply Kd.R_drewN | apply Kd.R_drew)); exact Kd.R_mono (Kd.R_far (p := ⟨gb386, 3, none⟩) (Kd.R_far (p := ⟨gb386, 2, none⟩) (Kd.R_far (p := ⟨gb386, 1, none⟩) (Kd.R_far (p := ⟨gb386, 0, none⟩) (Kd.R_far (p := ⟨gb395, 1, none⟩) (Kd.R_types (Kd.R_types HO393.out BK395.out (by decide)) BK386.out (by decide)) (fun _ hk => hk.1.2) (.slice Ao26 t399.length co26)) (fun _ hk => hk.2) (.int .i64 t387)) (fun _ hk => hk.2) (.slice Ao26 t399.length co26)) (fun _ hk => hk.2) (.slice Ao19 t391.length co19)) (fun _ hk => hk.2) (.int .i64 t394)) (fun _ hk => trivial), zq75⟩
  replace c7 := Bool.eq_false_iff.mpr c7
  subst c7
  have H1 : (some (0, ([] : List (S66)), ([] : List (S68)), 0, false)) = some (r1, r2, r3, r4, r5) := by rw [if_neg (show ¬ (false = true) by decide)] at H; exact H
  clear H
  have H := H1
  clear H1
  simp only [Option.some.injEq, Prod.mk.injEq] at H
  obtain ⟨rfl, rfl, rfl, rfl, rfl⟩ := H
  go_enter Try.func38, Try.ntmps38
  go_wp2_with (first | ((with_reducible refine gate_dst (N := 2) rfl ?_); refine box_event ?hg (N := 2) ?hd (cs := #[.int .i64 a0_0, .slice A0_1 l0_1.length c0_1, .slice A0_2 l0_2.length c0_2, .int .i64 a0_3]) (t := 31) ?hr ?_; (case hd => rfl); (case hg => rfl); (case hr => exact zq2); intro gb385 hg w29 hbox hb; have BK385 := Aside0.mk hbox; have GW385 := Aside0.mk (zq254 : w.heap.size ≤ gb385); have GE385 := Aside0.mk (zq254 : w.heap.size ≤ gb385); replace HB := sB zq3 hb; clear hb hbox hg) | ((with_reducible refine gate_dst (N := 4) rfl ?_); refine box_event ?hg (N := 4) ?hd (cs := #[.int .i64 0, .slice none 0 0, .slice none 0 0, .int .i64 0]) (t := 31) ?hr ?_; (case hd => rfl); (case hg => rfl); (case hr => exact zq2); intro gb386 hg w30 hbox hb; have BK386 := Aside0.mk hbox; have GW386 := Aside0.mk (zq271 : w.heap.size ≤ gb386); have GE386 := Aside0.mk (zq271 : w.heap.size ≤ gb386); replace HB := sB zq70 hb; have NB385_386 := Aside0.mk (zq272 : gb385 ≠ gb386); have NB386_385 := Aside0.mk (zq273 : gb386 ≠ gb385); replace BK385 := bF BK385 zq69 hb; clear hb hbox hg; have hnb31 := NB385_386.out; have hnc31 := NB386_385.out; obtain ⟨hcz32_0, hcz32_1, hcz32_2, hcz32_3, hfz32_0, hfz32_1, hfz32_2, hfz32_3⟩ := c4 (w := w30) BK385) | ((with_reducible refine gC 65 rfl ?_); refine gL 10 Try.func65 #[.agg #[.int .i64 a0_0, .slice A0_1 l0_1.length c0_1, .slice A0_2 l0_2.length c0_2, .int .i64 a0_3]] ?_; (with_reducible refine (impl_copyStore.calls a0_0 _ _ l0_1 _ _ l0_2 a0_3 t387 t388 t391 t394 _ ?_ ?_ ?_ ?_ A3.out).mono ?_); exact zq11; exact zq12; exact zq15; exact zq16; rintro e w33 ⟨v389, v392, rfl, ho0, ho1, hb⟩; refine ⟨_, rfl, ?_⟩; have HO390 := Aside0.mk (Kd.R_lower ho0 (below_size zq71)); have HO393 := Aside0.mk (Kd.R_lower ho1 (below_size zq71)); replace BK385 := bF BK385 zq69 hb; replace BK386 := bF BK386 zq72 hb; replace HB := sB zq71 hb; clear hb; (try clear ho0); (try clear ho1)) | ((with_reducible refine gate_dst (N := 6) rfl ?_); refine box_event ?hg (N := 6) ?hd (cs := #[.int .i64 0, .slice none 0 0, .slice none 0 0, .int .i64 0]) (t := 31) ?hr ?_; (case hd => rfl); (case hg => rfl); (case hr => exact zq2); intro gb395 hg w34 hbox hb; replace HO390 := rB zq73 hb; replace HO393 := rB zq74 hb; have BK395 := Aside0.mk hbox; have GW395 := Aside0.mk (zq274 : w.heap.size ≤ gb395); have GE395 := Aside0.mk (zq274 : w.heap.size ≤ gb395); replace HB := sB zq71 hb; have NB385_395 := Aside0.mk (zq272 : gb385 ≠ gb395); have NB395_385 := Aside0.mk (zq273 : gb395 ≠ gb385); replace BK385 := bF BK385 zq69 hb; have NB386_395 := Aside0.mk (zq275 : gb386 ≠ gb395); have NB395_386 := Aside0.mk (zq276 : gb395 ≠ gb386); replace BK386 := bF BK386 zq72 hb; clear hb hbox hg; have hnb35 := NB395_385.out; have hnc35 := NB385_395.out; have hnb36 := NB395_386.out; have hnc36 := NB386_395.out; obtain ⟨hcz37_0, hcz37_1, hcz37_2, hcz37_3, hfz37_0, hfz37_1, hfz37_2, hfz37_3⟩ := c4 (w := w34) BK395; obtain ⟨Ao38, co38, eo38⟩ := Kd.R_slice HO390.out; subst eo38; obtain ⟨Ao39, co39, eo39⟩ := Kd.R_slice HO393.out; subst eo39; obtain ⟨hcz40_0, hcz40_1, hcz40_2, hcz40_3, hfz40_0, hfz40_1, hfz40_2, hfz40_3⟩ := c4 (w := w34) BK385) | ((with_reducible refine gC 60 rfl ?_); refine gL 14 Try.func60 #[.agg #[.int .i64 a0_0, .slice A0_1 l0_1.length c0_1, .slice A0_2 l0_2.length c0_2, .int .i64 a0_3], .string a1] ?_; (with_reducible refine (impl_blobOf.calls a0_0 _ _ l0_1 _ _ l0_2 a0_3 a1 t396 false _ ?_ ?_ ?_ ?_ A4.out).mono ?_); exact zq277; exact zq12; exact zq278; exact zq16; rintro e w41 ⟨rfl, hb⟩; refine ⟨_, rfl, ?_⟩; replace HO390 := rB (by (with_reducible repeat (first | apply Kd.R_alloc | apply Kd.R_drewN | apply Kd.R_drew)); exact (Kd.R_mono (Kd.R_far (p := ⟨gb395, 3, none⟩) (Kd.R_far (p := ⟨gb395, 2, none⟩) (Kd.R_far (p := ⟨gb395, 1, none⟩) (Kd.R_far (p := ⟨gb395, 0, none⟩) (Kd.R_types HO390.out BK395.out (by decide)) (fun _ hk => hk.2) (.int .i64 t387)) (fun _ hk => hk.2) (.slice Ao38 t388.length co38)) (fun _ hk => hk.2) (.slice Ao39 t391.length co39)) (fun _ hk => hk.2) (.int .i64 t394)) (fun _ h_ => h_.1))) hb; replace HO393 := rB (by (with_reducible repeat (first | apply Kd.R_alloc | apply Kd.R_drewN | apply Kd.R_drew)); exact (Kd.R_mono (Kd.R_far (p := ⟨gb395, 3, none⟩) (Kd.R_far (p := ⟨gb395, 2, none⟩) (Kd.R_far (p := ⟨gb395, 1, none⟩) (Kd.R_far (p := ⟨gb395, 0, none⟩) (Kd.R_types HO393.out BK395.out (by decide)) (fun _ hk => hk.2) (.int .i64 t387)) (fun _ hk => hk.2) (.slice Ao38 t388.length co38)) (fun _ hk => hk.2) (.slice Ao39 t391.length co39)) (fun _ hk => hk.2) (.int .i64 t394)) (fun _ h_ => h_.1))) hb; replace BK385 := bF BK385 zq76 hb; replace BK386 := bF BK386 zq77 hb; replace BK395 := bB (g := gb395) (o := .cells #[.int .i64 t387, .slice Ao38 t388.length co38, .slice Ao39 t391.length co39, .int .i64 t394] 31 (0, 0)) (by (with_reducible repeat (first | refine blk_drewN ?_ _ | refine blk_drew ?_ | refine blk_alloc ?_ _)); refine blk_put (cs := #[.int .i64 t387, .slice Ao38 t388.length co38, .slice Ao39 t391.length co39, .int .i64 0]) ?_ 3 _ rfl; (with_reducible repeat (first | refine blk_drewN ?_ _ | refine blk_drew ?_ | refine blk_alloc ?_ _)); refine blk_put (cs := #[.int .i64 t387, .slice Ao38 t388.length co38, .slice none 0 0, .int .i64 0]) ?_ 2 _ rfl; (with_reducible repeat (first | refine blk_drewN ?_ _ | refine blk_drew ?_ | refine blk_alloc ?_ _)); refine blk_put (cs := #[.int .i64 t387, .slice none 0 0, .slice none 0 0, .int .i64 0]) ?_ 1 _ rfl; (with_reducible repeat (first | refine blk_drewN ?_ _ | refine blk_drew ?_ | refine blk_alloc ?_ _)); refine blk_put (cs := #[.int .i64 0, .slice none 0 0, .slice none 0 0, .int .i64 0]) ?_ 0 _ rfl; (with_reducible repeat (first | refine blk_drewN ?_ _ | refine blk_drew ?_ | refine blk_alloc ?_ _)); exact BK395.out) hb; replace HB := sB zq75 hb; clear hb; obtain ⟨hcz42_0, hcz42_1, hcz42_2, hcz42_3, hfz42_0, hfz42_1, hfz42_2, hfz42_3⟩ := c4 (w := w41) BK385) | ((with_reducible refine gC 55 rfl ?_); refine gL 18 Try.func55 #[.agg #[.int .i64 a0_0, .slice A0_1 l0_1.length c0_1, .slice A0_2 l0_2.length c0_2, .int .i64 a0_3]] ?_; (with_reducible refine (impl_isStore.calls k a0_0 _ _ l0_1 _ _ l0_2 a0_3 true _ ?_ ?_ ?_ ?_ A5.out).mono ?_); exact zq11; exact zq12; exact zq15; exact zq16; rintro e w43 ⟨rfl, hb⟩; refine ⟨_, rfl, ?_⟩; replace HO390 := rB zq73 hb; replace HO393 := rB zq74 hb; replace BK385 := bF BK385 zq69 hb; replace BK386 := bF BK386 zq72 hb; replace BK395 := bF BK395 zq78 hb; replace HB := sB zq75 hb; clear hb; obtain ⟨hcz44_0, hcz44_1, hcz44_2, hcz44_3, hfz44_0, hfz44_1, hfz44_2, hfz44_3⟩ := c4 (w := w43) BK386))
  refine bodyPost_ret (results_ct rfl _ _ gb386 31 #[.int .i64 0, .slice none 0 0, .slice none 0 0, .int .i64 0] (0, 0) _ rfl zq79 Try.underlying31 rfl (by kernel_rfl)) rfl ?_
  exact ⟨_, _, zq4, zq80, zq80, zq75⟩
 replace c6 := Bool.eq_false_iff.mpr c6
 subst c6
 have H1 : (some (0, ([] : List (S66)), ([] : List (S68)), 0, false)) = some (r1, r2, r3, r4, r5) := by rw [if_neg (show ¬ (false = true) by decide)] at H; exact H
 clear H
 have H := H1
 clear H1
 simp only [Option.some.injEq, Prod.mk.injEq] at H
 obtain ⟨rfl, rfl, rfl, rfl, rfl⟩ := H
 go_enter Try.func38, Try.ntmps38
 go_wp2_with (first | ((with_reducible refine gate_dst (N := 2) rfl ?_); refine box_event ?hg (N := 2) ?hd (cs := #[.int .i64 a0_0, .slice A0_1 l0_1.length c0_1, .slice A0_2 l0_2.length c0_2, .int .i64 a0_3]) (t := 31) ?hr ?_; (case hd => rfl); (case hg => rfl); (case hr => exact zq2); intro gb385 hg w45 hbox hb; have BK385 := Aside0.mk hbox; have GW385 := Aside0.mk (zq254 : w.heap.size ≤ gb385); have GE385 := Aside0.mk (zq254 : w.heap.size ≤ gb385); replace HB := sB zq3 hb; clear hb hbox hg) | ((with_reducible refine gate_dst (N := 4) rfl ?_); refine box_event ?hg (N := 4) ?hd (cs := #[.int .i64 0, .slice none 0 0, .slice none 0 0, .int .i64 0]) (t := 31) ?hr ?_; (case hd => rfl); (case hg => rfl); (case hr => exact zq2); intro gb386 hg w46 hbox hb; have BK386 := Aside0.mk hbox; have GW386 := Aside0.mk (zq271 : w.heap.size ≤ gb386); have GE386 := Aside0.mk (zq271 : w.heap.size ≤ gb386); replace HB := sB zq70 hb; have NB385_386 := Aside0.mk (zq272 : gb385 ≠ gb386); have NB386_385 := Aside0.mk (zq273 : gb386 ≠ gb385); replace BK385 := bF BK385 zq69 hb; clear hb hbox hg; have hnb47 := NB385_386.out; have hnc47 := NB386_385.out; obtain ⟨hcz48_0, hcz48_1, hcz48_2, hcz48_3, hfz48_0, hfz48_1, hfz48_2, hfz48_3⟩ := c4 (w := w46) BK385) | ((with_reducible refine gC 65 rfl ?_); refine gL 10 Try.func65 #[.agg #[.int .i64 a0_0, .slice A0_1 l0_1.length c0_1, .slice A0_2 l0_2.length c0_2, .int .i64 a0_3]] ?_; (with_reducible refine (impl_copyStore.calls a0_0 _ _ l0_1 _ _ l0_2 a0_3 t387 t388 t391 t394 _ ?_ ?_ ?_ ?_ A3.out).mono ?_); exact zq11; exact zq12; exact zq15; exact zq16; rintro e w49 ⟨v389, v392, rfl, ho0, ho1, hb⟩; refine ⟨_, rfl, ?_⟩; have HO390 := Aside0.mk (Kd.R_lower ho0 (below_size zq71)); have HO393 := Aside0.mk (Kd.R_lower ho1 (below_size zq71)); replace BK385 := bF BK385 zq69 hb; replace BK386 := bF BK386 zq72 hb; replace HB := sB zq71 hb; clear hb; (try clear ho0); (try clear ho1)) | ((with_reducible refine gate_dst (N := 6) rfl ?_); refine box_event ?hg (N := 6) ?hd (cs := #[.int .i64 0, .slice none 0 0, .slice none 0 0, .int .i64 0]) (t := 31) ?hr ?_; (case hd => rfl); (case hg => rfl); (case hr => exact zq2); intro gb395 hg w50 hbox hb; replace HO390 := rB zq73 hb; replace HO393 := rB zq74 hb; have BK395 := Aside0.mk hbox; have GW395 := Aside0.mk (zq274 : w.heap.size ≤ gb395); have GE395 := Aside0.mk (zq274 : w.heap.size ≤ gb395); replace HB := sB zq71 hb; have NB385_395 := Aside0.mk (zq272 : gb385 ≠ gb395); have NB395_385 := Aside0.mk (zq273 : gb395 ≠ gb385); replace BK385 := bF BK385 zq69 hb; have NB386_395 := Aside0.mk (zq275 : gb386 ≠ gb395); have NB395_386 := Aside0.mk (zq276 : gb395 ≠ gb386); replace BK386 := bF BK386 zq72 hb; clear hb hbox hg; have hnb51 := NB395_385.out; have hnc51 := NB385_395.out; have hnb52 := NB395_386.out; have hnc52 := NB386_395.out; obtain ⟨hcz53_0, hcz53_1, hcz53_2, hcz53_3, hfz53_0, hfz53_1, hfz53_2, hfz53_3⟩ := c4 (w := w50) BK395; obtain ⟨Ao54, co54, eo54⟩ := Kd.R_slice HO390.out; subst eo54; obtain ⟨Ao55, co55, eo55⟩ := Kd.R_slice HO393.out; subst eo55; obtain ⟨hcz56_0, hcz56_1, hcz56_2, hcz56_3, hfz56_0, hfz56_1, hfz56_2, hfz56_3⟩ := c4 (w := w50) BK385) | ((with_reducible refine gC 60 rfl ?_); refine gL 14 Try.func60 #[.agg #[.int .i64 a0_0, .slice A0_1 l0_1.length c0_1, .slice A0_2 l0_2.length c0_2, .int .i64 a0_3], .string a1] ?_; (with_reducible refine (impl_blobOf.calls a0_0 _ _ l0_1 _ _ l0_2 a0_3 a1 t396 t397 _ ?_ ?_ ?_ ?_ A4.out).mono ?_); exact zq277; exact zq12; exact zq278; exact zq16; rintro e w57 ⟨rfl, hb⟩; refine ⟨_, rfl, ?_⟩; replace HO390 := rB (by (with_reducible repeat (first | apply Kd.R_alloc | apply Kd.R_drewN | apply Kd.R_drew)); exact (Kd.R_mono (Kd.R_far (p := ⟨gb395, 3, none⟩) (Kd.R_far (p := ⟨gb395, 2, none⟩) (Kd.R_far (p := ⟨gb395, 1, none⟩) (Kd.R_far (p := ⟨gb395, 0, none⟩) (Kd.R_types HO390.out BK395.out (by decide)) (fun _ hk => hk.2) (.int .i64 t387)) (fun _ hk => hk.2) (.slice Ao54 t388.length co54)) (fun _ hk => hk.2) (.slice Ao55 t391.length co55)) (fun _ hk => hk.2) (.int .i64 t394)) (fun _ h_ => h_.1))) hb; replace HO393 := rB (by (with_reducible repeat (first | apply Kd.R_alloc | apply Kd.R_drewN | apply Kd.R_drew)); exact (Kd.R_mono (Kd.R_far (p := ⟨gb395, 3, none⟩) (Kd.R_far (p := ⟨gb395, 2, none⟩) (Kd.R_far (p := ⟨gb395, 1, none⟩) (Kd.R_far (p := ⟨gb395, 0, none⟩) (Kd.R_types HO393.out BK395.out (by decide)) (fun _ hk => hk.2) (.int .i64 t387)) (fun _ hk => hk.2) (.slice Ao54 t388.length co54)) (fun _ hk => hk.2) (.slice Ao55 t391.length co55)) (fun _ hk => hk.2) (.int .i64 t394)) (fun _ h_ => h_.1))) hb; replace BK385 := bF BK385 zq76 hb; replace BK386 := bF BK386 zq77 hb; replace BK395 := bB (g := gb395) (o := .cells #[.int .i64 t387, .slice Ao54 t388.length co54, .slice Ao55 t391.length co55, .int .i64 t394] 31 (0, 0)) (by (with_reducible repeat (first | refine blk_drewN ?_ _ | refine blk_drew ?_ | refine blk_alloc ?_ _)); refine blk_put (cs := #[.int .i64 t387, .slice Ao54 t388.length co54, .slice Ao55 t391.length co55, .int .i64 0]) ?_ 3 _ rfl; (with_reducible repeat (first | refine blk_drewN ?_ _ | refine blk_drew ?_ | refine blk_alloc ?_ _)); refine blk_put (cs := #[.int .i64 t387, .slice Ao54 t388.length co54, .slice none 0 0, .int .i64 0]) ?_ 2 _ rfl; (with_reducible repeat (first | refine blk_drewN ?_ _ | refine blk_drew ?_ | refine blk_alloc ?_ _)); refine blk_put (cs := #[.int .i64 t387, .slice none 0 0, .slice none 0 0, .int .i64 0]) ?_ 1 _ rfl; (with_reducible repeat (first | refine blk_drewN ?_ _ | refine blk_drew ?_ | refine blk_alloc ?_ _)); refine blk_put (cs := #[.int .i64 0, .slice none 0 0, .slice none 0 0, .int .i64 0]) ?_ 0 _ rfl; (with_reducible repeat (first | refine blk_drewN ?_ _ | refine blk_drew ?_ | refine blk_alloc ?_ _)); exact BK395.out) hb; replace HB := sB zq75 hb; clear hb; obtain ⟨hcz58_0, hcz58_1, hcz58_2, hcz58_3, hfz58_0, hfz58_1, hfz58_2, hfz58_3⟩ := c4 (w := w57) BK385) | ((with_reducible refine gC 55 rfl ?_); refine gL 18 Try.func55 #[.agg #[.int .i64 a0_0, .slice A0_1 l0_1.length c0_1, .slice A0_2 l0_2.length c0_2, .int .i64 a0_3]] ?_; (with_reducible refine (impl_isStore.calls k a0_0 _ _ l0_1 _ _ l0_2 a0_3 false _ ?_ ?_ ?_ ?_ A5.out).mono ?_); exact zq11; exact zq12; exact zq15; exact zq16; rintro e w59 ⟨rfl, hb⟩; refine ⟨_, rfl, ?_⟩; replace HO390 := rB zq73 hb; replace HO393 := rB zq74 hb; replace BK385 := bF BK385 zq69 hb; replace BK386 := bF BK386 zq72 hb; replace BK395 := bF BK395 zq78 hb; replace HB := sB zq75 hb; clear hb; obtain ⟨hcz60_0, hcz60_1, hcz60_2, hcz60_3, hfz60_0, hfz60_1, hfz60_2, hfz60_3⟩ := c4 (w := w59) BK386))
 refine bodyPost_ret (results_ct rfl _ _ gb386 31 #[.int .i64 0, .slice none 0 0, .slice none 0 0, .int .i64 0] (0, 0) _ rfl zq79 Try.underlying31 rfl (by kernel_rfl)) rfl ?_
 exact ⟨_, _, zq4, zq80, zq80, zq75⟩

end Go.Proofs.Ytacaeebjanglgaa.QFnExactDropBlob
