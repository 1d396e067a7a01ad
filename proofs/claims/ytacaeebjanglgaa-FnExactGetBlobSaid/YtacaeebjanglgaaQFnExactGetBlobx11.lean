/- Written by wip/myprint.py of this repo (the kit's print, with additions of this session). -/
import Derived.Test.YtacaeebjanglgaaQFnExactGetBlobx0
import Derived.Test.YtacaeebjanglgaaQFnExactGetBlobx1
import Derived.Test.YtacaeebjanglgaaQFnExactGetBlobx3
import Derived.Test.YtacaeebjanglgaaQFnExactGetBlobx7
import Derived.Test.YtacaeebjanglgaaQFnExactGetBlobx10
set_option maxRecDepth 100000
namespace Go.Proofs.Ytacaeebjanglgaa.QFnExactGetBlob
open Go.RowKit Go.Proofs.YtacaeebjanglgaaW.PrintWords Go.Proofs.YtacaeebjanglgaaW.PrintLast Go.Proofs.YtacaeebjanglgaaW.PrintMore
attribute [local go_sem] max2_int min2_int max_two min_two max_three min_three max_four min_four   -- for this text's walks alone
set_option linter.unusedVariables false
set_option linter.unusedSimpArgs false

/-! ### impl_blobOf: function 60 (walked by hand) -/
set_option maxHeartbeats 8000000 in
/-- The closure: how the digest of a blob lies to a text. -/
theorem impl_blobOf.cmp (b0 b1 d : ByteArray) (w : World) :
  Calls Try.prog 94 #[.agg #[.string b0, .string b1], .string d] w fun e w' => e = .returned (.int .i64 (Lib.compareBytes b0.data.toList d.data.toList)) ∧ Below w.heap.size w w' := by
 have hb1 := (Below.refl w.heap.size w).alloc (Nat.le_refl _) (.cells #[.string b0, .string b1] 66)
 go_enter Try.func94, Try.ntmps94
 go_wp2_with (first | ((with_reducible refine gC 95 rfl ?_); refine gL 8 Try.func95 #[.string b0, .string d] ?_; refine (Any.strings_Compare Try.lays106 b0 d _).mono ?_; rintro e w7 ⟨rfl, rfl⟩; refine ⟨_, rfl, ?_⟩))
 go_ret
 exact ⟨rfl, hb1⟩
def impl_blobOf.bs (l : List S66) (d : ByteArray) : Nat → Nat → Nat → Nat
 | 0, i, _ => i
 | k + 1, i, j => if i < j then (if Lib.compareBytes (rd_T66 l (((i + j) / 2 : Nat) : Int)).f0.data.toList d.data.toList < 0 then impl_blobOf.bs l d k ((i + j) / 2 + 1) j else impl_blobOf.bs l d k i ((i + j) / 2)) else i
theorem impl_blobOf.bs_done (l : List S66) (d : ByteArray) (k i j : Nat) (h : ¬ i < j) : impl_blobOf.bs l d k i j = i := by
 cases k with
 | zero => rfl
 | succ k => unfold impl_blobOf.bs; rw [if_neg h]
theorem impl_blobOf.half (i j : Nat) (x y : Int) (hx : x = (i : Int)) (hy : y = (j : Int)) (h : i + j < 4611686018427387904) : wrap64 (IntKind.u64.wrap (wrap64 (x + y)) / 2) = (((i + j) / 2 : Nat) : Int) := by
 subst hx; subst hy
 have e1 : wrap64 ((i : Int) + (j : Int)) = ((i + j : Nat) : Int) := by unfold wrap64; omega
 have e2 : IntKind.u64.wrap ((i + j : Nat) : Int) = ((i + j : Nat) : Int) := by unfold IntKind.wrap; simp [IntKind.bits, IntKind.signed]; omega
 rw [e1, e2]
 unfold wrap64; omega
set_option maxHeartbeats 8000000 in
theorem impl_blobOf.search (l : List S66) (A : Option Addr) (c : Nat) (d : ByteArray) (w : World) (hr : Kd.C k66 w A l.length l) (hc : l.length ≤ c) (hm : l.length ≤ 2305843009213693952) :
  Calls Try.prog 93 #[.slice A l.length c, .string d, .func (.func 94) #[] #[]] w fun e w' => e = .returned (.tuple #[.int .i64 (impl_blobOf.bs l d l.length 0 l.length : Int), .bool (decide (impl_blobOf.bs l d l.length 0 l.length < l.length) && decide (Lib.compareBytes (rd_T66 l (impl_blobOf.bs l d l.length 0 l.length : Int)).f0.data.toList d.data.toList = 0))]) ∧ Below w.heap.size w w' := by
 have HR := Aside0.mk hr
 have HC := Aside0.mk hc
 have HM := Aside0.mk hm
 clear hr hc hm
 go_enter Try.func93, Try.ntmps93
 go_wp2
 go_loopg [9, 10] l.length (fun kq v9 v10 w' => ∃ (i j : Nat) (x9 x10 : Int), v9 = .int .i64 x9 ∧ v10 = .int .i64 x10 ∧ Aside0 (x9 = (i : Int)) ∧ Aside0 (x10 = (j : Int)) ∧ Aside0 (i ≤ j ∧ j ≤ l.length ∧ j - i ≤ kq) ∧ Aside0 (impl_blobOf.bs l d kq i j = impl_blobOf.bs l d l.length 0 l.length) ∧ Aside0 (Below w.heap.size w w'))
 case atStart => exact ⟨0, l.length, 0, (l.length : Int), rfl, rfl, ⟨rfl⟩, ⟨rfl⟩, ⟨by omega⟩, ⟨rfl⟩, ⟨Below.refl _ _⟩⟩
 case round =>
  obtain ⟨i, j, x9, x10, rfl, rfl, HI, HJ, hij, HE, HB⟩ := hrel
  by_cases g : i < j
  ·
   have c1 : decide (x9 < x10) = true := decide_eq_true (by have := HI.out; have := HJ.out; omega)
   cases gk with
   | zero => exact absurd hij.out (by omega)
   | succ k1 =>
    have G := Aside0.mk g; clear g
    have eh : wrap64 (IntKind.u64.wrap (wrap64 (x9 + x10)) / 2) = (((i + j) / 2 : Nat) : Int) := impl_blobOf.half i j x9 x10 HI.out HJ.out (by have := hij.out; have := HM.out; have := G.out; omega)
    have EH := Aside0.mk eh; clear eh
    have b1 := eq_true (show 0 ≤ wrap64 (IntKind.u64.wrap (wrap64 (x9 + x10)) / 2) by have := EH.out; omega)
    have b2 := eq_true (show wrap64 (IntKind.u64.wrap (wrap64 (x9 + x10)) / 2) < (l.length : Int) by have := EH.out; have := hij.out; have := G.out; omega)
    obtain ⟨ad, e1, h0, h1⟩ := at_T66 HR.out (wrap64 (IntKind.u64.wrap (wrap64 (x9 + x10)) / 2)) (by simpa using b1) (by simpa using b2)
    subst e1
    have hx0 := (HB.out.cell (World.block_lt_of_cell? w _ h0)).trans h0
    have hx1 := (HB.out.cell (World.block_lt_of_cell? w _ h1)).trans h1
    clear h0 h1
    by_cases hq : Lib.compareBytes (rd_T66 l (wrap64 (IntKind.u64.wrap (wrap64 (x9 + x10)) / 2))).f0.data.toList d.data.toList < 0
    ·
     have q1 := decide_eq_true hq
     have HQ := Aside0.mk hq; clear hq
     go_wp2_with (fail)
     refine (impl_blobOf.cmp _ _ d wr).mono ?_
     rintro e w7 ⟨rfl, hb⟩
     have HB2 := Aside0.mk (below_step HB.out hb); clear hb
     try dsimp only
     go_wp2
     go_roundg k1
     case measure => omega
     case rel =>
      refine ⟨(i + j) / 2 + 1, j, _, x10, rfl, rfl, ⟨?_⟩, HJ, ⟨by have := hij.out; have := G.out; omega⟩, ⟨?_⟩, HB2⟩
      ·
       rw [EH.out]; have := hij.out; have := HM.out; unfold wrap64; omega
      rw [← HE.out]
      conv => rhs; unfold impl_blobOf.bs
      rw [if_pos G.out, if_pos (by have := HQ.out; rw [EH.out] at this; exact this)]
    have q1 := decide_eq_false hq
    have HQ := Aside0.mk hq; clear hq
    go_wp2_with (fail)
    refine (impl_blobOf.cmp _ _ d wr).mono ?_
    rintro e w7 ⟨rfl, hb⟩
    have HB2 := Aside0.mk (below_step HB.out hb); clear hb
    try dsimp only
    go_wp2
    go_roundg k1
    case measure => omega
    case rel =>
     refine ⟨i, (i + j) / 2, x9, _, rfl, rfl, HI, EH, ⟨by have := hij.out; have := G.out; omega⟩, ⟨?_⟩, HB2⟩
     rw [← HE.out]
     conv => rhs; unfold impl_blobOf.bs
     rw [if_pos G.out, if_neg (by have := HQ.out; rw [EH.out] at this; omega)]
  have c1 : decide (x9 < x10) = false := decide_eq_false (by have := HI.out; have := HJ.out; omega)
  have G := Aside0.mk g; clear g
  by_cases gn : i < l.length
  ·
   have c2 : decide (x9 < (l.length : Int)) = true := decide_eq_true (by have := HI.out; omega)
   have b1 := eq_true (show 0 ≤ x9 by have := HI.out; omega)
   have b2 := eq_true (show x9 < (l.length : Int) by have := HI.out; omega)
   obtain ⟨ad, e1, h0, h1⟩ := at_T66 HR.out x9 (by simpa using b1) (by simpa using b2)
   subst e1
   have hx0 := (HB.out.cell (World.block_lt_of_cell? w _ h0)).trans h0
   have hx1 := (HB.out.cell (World.block_lt_of_cell? w _ h1)).trans h1
   clear h0 h1
   have GN := Aside0.mk gn; clear gn
   go_wp2_with (fail)
   refine (impl_blobOf.cmp _ _ d wr).mono ?_
   rintro e w7 ⟨rfl, hb⟩
   have HB2 := Aside0.mk (below_step HB.out hb); clear hb
   try dsimp only
   go_wp2
   refine bodyPost_ret (results_tmp2 rfl _ _ _) rfl ?_
   refine ⟨?_, HB2.out⟩
   rw [← HE.out, impl_blobOf.bs_done _ _ _ _ _ G.out]
   have hi := HI.out
   subst hi
   rw [decide_eq_true GN.out, Bool.true_and]
   rfl
  have c2 : decide (x9 < (l.length : Int)) = false := decide_eq_false (by have := HI.out; omega)
  have GN := Aside0.mk gn; clear gn
  go_wp2
  refine bodyPost_ret (results_tmp2 rfl _ _ _) rfl ?_
  refine ⟨?_, HB.out⟩
  rw [← HE.out, impl_blobOf.bs_done _ _ _ _ _ G.out]
  have hi := HI.out
  subst hi
  rw [decide_eq_false GN.out, Bool.false_and]
  rfl
set_option maxHeartbeats 8000000 in
theorem impl_blobOf.blobOf (q : Int) (A1 : Option Addr) (c1 : Nat) (l1 : List S66) (A2 : Option Addr) (c2 : Nat) (l2 : List S68) (nx : Int) (d : ByteArray) (w : World) (hr1 : Kd.C k66 w A1 l1.length l1) (hc1 : l1.length ≤ c1) (hm : l1.length ≤ 2305843009213693952)
  (r1 : Int) (r2 : Bool) (h1 : (impl_blobOf.bs l1 d l1.length 0 l1.length : Int) = r1) (h2 : (decide (impl_blobOf.bs l1 d l1.length 0 l1.length < l1.length) && decide (Lib.compareBytes (rd_T66 l1 (impl_blobOf.bs l1 d l1.length 0 l1.length : Int)).f0.data.toList d.data.toList = 0)) = r2) :
  Calls Try.prog 60 #[.agg #[.int .i64 q, .slice A1 l1.length c1, .slice A2 l2.length c2, .int .i64 nx], .string d] w fun e w' => e = .returned (.tuple #[.int .i64 r1, .bool r2]) ∧ Below w.heap.size w w' := by
 have hb2 := (Below.refl w.heap.size w).alloc (Nat.le_refl _) (.cells #[.int .i64 q, .slice A1 l1.length c1, .slice A2 l2.length c2, .int .i64 nx] 31)
 have hS := impl_blobOf.search l1 A1 c1 d (w.alloc (.cells #[.int .i64 q, .slice A1 l1.length c1, .slice A2 l2.length c2, .int .i64 nx] 31)) (Kd.C_alloc hr1 _) hc1 hm
 rw [h2, h1] at hS
 have HS := Aside0.mk hS
 clear hS h1 h2 hr1 hc1 hm
 go_enter Try.func60, Try.ntmps60
 go_wp2_with (first | ((with_reducible refine gC 93 rfl ?_); refine gL 9 Try.func93 #[.slice A1 l1.length c1, .string d, .func (.func 94) #[] #[]] ?_; refine HS.out.mono ?_; rintro e w7 ⟨rfl, hb⟩; refine ⟨_, rfl, ?_⟩; have HB := Aside0.mk (below_step hb2 hb); clear hb))
 refine bodyPost_ret (results_tmp2 rfl _ _ _) rfl ⟨rfl, HB.out⟩
def impl_blobOf.f (a0_0 : Int) (l0_1 : List S66) (l0_2 : List S68) (a0_3 : Int) (a1 : ByteArray) : Option (Int × Bool) := if l0_1.length ≤ 2305843009213693952 then some ((impl_blobOf.bs l0_1 a1 l0_1.length 0 l0_1.length : Int), decide (impl_blobOf.bs l0_1 a1 l0_1.length 0 l0_1.length < l0_1.length) && decide (Lib.compareBytes (rd_T66 l0_1 (impl_blobOf.bs l0_1 a1 l0_1.length 0 l0_1.length : Int)).f0.data.toList a1.data.toList = 0)) else none
theorem impl_blobOf.calls (a0_0 : Int) (A0_1 : Option Addr) (c0_1 : Nat) (l0_1 : List S66) (A0_2 : Option Addr) (c0_2 : Nat) (l0_2 : List S68) (a0_3 : Int) (a1 : ByteArray) (r1 : Int) (r2 : Bool) (w : World) (hr0_1 : Kd.C k66 w A0_1 l0_1.length l0_1) (hc0_1 : l0_1.length ≤ c0_1) (hr0_2 : Kd.C k68 w A0_2 l0_2.length l0_2) (hc0_2 : l0_2.length ≤ c0_2) (h : impl_blobOf.f a0_0 l0_1 l0_2 a0_3 a1 = some (r1, r2)) :
  Calls Try.prog 60 #[.agg #[.int .i64 a0_0, .slice A0_1 l0_1.length c0_1, .slice A0_2 l0_2.length c0_2, .int .i64 a0_3], .string a1] w fun e w' => e = .returned (.tuple #[.int .i64 r1, .bool r2]) ∧ Below w.heap.size w w' := by
 unfold impl_blobOf.f at h
 split at h
 ·
  rename_i hg
  injection h with h
  injection h with h1 h2
  exact impl_blobOf.blobOf a0_0 A0_1 c0_1 l0_1 A0_2 c0_2 l0_2 a0_3 a1 w hr0_1 hc0_1 hg r1 r2 h1 h2
 exact absurd h (by simp)

/-! ### impl_GetBlob: function 23 -/
def impl_GetBlob.f (k : Nat) (a0_0 : Int) (l0_1 : List (S66)) (l0_2 : List (S68)) (a0_3 : Int) (a1 : ByteArray) : Option (ByteArray × Bool) := (impl_blobOf.f a0_0 l0_1 l0_2 a0_3 a1).bind fun bt313 => ((impl_isStore.f k a0_0 l0_1 l0_2 a0_3).bind fun t315 => (if t315 = true then (if bt313.2 = true then (if 0 ≤ bt313.1 then (if bt313.1 < (l0_1.length : Int) then (some ((rd_T66 l0_1 bt313.1).f1, true)) else (none)) else (none)) else (some ((⟨#[]⟩ : ByteArray), false))) else (some ((⟨#[]⟩ : ByteArray), false))))
theorem impl_GetBlob.mono : ∀ a0 a1 a2 a3 a4 k, LeO (impl_GetBlob.f k a0 a1 a2 a3 a4) (impl_GetBlob.f (k + 1) a0 a1 a2 a3 a4) := by
 intro a0 a1 a2 a3 a4 k
 unfold impl_GetBlob.f
 repeat' first
   | (with_reducible exact impl_isStore.mono _ _ _ _ _)
   | (with_reducible exact LeO.refl _)
   | (with_reducible exact LeO.none _)
   | (with_reducible refine LeO.ite ?_ ?_)
   | (with_reducible refine LeO.bind ?_ (fun _ => ?_))
   | exact LeO.none _
   | refine LeO.ite ?_ ?_
   | refine LeO.bind ?_ (fun _ => ?_)
set_option maxHeartbeats 8000000 in
set_option maxRecDepth 100000 in
theorem impl_GetBlob.calls (k : Nat) (a0_0 : Int) (A0_1 : Option Addr) (c0_1 : Nat) (l0_1 : List (S66)) (A0_2 : Option Addr) (c0_2 : Nat) (l0_2 : List (S68)) (a0_3 : Int) (a1 : ByteArray) (r1 : ByteArray) (r2 : Bool) (w : World) (hr0_1 : Kd.C k66 w A0_1 l0_1.length l0_1) (hc0_1 : l0_1.length ≤ c0_1) (hr0_2 : Kd.C k68 w A0_2 l0_2.length l0_2) (hc0_2 : l0_2.length ≤ c0_2) (h : impl_GetBlob.f k a0_0 l0_1 l0_2 a0_3 a1 = some (r1, r2)) :
  Calls Try.prog 23 #[.agg #[.int .i64 a0_0, .slice A0_1 l0_1.length c0_1, .slice A0_2 l0_2.length c0_2, .int .i64 a0_3], .string a1] w fun e w' => e = .returned (.tuple #[.string r1, .bool r2]) ∧ Below w.heap.size w w' := by
 have hu31 := Try.underlying31
 have HR0_1 := Aside0.mk hr0_1
 have HC0_1 := Aside0.mk hc0_1
 clear hr0_1 hc0_1
 have HR0_2 := Aside0.mk hr0_2
 have HC0_2 := Aside0.mk hc0_2
 clear hr0_2 hc0_2
 have HB := Aside0.mk (Below.refl w.heap.size w)
 have H : ((impl_blobOf.f a0_0 l0_1 l0_2 a0_3 a1).bind fun bt313 => ((impl_isStore.f k a0_0 l0_1 l0_2 a0_3).bind fun t315 => (if t315 = true then (if bt313.2 = true then (if 0 ≤ bt313.1 then (if bt313.1 < (l0_1.length : Int) then (some ((rd_T66 l0_1 bt313.1).f1, true)) else (none)) else (none)) else (some ((⟨#[]⟩ : ByteArray), false))) else (some ((⟨#[]⟩ : ByteArray), false))))) = some (r1, r2) := h
 clear h
 replace H := Option.bind_eq_some_iff.mp H
 obtain ⟨⟨t313, t314⟩, A30, H⟩ := H
 replace H : ((impl_isStore.f k a0_0 l0_1 l0_2 a0_3).bind fun t315 => (if t315 = true then (if t314 = true then (if 0 ≤ t313 then (if t313 < (l0_1.length : Int) then (some ((rd_T66 l0_1 t313).f1, true)) else (none)) else (none)) else (some ((⟨#[]⟩ : ByteArray), false))) else (some ((⟨#[]⟩ : ByteArray), false)))) = some (r1, r2) := H
 have A3 := Aside0.mk A30
 clear A30
 replace H := Option.bind_eq_some_iff.mp H
 obtain ⟨t315, A40, H⟩ := H
 replace H : (if t315 = true then (if t314 = true then (if 0 ≤ t313 then (if t313 < (l0_1.length : Int) then (some ((rd_T66 l0_1 t313).f1, true)) else (none)) else (none)) else (some ((⟨#[]⟩ : ByteArray), false))) else (some ((⟨#[]⟩ : ByteArray), false))) = some (r1, r2) := H
 have A4 := Aside0.mk A40
 clear A40
 by_cases c5 : t315 = true
 ·
  subst c5
  have H1 : (if t314 = true then (if 0 ≤ t313 then (if t313 < (l0_1.length : Int) then (some ((rd_T66 l0_1 t313).f1, true)) else (none)) else (none)) else (some ((⟨#[]⟩ : ByteArray), false))) = some (r1, r2) := by rw [if_pos rfl] at H; exact H
  clear H
  have H := H1
  clear H1
  by_cases c6 : t314 = true
  ·
   subst c6
   have H1 : (if 0 ≤ t313 then (if t313 < (l0_1.length : Int) then (some ((rd_T66 l0_1 t313).f1, true)) else (none)) else (none)) = some (r1, r2) := by rw [if_pos rfl] at H; exact H
   clear H
   have H := H1
   clear H1
   by_cases c7 : 0 ≤ t313
   ·
    rw [if_pos c7] at H
    have c7b0 := decide_eq_true c7
    clear c7
    by_cases c8 : t313 < (l0_1.length : Int)
    ·
     rw [if_pos c8] at H
     have c8b0 := decide_eq_true c8
     clear c8
     simp only [Option.some.injEq, Prod.mk.injEq] at H
     obtain ⟨rfl, rfl⟩ := H
     go_enter Try.func23, Try.ntmps23
     go_wp2_with (first | ((with_reducible refine gate_dst (N := 2) rfl ?_); refine box_event ?hg (N := 2) ?hd (cs := #[.int .i64 a0_0, .slice A0_1 l0_1.length c0_1, .slice A0_2 l0_2.length c0_2, .int .i64 a0_3]) (t := 31) ?hr ?_; (case hd => rfl); (case hg => rfl); (case hr => exact zq2); intro gb312 hg w9 hbox hb; have BK312 := Aside0.mk hbox; have GW312 := Aside0.mk (zq123 : w.heap.size ≤ gb312); have GE312 := Aside0.mk (zq123 : w.heap.size ≤ gb312); replace HB := sB zq3 hb; clear hb hbox hg; obtain ⟨hcz10_0, hcz10_1, hcz10_2, hcz10_3, hfz10_0, hfz10_1, hfz10_2, hfz10_3⟩ := c4 (w := w9) BK312) | ((with_reducible refine gC 60 rfl ?_); refine gL 11 Try.func60 #[.agg #[.int .i64 a0_0, .slice A0_1 l0_1.length c0_1, .slice A0_2 l0_2.length c0_2, .int .i64 a0_3], .string a1] ?_; (with_reducible refine (impl_blobOf.calls a0_0 _ _ l0_1 _ _ l0_2 a0_3 a1 t313 true _ ?_ ?_ ?_ ?_ A3.out).mono ?_); exact zq11; exact zq12; exact zq15; exact zq16; rintro e w11 ⟨rfl, hb⟩; refine ⟨_, rfl, ?_⟩; replace BK312 := bF BK312 zq50 hb; replace HB := sB zq51 hb; clear hb; obtain ⟨hcz12_0, hcz12_1, hcz12_2, hcz12_3, hfz12_0, hfz12_1, hfz12_2, hfz12_3⟩ := c4 (w := w11) BK312) | ((with_reducible refine gC 55 rfl ?_); refine gL 15 Try.func55 #[.agg #[.int .i64 a0_0, .slice A0_1 l0_1.length c0_1, .slice A0_2 l0_2.length c0_2, .int .i64 a0_3]] ?_; (with_reducible refine (impl_isStore.calls k a0_0 _ _ l0_1 _ _ l0_2 a0_3 true _ ?_ ?_ ?_ ?_ A4.out).mono ?_); exact zq11; exact zq12; exact zq15; exact zq16; rintro e w13 ⟨rfl, hb⟩; refine ⟨_, rfl, ?_⟩; replace BK312 := bF BK312 zq50 hb; replace HB := sB zq51 hb; clear hb; obtain ⟨hcz14_0, hcz14_1, hcz14_2, hcz14_3, hfz14_0, hfz14_1, hfz14_2, hfz14_3⟩ := c4 (w := w13) BK312; have p316 : 0 ≤ (t313 : Int) := of_decide_eq_true zq7; have q316 : t313 < (l0_1.length : Int) := of_decide_eq_true zq7; obtain ⟨ad316, e316, hx316_0, hx316_1⟩ := at_T66 HR0_1.out t313 p316 q316; cases e316; replace hx316_0 := (HB.out.cell (World.block_lt_of_cell? w _ hx316_0)).trans hx316_0; replace hx316_1 := (HB.out.cell (World.block_lt_of_cell? w _ hx316_1)).trans hx316_1; replace p316 := eq_true p316; replace q316 := eq_true q316))
     go_ret2
     exact ⟨zq4, zq51⟩
    exact zq165
   exact zq154
  replace c6 := Bool.eq_false_iff.mpr c6
  subst c6
  have H1 : (some ((⟨#[]⟩ : ByteArray), false)) = some (r1, r2) := by rw [if_neg (show ¬ (false = true) by decide)] at H; exact H
  clear H
  have H := H1
  clear H1
  simp only [Option.some.injEq, Prod.mk.injEq] at H
  obtain ⟨rfl, rfl⟩ := H
  go_enter Try.func23, Try.ntmps23
  go_wp2_with (first | ((with_reducible refine gate_dst (N := 2) rfl ?_); refine box_event ?hg (N := 2) ?hd (cs := #[.int .i64 a0_0, .slice A0_1 l0_1.length c0_1, .slice A0_2 l0_2.length c0_2, .int .i64 a0_3]) (t := 31) ?hr ?_; (case hd => rfl); (case hg => rfl); (case hr => exact zq2); intro gb312 hg w15 hbox hb; have BK312 := Aside0.mk hbox; have GW312 := Aside0.mk (zq123 : w.heap.size ≤ gb312); have GE312 := Aside0.mk (zq123 : w.heap.size ≤ gb312); replace HB := sB zq3 hb; clear hb hbox hg; obtain ⟨hcz16_0, hcz16_1, hcz16_2, hcz16_3, hfz16_0, hfz16_1, hfz16_2, hfz16_3⟩ := c4 (w := w15) BK312) | ((with_reducible refine gC 60 rfl ?_); refine gL 11 Try.func60 #[.agg #[.int .i64 a0_0, .slice A0_1 l0_1.length c0_1, .slice A0_2 l0_2.length c0_2, .int .i64 a0_3], .string a1] ?_; (with_reducible refine (impl_blobOf.calls a0_0 _ _ l0_1 _ _ l0_2 a0_3 a1 t313 false _ ?_ ?_ ?_ ?_ A3.out).mono ?_); exact zq11; exact zq12; exact zq15; exact zq16; rintro e w17 ⟨rfl, hb⟩; refine ⟨_, rfl, ?_⟩; replace BK312 := bF BK312 zq50 hb; replace HB := sB zq51 hb; clear hb; obtain ⟨hcz18_0, hcz18_1, hcz18_2, hcz18_3, hfz18_0, hfz18_1, hfz18_2, hfz18_3⟩ := c4 (w := w17) BK312) | ((with_reducible refine gC 55 rfl ?_); refine gL 15 Try.func55 #[.agg #[.int .i64 a0_0, .slice A0_1 l0_1.length c0_1, .slice A0_2 l0_2.length c0_2, .int .i64 a0_3]] ?_; (with_reducible refine (impl_isStore.calls k a0_0 _ _ l0_1 _ _ l0_2 a0_3 true _ ?_ ?_ ?_ ?_ A4.out).mono ?_); exact zq11; exact zq12; exact zq15; exact zq16; rintro e w19 ⟨rfl, hb⟩; refine ⟨_, rfl, ?_⟩; replace BK312 := bF BK312 zq50 hb; replace HB := sB zq51 hb; clear hb))
  go_ret2
  exact ⟨zq4, zq51⟩
 replace c5 := Bool.eq_false_iff.mpr c5
 subst c5
 have H1 : (some ((⟨#[]⟩ : ByteArray), false)) = some (r1, r2) := by rw [if_neg (show ¬ (false = true) by decide)] at H; exact H
 clear H
 have H := H1
 clear H1
 simp only [Option.some.injEq, Prod.mk.injEq] at H
 obtain ⟨rfl, rfl⟩ := H
 go_enter Try.func23, Try.ntmps23
 go_wp2_with (first | ((with_reducible refine gate_dst (N := 2) rfl ?_); refine box_event ?hg (N := 2) ?hd (cs := #[.int .i64 a0_0, .slice A0_1 l0_1.length c0_1, .slice A0_2 l0_2.length c0_2, .int .i64 a0_3]) (t := 31) ?hr ?_; (case hd => rfl); (case hg => rfl); (case hr => exact zq2); intro gb312 hg w20 hbox hb; have BK312 := Aside0.mk hbox; have GW312 := Aside0.mk (zq123 : w.heap.size ≤ gb312); have GE312 := Aside0.mk (zq123 : w.heap.size ≤ gb312); replace HB := sB zq3 hb; clear hb hbox hg; obtain ⟨hcz21_0, hcz21_1, hcz21_2, hcz21_3, hfz21_0, hfz21_1, hfz21_2, hfz21_3⟩ := c4 (w := w20) BK312) | ((with_reducible refine gC 60 rfl ?_); refine gL 11 Try.func60 #[.agg #[.int .i64 a0_0, .slice A0_1 l0_1.length c0_1, .slice A0_2 l0_2.length c0_2, .int .i64 a0_3], .string a1] ?_; (with_reducible refine (impl_blobOf.calls a0_0 _ _ l0_1 _ _ l0_2 a0_3 a1 t313 t314 _ ?_ ?_ ?_ ?_ A3.out).mono ?_); exact zq11; exact zq12; exact zq15; exact zq16; rintro e w22 ⟨rfl, hb⟩; refine ⟨_, rfl, ?_⟩; replace BK312 := bF BK312 zq50 hb; replace HB := sB zq51 hb; clear hb; obtain ⟨hcz23_0, hcz23_1, hcz23_2, hcz23_3, hfz23_0, hfz23_1, hfz23_2, hfz23_3⟩ := c4 (w := w22) BK312) | ((with_reducible refine gC 55 rfl ?_); refine gL 15 Try.func55 #[.agg #[.int .i64 a0_0, .slice A0_1 l0_1.length c0_1, .slice A0_2 l0_2.length c0_2, .int .i64 a0_3]] ?_; (with_reducible refine (impl_isStore.calls k a0_0 _ _ l0_1 _ _ l0_2 a0_3 false _ ?_ ?_ ?_ ?_ A4.out).mono ?_); exact zq11; exact zq12; exact zq15; exact zq16; rintro e w24 ⟨rfl, hb⟩; refine ⟨_, rfl, ?_⟩; replace BK312 := bF BK312 zq50 hb; replace HB := sB zq51 hb; clear hb))
 go_ret2
 exact ⟨zq4, zq51⟩

/-! ### laws_FnExactGetBlob: function 5 -/
def laws_FnExactGetBlob.j0 : Nat → Bool → Int → List (S95) → List (S97) → Int → Int → List (S66) → List (S68) → Int → Option (Bool)
 | 0, _, _, _, _, _, _, _, _, _ => none
 | k + 1, x41, x318000, x318001, x318002, x318003, x338000, x338001, x338002, x338003 => if x41 = true then (some false) else ((laws_toStore.f k x318000 x318001 x318002 x318003).bind fun bt340 => ((laws_eqStore.f k x338000 x338001 x338002 x338003 bt340.1 bt340.2.1 bt340.2.2.1 bt340.2.2.2).bind fun t348 => (if t348 = true then (some true) else (some false))))
def laws_FnExactGetBlob.f (k : Nat) (a0_0 : Int) (l0_1 : List (S95)) (l0_2 : List (S97)) (a0_3 : Int) (a1 : ByteArray) : Option (Bool) := if (a1.size : Int) > 1048576 then (some true) else ((laws_szStore.f k a0_0 l0_1 l0_2 a0_3 1048576).bind fun t318 => (if t318 < 0 then (some true) else ((laws_toStore.f k a0_0 l0_1 l0_2 a0_3).bind fun bt319 => ((spec_GetBlob.f k bt319.1 bt319.2.1 bt319.2.2.1 bt319.2.2.2 a1).bind fun bt327 => ((laws_toStore.f k a0_0 l0_1 l0_2 a0_3).bind fun bt329 => ((impl_GetBlob.f k bt329.1 bt329.2.1 bt329.2.2.1 bt329.2.2.2 a1).bind fun bt338 => (if bt338.1.toList = bt327.1.toList then (laws_FnExactGetBlob.j0 k (bt338.2 != bt327.2) a0_0 l0_1 l0_2 a0_3 bt329.1 bt329.2.1 bt329.2.2.1 bt329.2.2.2) else (laws_FnExactGetBlob.j0 k true a0_0 l0_1 l0_2 a0_3 bt329.1 bt329.2.1 bt329.2.2.1 bt329.2.2.2))))))))
theorem laws_FnExactGetBlob.mono_l : ∀ k, (∀ y0 y1 y2 y3 y4 y5 y6 y7 y8, LeO (laws_FnExactGetBlob.j0 k y0 y1 y2 y3 y4 y5 y6 y7 y8) (laws_FnExactGetBlob.j0 (k + 1) y0 y1 y2 y3 y4 y5 y6 y7 y8))
 | 0 => fun _ _ _ _ _ _ _ _ _ r h => by simp [laws_FnExactGetBlob.j0] at h
 | k + 1 => by
  have ih0 := laws_FnExactGetBlob.mono_l k
  ·
   intro y0 y1 y2 y3 y4 y5 y6 y7 y8
   unfold laws_FnExactGetBlob.j0
   repeat' first
   | (with_reducible exact ih0 _ _ _ _ _ _ _ _ _)
   | (with_reducible exact impl_GetBlob.mono _ _ _ _ _ _)
   | (with_reducible exact laws_eqStore.mono _ _ _ _ _ _ _ _ _)
   | (with_reducible exact laws_szStore.mono _ _ _ _ _ _)
   | (with_reducible exact laws_toStore.mono _ _ _ _ _)
   | (with_reducible exact spec_GetBlob.mono _ _ _ _ _ _)
   | (with_reducible exact LeO.refl _)
   | (with_reducible exact LeO.none _)
   | (with_reducible refine LeO.ite ?_ ?_)
   | (with_reducible refine LeO.bind ?_ (fun _ => ?_))
   | exact LeO.none _
   | refine LeO.ite ?_ ?_
   | refine LeO.bind ?_ (fun _ => ?_)
theorem laws_FnExactGetBlob.mono : ∀ a0 a1 a2 a3 a4 k, LeO (laws_FnExactGetBlob.f k a0 a1 a2 a3 a4) (laws_FnExactGetBlob.f (k + 1) a0 a1 a2 a3 a4) := by
 intro a0 a1 a2 a3 a4 k
 have ih0 := laws_FnExactGetBlob.mono_l k
 unfold laws_FnExactGetBlob.f
 repeat' first
   | (with_reducible exact ih0 _ _ _ _ _ _ _ _ _)
   | (with_reducible exact impl_GetBlob.mono _ _ _ _ _ _)
   | (with_reducible exact laws_eqStore.mono _ _ _ _ _ _ _ _ _)
   | (with_reducible exact laws_szStore.mono _ _ _ _ _ _)
   | (with_reducible exact laws_toStore.mono _ _ _ _ _)
   | (with_reducible exact spec_GetBlob.mono _ _ _ _ _ _)
   | (with_reducible exact LeO.refl _)
   | (with_reducible exact LeO.none _)
   | (with_reducible refine LeO.ite ?_ ?_)
   | (with_reducible refine LeO.bind ?_ (fun _ => ?_))
   | exact LeO.none _
   | refine LeO.ite ?_ ?_
   | refine LeO.bind ?_ (fun _ => ?_)
set_option maxHeartbeats 8000000 in
set_option maxRecDepth 100000 in
theorem laws_FnExactGetBlob.calls (k : Nat) (a0_0 : Int) (A0_1 : Option Addr) (c0_1 : Nat) (l0_1 : List (S95)) (A0_2 : Option Addr) (c0_2 : Nat) (l0_2 : List (S97)) (a0_3 : Int) (a1 : ByteArray) (r : Bool) (w : World) (hr0_1 : Kd.C k95 w A0_1 l0_1.length l0_1) (hc0_1 : l0_1.length ≤ c0_1) (hr0_2 : Kd.C k97 w A0_2 l0_2.length l0_2) (hc0_2 : l0_2.length ≤ c0_2) (h : laws_FnExactGetBlob.f k a0_0 l0_1 l0_2 a0_3 a1 = some r) :
  Calls Try.prog 5 #[.agg #[.int .i64 a0_0, .slice A0_1 l0_1.length c0_1, .slice A0_2 l0_2.length c0_2, .int .i64 a0_3], .string a1] w fun e w' => e = .returned (.bool r) ∧ Below w.heap.size w w' := by
 have hu25 := Try.underlying25
 have hu31 := Try.underlying31
 have HR0_1 := Aside0.mk hr0_1
 have HC0_1 := Aside0.mk hc0_1
 clear hr0_1 hc0_1
 have HR0_2 := Aside0.mk hr0_2
 have HC0_2 := Aside0.mk hc0_2
 clear hr0_2 hc0_2
 have HB := Aside0.mk (Below.refl w.heap.size w)
 have H : (if (a1.size : Int) > 1048576 then (some true) else ((laws_szStore.f k a0_0 l0_1 l0_2 a0_3 1048576).bind fun t318 => (if t318 < 0 then (some true) else ((laws_toStore.f k a0_0 l0_1 l0_2 a0_3).bind fun bt319 => ((spec_GetBlob.f k bt319.1 bt319.2.1 bt319.2.2.1 bt319.2.2.2 a1).bind fun bt327 => ((laws_toStore.f k a0_0 l0_1 l0_2 a0_3).bind fun bt329 => ((impl_GetBlob.f k bt329.1 bt329.2.1 bt329.2.2.1 bt329.2.2.2 a1).bind fun bt338 => (if bt338.1.toList = bt327.1.toList then (laws_FnExactGetBlob.j0 k (bt338.2 != bt327.2) a0_0 l0_1 l0_2 a0_3 bt329.1 bt329.2.1 bt329.2.2.1 bt329.2.2.2) else (laws_FnExactGetBlob.j0 k true a0_0 l0_1 l0_2 a0_3 bt329.1 bt329.2.1 bt329.2.2.1 bt329.2.2.2))))))))) = some r := h
 clear h
 by_cases c3 : (a1.size : Int) > 1048576
 ·
  rw [if_pos c3] at H
  have c3b0 : decide (1048576 < (a1.size : Int)) = true := decide_eq_true c3
  have c3b1 : decide (1048576 < a1.size) = true := decide_eq_true (by omega)
  clear c3
  obtain rfl := Option.some.inj H
  go_enter Try.func5, Try.ntmps5
  go_wp2_with (first | ((with_reducible refine gate_dst (N := 2) rfl ?_); refine box_event ?hg (N := 2) ?hd (cs := #[.int .i64 a0_0, .slice A0_1 l0_1.length c0_1, .slice A0_2 l0_2.length c0_2, .int .i64 a0_3]) (t := 25) ?hr ?_; (case hd => rfl); (case hg => rfl); (case hr => exact zq2); intro gb317 hg w4 hbox hb; have BK317 := Aside0.mk hbox; have GW317 := Aside0.mk (zq123 : w.heap.size ≤ gb317); have GE317 := Aside0.mk (zq123 : w.heap.size ≤ gb317); replace HB := sB zq3 hb; clear hb hbox hg))
  go_ret
  exact ⟨zq4, zq52⟩
 rw [if_neg c3] at H
 have c3b0 : decide (1048576 < (a1.size : Int)) = false := decide_eq_false c3
 have c3b1 : decide (1048576 < a1.size) = false := decide_eq_false (by omega)
 clear c3
 replace H := Option.bind_eq_some_iff.mp H
 obtain ⟨t318, A50, H⟩ := H
 try dsimp only at H
 have A5 := Aside0.mk A50
 clear A50
 by_cases c6 : t318 < 0
 ·
  rw [if_pos c6] at H
  have c6b0 := decide_eq_true c6
  clear c6
  obtain rfl := Option.some.inj H
  go_enter Try.func5, Try.ntmps5
  go_wp2_with (first | ((with_reducible refine gate_dst (N := 2) rfl ?_); refine box_event ?hg (N := 2) ?hd (cs := #[.int .i64 a0_0, .slice A0_1 l0_1.length c0_1, .slice A0_2 l0_2.length c0_2, .int .i64 a0_3]) (t := 25) ?hr ?_; (case hd => rfl); (case hg => rfl); (case hr => exact zq2); intro gb317 hg w7 hbox hb; have BK317 := Aside0.mk hbox; have GW317 := Aside0.mk (zq123 : w.heap.size ≤ gb317); have GE317 := Aside0.mk (zq123 : w.heap.size ≤ gb317); replace HB := sB zq3 hb; clear hb hbox hg; obtain ⟨hcz8_0, hcz8_1, hcz8_2, hcz8_3, hfz8_0, hfz8_1, hfz8_2, hfz8_3⟩ := c4 (w := w7) BK317) | ((with_reducible refine gC 15 rfl ?_); refine gL 16 Try.func15 #[.agg #[.int .i64 a0_0, .slice A0_1 l0_1.length c0_1, .slice A0_2 l0_2.length c0_2, .int .i64 a0_3], .int .i64 1048576] ?_; (with_reducible refine (laws_szStore.calls k a0_0 _ _ l0_1 _ _ l0_2 a0_3 1048576 t318 _ ?_ ?_ ?_ ?_ A5.out).mono ?_); exact zq11; exact zq12; exact zq15; exact zq16; rintro e w9 ⟨rfl, hb⟩; refine ⟨_, rfl, ?_⟩; replace BK317 := bF BK317 zq53 hb; replace HB := sB zq52 hb; clear hb))
  go_ret
  exact ⟨zq4, zq52⟩
 rw [if_neg c6] at H
 have c6b0 := decide_eq_false c6
 clear c6
 replace H := Option.bind_eq_some_iff.mp H
 obtain ⟨⟨t319, t320, t323, t326⟩, A100, H⟩ := H
 try dsimp only at H
 have A10 := Aside0.mk A100
 clear A100
 replace H := Option.bind_eq_some_iff.mp H
 obtain ⟨⟨t327, t328⟩, A110, H⟩ := H
 try dsimp only at H
 have A11 := Aside0.mk A110
 clear A110
 replace H := Option.bind_eq_some_iff.mp H
 obtain ⟨⟨t329, t330, t333, t336⟩, A120, H⟩ := H
 try dsimp only at H
 have A12 := Aside0.mk A120
 clear A120
 replace H := Option.bind_eq_some_iff.mp H
 obtain ⟨⟨t338, t339⟩, A130, H⟩ := H
 try dsimp only at H
 have A13 := Aside0.mk A130
 clear A130
 have HC14 := Aside0.mk H
 clear H
 go_enter Try.func5, Try.ntmps5
 go_upto_region 10 with (first | ((with_reducible refine gate_dst (N := 2) rfl ?_); refine box_event ?hg (N := 2) ?hd (cs := #[.int .i64 a0_0, .slice A0_1 l0_1.length c0_1, .slice A0_2 l0_2.length c0_2, .int .i64 a0_3]) (t := 25) ?hr ?_; (case hd => rfl); (case hg => rfl); (case hr => exact zq2); intro gb317 hg w15 hbox hb; have BK317 := Aside0.mk hbox; have GW317 := Aside0.mk (zq123 : w.heap.size ≤ gb317); have GE317 := Aside0.mk (zq123 : w.heap.size ≤ gb317); replace HB := sB zq3 hb; clear hb hbox hg; obtain ⟨hcz16_0, hcz16_1, hcz16_2, hcz16_3, hfz16_0, hfz16_1, hfz16_2, hfz16_3⟩ := c4 (w := w15) BK317) | ((with_reducible refine gC 15 rfl ?_); refine gL 16 Try.func15 #[.agg #[.int .i64 a0_0, .slice A0_1 l0_1.length c0_1, .slice A0_2 l0_2.length c0_2, .int .i64 a0_3], .int .i64 1048576] ?_; (with_reducible refine (laws_szStore.calls k a0_0 _ _ l0_1 _ _ l0_2 a0_3 1048576 t318 _ ?_ ?_ ?_ ?_ A5.out).mono ?_); exact zq11; exact zq12; exact zq15; exact zq16; rintro e w17 ⟨rfl, hb⟩; refine ⟨_, rfl, ?_⟩; replace BK317 := bF BK317 zq53 hb; replace HB := sB zq52 hb; clear hb; obtain ⟨hcz18_0, hcz18_1, hcz18_2, hcz18_3, hfz18_0, hfz18_1, hfz18_2, hfz18_3⟩ := c4 (w := w17) BK317) | ((with_reducible refine gC 17 rfl ?_); refine gL 21 Try.func17 #[.agg #[.int .i64 a0_0, .slice A0_1 l0_1.length c0_1, .slice A0_2 l0_2.length c0_2, .int .i64 a0_3]] ?_; (with_reducible refine (laws_toStore.calls k a0_0 _ _ l0_1 _ _ l0_2 a0_3 t319 t320 t323 t326 _ ?_ ?_ ?_ ?_ A10.out).mono ?_); exact zq11; exact zq12; exact zq15; exact zq16; rintro e w19 ⟨v321, v324, rfl, ho0, ho1, hb⟩; refine ⟨_, rfl, ?_⟩; have HO322 := Aside0.mk (Kd.R_lower ho0 (below_size zq52)); have HO325 := Aside0.mk (Kd.R_lower ho1 (below_size zq52)); replace BK317 := bF BK317 zq53 hb; replace HB := sB zq52 hb; clear hb; (try clear ho0); (try clear ho1); obtain ⟨Ao20, co20, eo20⟩ := Kd.R_slice HO322.out; subst eo20; obtain ⟨Ao21, co21, eo21⟩ := Kd.R_slice HO325.out; subst eo21) | ((with_reducible refine gC 22 rfl ?_); refine gL 23 Try.func22 #[.agg #[.int .i64 t319, .slice Ao20 t320.length co20, .slice Ao21 t323.length co21, .int .i64 t326], .string a1] ?_; (with_reducible refine (spec_GetBlob.calls k t319 _ _ t320 _ _ t323 t326 a1 t327 t328 _ ?side1 ?_ ?side3 ?_ A11.out).mono ?_); (case side1 => repeat (first | exact (Kd.R_reads' HO322.out).2.2 | (with_reducible refine Kd.C_alloc ?_ _) | (with_reducible refine Kd.C_drewN ?_ _) | (with_reducible refine Kd.C_drew ?_))); exact (Kd.R_reads' HO322.out).2.1; (case side3 => repeat (first | exact (Kd.R_reads' HO325.out).2.2 | (with_reducible refine Kd.C_alloc ?_ _) | (with_reducible refine Kd.C_drewN ?_ _) | (with_reducible refine Kd.C_drew ?_))); exact (Kd.R_reads' HO325.out).2.1; rintro e w22 ⟨rfl, hb⟩; refine ⟨_, rfl, ?_⟩; replace HO322 := rB zq54 hb; replace HO325 := rB zq55 hb; replace BK317 := bF BK317 zq53 hb; replace HB := sB zq52 hb; clear hb; obtain ⟨hcz23_0, hcz23_1, hcz23_2, hcz23_3, hfz23_0, hfz23_1, hfz23_2, hfz23_3⟩ := c4 (w := w22) BK317) | ((with_reducible refine gC 17 rfl ?_); refine gL 27 Try.func17 #[.agg #[.int .i64 a0_0, .slice A0_1 l0_1.length c0_1, .slice A0_2 l0_2.length c0_2, .int .i64 a0_3]] ?_; (with_reducible refine (laws_toStore.calls k a0_0 _ _ l0_1 _ _ l0_2 a0_3 t329 t330 t333 t336 _ ?_ ?_ ?_ ?_ A12.out).mono ?_); exact zq11; exact zq12; exact zq15; exact zq16; rintro e w24 ⟨v331, v334, rfl, ho0, ho1, hb⟩; refine ⟨_, rfl, ?_⟩; have HO332 := Aside0.mk (Kd.R_lower (Kd.R_new' ho0 (Kd.R_lt zq54)) (below_size zq52)); replace HO322 := Aside0.mk (Kd.R_elder' zq54 (Kd.R_base ho0) hb); have HO335 := Aside0.mk (Kd.R_lower (Kd.R_new' ho1 (Kd.R_lt zq55)) (below_size zq52)); replace HO325 := Aside0.mk (Kd.R_elder' zq55 (Kd.R_base ho1) hb); replace BK317 := bF BK317 zq53 hb; replace HB := sB zq52 hb; clear hb; (try clear ho0); (try clear ho1)) | ((with_reducible refine gate_dst (N := 8) rfl ?_); refine box_event ?hg (N := 8) ?hd (cs := #[.int .i64 0, .slice none 0 0, .slice none 0 0, .int .i64 0]) (t := 31) ?hr ?_; (case hd => rfl); (case hg => rfl); (case hr => exact zq2); intro gb337 hg w25 hbox hb; replace HO322 := rB zq54 hb; replace HO325 := rB zq55 hb; replace HO332 := rB (by (with_reducible repeat (first | apply Kd.R_alloc | apply Kd.R_drewN | apply Kd.R_drew)); exact HO332.out) hb; replace HO335 := rB (by (with_reducible repeat (first | apply Kd.R_alloc | apply Kd.R_drewN | apply Kd.R_drew)); exact HO335.out) hb; have BK337 := Aside0.mk hbox; have GW337 := Aside0.mk (by rw [hg]; exact (below_size zq52) : w.heap.size ≤ gb337); have GE337 := Aside0.mk (by rw [hg]; exact (below_size zq52) : w.heap.size ≤ gb337); replace HB := sB zq52 hb; have NB317_337 := Aside0.mk (by rw [hg]; exact Nat.ne_of_lt (blk_lt (g := gb317) (o := .cells #[.int .i64 a0_0, .slice A0_1 l0_1.length c0_1, .slice A0_2 l0_2.length c0_2, .int .i64 a0_3] 25 (0, 0)) zq53) : gb317 ≠ gb337); have NB337_317 := Aside0.mk (by rw [hg]; exact Nat.ne_of_gt (blk_lt (g := gb317) (o := .cells #[.int .i64 a0_0, .slice A0_1 l0_1.length c0_1, .slice A0_2 l0_2.length c0_2, .int .i64 a0_3] 25 (0, 0)) zq53) : gb337 ≠ gb317); replace BK317 := bF BK317 zq53 hb; clear hb hbox hg; have hnb26 := NB337_317.out; have hnc26 := NB317_337.out; obtain ⟨hcz27_0, hcz27_1, hcz27_2, hcz27_3, hfz27_0, hfz27_1, hfz27_2, hfz27_3⟩ := c4 (w := w25) BK337; obtain ⟨Ao28, co28, eo28⟩ := Kd.R_slice HO332.out; subst eo28; obtain ⟨Ao29, co29, eo29⟩ := Kd.R_slice HO335.out; subst eo29) | ((with_reducible refine gC 23 rfl ?_); refine gL 31 Try.func23 #[.agg #[.int .i64 t329, .slice Ao28 t330.length co28, .slice Ao29 t333.length co29, .int .i64 t336], .string a1] ?_; (with_reducible refine (impl_GetBlob.calls k t329 _ _ t330 _ _ t333 t336 a1 t338 t339 _ ?side1 ?_ ?side3 ?_ A13.out).mono ?_); (case side1 => refine (Kd.R_reads' (e := 66) (base := w.heap.size) (ok := fun k_ => (True ∧ some k_ ≠ (.slice Ao20 t320.length co20 : Value).ownBlock)) (n := t330.length) (c := co28) ?_).2.2; exact zq56); exact (Kd.R_reads' HO332.out).2.1; (case side3 => refine (Kd.R_reads' (e := 68) (base := w.heap.size) (ok := fun k_ => (True ∧ some k_ ≠ (.slice Ao21 t323.length co21 : Value).ownBlock)) (n := t333.length) (c := co29) ?_).2.2; exact zq57); exact (Kd.R_reads' HO335.out).2.1; rintro e w30 ⟨rfl, hb⟩; refine ⟨_, rfl, ?_⟩; replace HO322 := rB (by (with_reducible repeat (first | apply Kd.R_alloc | apply Kd.R_drewN | apply Kd.R_drew)); exact (Kd.R_mono (Kd.R_far (p := ⟨gb337, 3, none⟩) (Kd.R_far (p := ⟨gb337, 2, none⟩) (Kd.R_far (p := ⟨gb337, 1, none⟩) (Kd.R_far (p := ⟨gb337, 0, none⟩) (Kd.R_types HO322.out BK337.out (by decide)) (fun _ hk => hk.2) (.int .i64 t329)) (fun _ hk => hk.2) (.slice Ao28 t330.length co28)) (fun _ hk => hk.2) (.slice Ao29 t333.length co29)) (fun _ hk => hk.2) (.int .i64 t336)) (fun _ h_ => h_.1))) hb; replace HO325 := rB (by (with_reducible repeat (first | apply Kd.R_alloc | apply Kd.R_drewN | apply Kd.R_drew)); exact (Kd.R_mono (Kd.R_far (p := ⟨gb337, 3, none⟩) (Kd.R_far (p := ⟨gb337, 2, none⟩) (Kd.R_far (p := ⟨gb337, 1, none⟩) (Kd.R_far (p := ⟨gb337, 0, none⟩) (Kd.R_types HO325.out BK337.out (by decide)) (fun _ hk => hk.2) (.int .i64 t329)) (fun _ hk => hk.2) (.slice Ao28 t330.length co28)) (fun _ hk => hk.2) (.slice Ao29 t333.length co29)) (fun _ hk => hk.2) (.int .i64 t336)) (fun _ h_ => h_.1))) hb; replace HO332 := rB zq56 hb; replace HO335 := rB zq57 hb; replace BK317 := bF BK317 (by (with_reducible repeat (first | refine blk_drewN ?_ _ | refine blk_drew ?_ | refine blk_alloc ?_ _)); refine blk_far ?_ NB317_337.out _; (with_reducible repeat (first | refine blk_drewN ?_ _ | refine blk_drew ?_ | refine blk_alloc ?_ _)); refine blk_far ?_ NB317_337.out _; (with_reducible repeat (first | refine blk_drewN ?_ _ | refine blk_drew ?_ | refine blk_alloc ?_ _)); refine blk_far ?_ NB317_337.out _; (with_reducible repeat (first | refine blk_drewN ?_ _ | refine blk_drew ?_ | refine blk_alloc ?_ _)); refine blk_far ?_ NB317_337.out _; (with_reducible repeat (first | refine blk_drewN ?_ _ | refine blk_drew ?_ | refine blk_alloc ?_ _)); exact BK317.out) hb; replace BK337 := bB (g := gb337) (o := .cells #[.int .i64 t329, .slice Ao28 t330.length co28, .slice Ao29 t333.length co29, .int .i64 t336] 31 (0, 0)) (by (with_reducible repeat (first | refine blk_drewN ?_ _ | refine blk_drew ?_ | refine blk_alloc ?_ _)); refine blk_put (cs := #[.int .i64 t329, .slice Ao28 t330.length co28, .slice Ao29 t333.length co29, .int .i64 0]) ?_ 3 _ rfl; (with_reducible repeat (first | refine blk_drewN ?_ _ | refine blk_drew ?_ | refine blk_alloc ?_ _)); refine blk_put (cs := #[.int .i64 t329, .slice Ao28 t330.length co28, .slice none 0 0, .int .i64 0]) ?_ 2 _ rfl; (with_reducible repeat (first | refine blk_drewN ?_ _ | refine blk_drew ?_ | refine blk_alloc ?_ _)); refine blk_put (cs := #[.int .i64 t329, .slice none 0 0, .slice none 0 0, .int .i64 0]) ?_ 1 _ rfl; (with_reducible repeat (first | refine blk_drewN ?_ _ | refine blk_drew ?_ | refine blk_alloc ?_ _)); refine blk_put (cs := #[.int .i64 0, .slice none 0 0, .slice none 0 0, .int .i64 0]) ?_ 0 _ rfl; (with_reducible repeat (first | refine blk_drewN ?_ _ | refine blk_drew ?_ | refine blk_alloc ?_ _)); exact BK337.out) hb; replace HB := sB zq58 hb; clear hb))
 (try simp only [Act.put, List.setIfInBounds_toArray, List.set_cons_zero, List.set_cons_succ])
 go_cut [41] (fun v41 wc => ∃ (kq : Nat) (x41_13 : Bool), v41 = .bool x41_13 ∧ Aside0 (laws_FnExactGetBlob.j0 kq x41_13 a0_0 l0_1 l0_2 a0_3 t329 t330 t333 t336 = some r) ∧ Aside0 (kq ≤ k) ∧ Aside0 (Kd.R k66 66 wc w.heap.size (fun _ => True) (.slice Ao28 t330.length co28) t330) ∧ Aside0 (Kd.R k68 68 wc w.heap.size (fun _ => True) (.slice Ao29 t333.length co29) t333) ∧ Aside0 (wc.heap[gb317]? = some (.cells #[.int .i64 a0_0, (.slice A0_1 l0_1.length c0_1), (.slice A0_2 l0_2.length c0_2), .int .i64 a0_3] 25 (0, 0))) ∧ Aside0 (wc.heap[gb337]? = some (.cells #[.int .i64 t329, (.slice Ao28 t330.length co28), (.slice Ao29 t333.length co29), .int .i64 t336] 31 (0, 0))) ∧ Aside0 (Below w.heap.size w wc))
 case first =>
  have H := HC14.out
  clear HC14
  by_cases c31 : t338.toList = t327.toList
  ·
   rw [if_pos c31] at H
   have c31b0 : (t338.toList == t327.toList) = true := beq_iff_eq.mpr c31
   have c31b1 : (t338.toList != t327.toList) = false := bne_eq_false_iff_eq.mpr c31
   clear c31
   (first | rw [c31b0] | (simp only [i64_w, i32_w]; rw [c31b0]) | skip)
   have H' := Aside0.mk H
   clear H
   go_wp2
   go_meet
   case rel => exact ⟨_, ((t339 != t328)), zq6, H', ⟨zq37⟩, ⟨zq59⟩, ⟨zq60⟩, ⟨zq53⟩, ⟨zq61⟩, ⟨zq58⟩⟩
  rw [if_neg c31] at H
  have c31b0 : (t338.toList == t327.toList) = false := beq_eq_false_iff_ne.mpr c31
  have c31b1 : (t338.toList != t327.toList) = true := bne_iff_ne.mpr c31
  (first | rw [c31b0] | (simp only [i64_w, i32_w]; rw [c31b0]) | skip)
  have H' := Aside0.mk H
  clear H
  go_wp2
  go_meet
  case rel => exact ⟨_, (true), zq6, H', ⟨zq37⟩, ⟨zq59⟩, ⟨zq60⟩, ⟨zq53⟩, ⟨zq61⟩, ⟨zq58⟩⟩
 case rest =>
  clear HC14
  try clear c1
  try clear c2
  try clear p2
  try clear c3
  try clear c3b0
  try clear c3b1
  try clear c5
  try clear c6
  try clear c6b0
  try clear c15
  try clear c17
  try clear c22
  try clear c23
  try clear c26
  try clear c31
  try clear c31b0
  try clear c31b1
  try clear hcz16_0
  try clear hcz16_1
  try clear hcz16_2
  try clear hcz16_3
  try clear hcz18_0
  try clear hcz18_1
  try clear hcz18_2
  try clear hcz18_3
  try clear hcz23_0
  try clear hcz23_1
  try clear hcz23_2
  try clear hcz23_3
  try clear hcz27_0
  try clear hcz27_1
  try clear hcz27_2
  try clear hcz27_3
  try clear hcz8_0
  try clear hcz8_1
  try clear hcz8_2
  try clear hcz8_3
  try clear hfz16_0
  try clear hfz16_1
  try clear hfz16_2
  try clear hfz16_3
  try clear hfz18_0
  try clear hfz18_1
  try clear hfz18_2
  try clear hfz18_3
  try clear hfz23_0
  try clear hfz23_1
  try clear hfz23_2
  try clear hfz23_3
  try clear hfz27_0
  try clear hfz27_1
  try clear hfz27_2
  try clear hfz27_3
  try clear hfz8_0
  try clear hfz8_1
  try clear hfz8_2
  try clear hfz8_3
  obtain ⟨kq, x41_13, rfl, HA, HJ13, HO_338001, HO_338002, BK317, BK337, HB⟩ := hcut
  cases kq with
  | zero => exact absurd HA.out (by simp [laws_FnExactGetBlob.j0])
  | succ kj13 =>
   have H := HA.out
   clear HA
   simp only [laws_FnExactGetBlob.j0] at H
   by_cases c32 : x41_13 = true
   ·
    subst c32
    have H1 : (some false) = some r := by rw [if_pos rfl] at H; exact H
    clear H
    have H := H1
    clear H1
    obtain rfl := Option.some.inj H
    go_wp2
    go_ret
    exact ⟨zq4, zq58⟩
   replace c32 := Bool.eq_false_iff.mpr c32
   subst c32
   have H1 : ((laws_toStore.f kj13 a0_0 l0_1 l0_2 a0_3).bind fun bt340 => ((laws_eqStore.f kj13 t329 t330 t333 t336 bt340.1 bt340.2.1 bt340.2.2.1 bt340.2.2.2).bind fun t348 => (if t348 = true then (some true) else (some false)))) = some r := by rw [if_neg (show ¬ (false = true) by decide)] at H; exact H
   clear H
   have H := H1
   clear H1
   replace H := Option.bind_eq_some_iff.mp H
   obtain ⟨⟨t340, t341, t344, t347⟩, A330, H⟩ := H
   try dsimp only at H
   have A33 := Aside0.mk A330
   clear A330
   replace H := Option.bind_eq_some_iff.mp H
   obtain ⟨t348, A340, H⟩ := H
   try dsimp only at H
   have A34 := Aside0.mk A340
   clear A340
   by_cases c35 : t348 = true
   ·
    subst c35
    have H1 : (some true) = some r := by rw [if_pos rfl] at H; exact H
    clear H
    have H := H1
    clear H1
    obtain rfl := Option.some.inj H
    try go_wp2
    replace HO_338001 := Aside0.mk (Kd.R_drew HO_338001.out)
    replace HO_338002 := Aside0.mk (Kd.R_drew HO_338002.out)
    replace BK317 := Aside0.mk (blk_drew BK317.out)
    replace BK337 := Aside0.mk (blk_drew BK337.out)
    replace HB := Aside0.mk (below_drew1 HB.out)
    refine start_ (n := 5) (S := fun w' => w'.cell? ⟨gb337, 0, none⟩ = some (.int .i64 t329) ∧ w'.cell? ⟨gb337, 1, none⟩ = some (.slice Ao28 t330.length co28) ∧ w'.cell? ⟨gb337, 2, none⟩ = some (.slice Ao29 t333.length co29) ∧ w'.cell? ⟨gb337, 3, none⟩ = some (.int .i64 t336) ∧ w'.cell? ⟨gb317, 0, none⟩ = some (.int .i64 a0_0) ∧ w'.cell? ⟨gb317, 1, none⟩ = some (.slice A0_1 l0_1.length c0_1) ∧ w'.cell? ⟨gb317, 2, none⟩ = some (.slice A0_2 l0_2.length c0_2) ∧ w'.cell? ⟨gb317, 3, none⟩ = some (.int .i64 a0_3)) (ds := []) #[false, false, false, false, false] (by kernel_rfl) rfl rfl ⟨(blk_cell BK337.out 0).trans rfl, (blk_cell BK337.out 1).trans rfl, (blk_cell BK337.out 2).trans rfl, (blk_cell BK337.out 3).trans rfl, (blk_cell BK317.out 0).trans rfl, (blk_cell BK317.out 1).trans rfl, (blk_cell BK317.out 2).trans rfl, (blk_cell BK317.out 3).trans rfl⟩ (fun hHeld => ?_)
    generalize wc.drew = w36 at HO_338001 HO_338002 BK317 BK337 HB hHeld ⊢
    refine take_ (i := 0) (N := some 42) (v := ?_) (a' := ?_) #[true, false, false, false, false] rfl rfl (by kernel_rfl) (fun _ _ _ h => h) (Or.inl ⟨by rfl, ?_⟩) hHeld ?_ ?_
    rotate_left
    exact zq160
    rotate_left
    exact zq157
    refine take_ (i := 1) (N := some 43) (v := ?_) (a' := ?_) #[true, true, false, false, false] rfl rfl (by kernel_rfl) (fun _ _ _ h => h) (Or.inl ⟨by rfl, ?_⟩) hHeld ?_ ?_
    rotate_left
    exact zq160
    rotate_left
    exact zq157
    refine one_ (i := 2) (N := some 44) #[true, true, true, false, false] rfl rfl (by kernel_rfl) (by decide) (fun K hK => ?_)
    refine goes_ Try.func17 (by kernel_rfl) rfl #[.agg #[.int .i64 a0_0, .slice A0_1 l0_1.length c0_1, .slice A0_2 l0_2.length c0_2, .int .i64 a0_3]] (by rfl) rfl rfl zq8 ?_
    with_reducible refine (laws_toStore.calls kj13 a0_0 _ _ l0_1 _ _ l0_2 a0_3 t340 t341 t344 t347 _ ?side1 ?side2 ?side3 ?side4 A33.out).mono ?_
    (case side1 => exact zq11)
    (case side2 => exact zq12)
    (case side3 => exact zq15)
    (case side4 => exact zq16)
    rintro e w37 ⟨v342, v345, rfl, ho0, ho1, hb⟩
    refine ⟨_, rfl, ?_⟩
    have HO343 := Aside0.mk (Kd.R_lower (Kd.R_new' ho0 (Kd.R_lt zq62)) (below_size zq58))
    replace HO_338001 := Aside0.mk (Kd.R_elder' zq62 (Kd.R_base ho0) hb)
    have HO346 := Aside0.mk (Kd.R_lower (Kd.R_new' ho1 (Kd.R_lt zq63)) (below_size zq58))
    replace HO_338002 := Aside0.mk (Kd.R_elder' zq63 (Kd.R_base ho1) hb)
    replace BK317 := bF BK317 zq53 hb
    replace BK337 := bF BK337 zq61 hb
    replace HB := sB zq58 hb
    (try clear hb)
    (try clear hb2)
    (try clear hk)
    (try clear hi)
    (try clear ho0)
    (try clear ho1)
    obtain ⟨Ao38, co38, eo38⟩ := Kd.R_slice HO343.out
    (first | subst eo38 | (injection eo38 with f1_ f2_ f3_; have f4_ := f1_.symm; have f5_ := f3_.symm; clear f1_ f2_ f3_; subst f4_; subst f5_))
    obtain ⟨Ao39, co39, eo39⟩ := Kd.R_slice HO346.out
    (first | subst eo39 | (injection eo39 with f1_ f2_ f3_; have f4_ := f1_.symm; have f5_ := f3_.symm; clear f1_ f2_ f3_; subst f4_; subst f5_))
    refine hK.out _ _ ⟨(blk_cell BK337.out 0).trans rfl, (blk_cell BK337.out 1).trans rfl, (blk_cell BK337.out 2).trans rfl, (blk_cell BK337.out 3).trans rfl, (blk_cell BK317.out 0).trans rfl, (blk_cell BK317.out 1).trans rfl, (blk_cell BK317.out 2).trans rfl, (blk_cell BK317.out 3).trans rfl⟩ (fun hHeld => ?_)
    clear hK K
    refine norm_ (a' := ?_) ?_ ?_
    rotate_left
    ·
     show Act.put _ (some 44) _ = _
     simp only [Act.put, List.setIfInBounds_toArray, List.set_cons_zero, List.set_cons_succ, i64_w, i32_w]
     rfl
    refine one_ (i := 3) (N := some 45) #[true, true, true, true, false] rfl rfl (by kernel_rfl) (by decide) (fun K hK => ?_)
    refine goes_ Try.func19 (by kernel_rfl) rfl #[.agg #[.int .i64 t329, .slice Ao28 t330.length co28, .slice Ao29 t333.length co29, .int .i64 t336], .agg #[.int .i64 t340, .slice Ao38 t341.length co38, .slice Ao39 t344.length co39, .int .i64 t347]] (by rfl) rfl rfl zq8 ?_
    with_reducible refine (laws_eqStore.calls kj13 t329 _ _ t330 _ _ t333 t336 t340 _ _ t341 _ _ t344 t347 true _ ?side1 ?side2 ?side3 ?side4 ?side5 ?side6 ?side7 ?side8 A34.out).mono ?_
    (case side1 => exact zq64)
    (case side2 => exact (Kd.R_reads' HO_338001.out).2.1)
    (case side3 => exact zq65)
    (case side4 => exact (Kd.R_reads' HO_338002.out).2.1)
    (case side5 => exact zq66)
    (case side6 => exact (Kd.R_reads' HO343.out).2.1)
    (case side7 => exact zq67)
    (case side8 => exact (Kd.R_reads' HO346.out).2.1)
    rintro e w40 ⟨rfl, hb⟩
    refine ⟨_, rfl, ?_⟩
    replace HO_338001 := rB zq62 hb
    replace HO_338002 := rB zq63 hb
    replace HO343 := rB zq68 hb
    replace HO346 := rB zq69 hb
    replace BK317 := bF BK317 zq53 hb
    replace BK337 := bF BK337 zq61 hb
    replace HB := sB zq58 hb
    (try clear hb)
    (try clear hb2)
    (try clear hk)
    (try clear hi)
    refine hK.out _ _ ⟨(blk_cell BK337.out 0).trans rfl, (blk_cell BK337.out 1).trans rfl, (blk_cell BK337.out 2).trans rfl, (blk_cell BK337.out 3).trans rfl, (blk_cell BK317.out 0).trans rfl, (blk_cell BK317.out 1).trans rfl, (blk_cell BK317.out 2).trans rfl, (blk_cell BK317.out 3).trans rfl⟩ (fun hHeld => ?_)
    clear hK K
    refine norm_ (a' := ?_) ?_ ?_
    rotate_left
    ·
     show Act.put _ (some 45) _ = _
     simp only [Act.put, List.setIfInBounds_toArray, List.set_cons_zero, List.set_cons_succ, i64_w, i32_w]
     rfl
    refine pure_ (i := 4) (N := some 46) (v := ?_) (a' := ?_) #[true, true, true, true, true] rfl rfl (by kernel_rfl) (fun _ _ _ h => h) (Or.inl ⟨by rfl, ?_⟩) ?_ ?_
    rotate_left
    exact zq156
    rotate_left
    exact zq157
    refine done_ (by kernel_rfl) ?_
    try go_wp2
    go_ret
    exact ⟨zq4, zq58⟩
   replace c35 := Bool.eq_false_iff.mpr c35
   subst c35
   have H1 : (some false) = some r := by rw [if_neg (show ¬ (false = true) by decide)] at H; exact H
   clear H
   have H := H1
   clear H1
   obtain rfl := Option.some.inj H
   try go_wp2
   replace HO_338001 := Aside0.mk (Kd.R_drew HO_338001.out)
   replace HO_338002 := Aside0.mk (Kd.R_drew HO_338002.out)
   replace BK317 := Aside0.mk (blk_drew BK317.out)
   replace BK337 := Aside0.mk (blk_drew BK337.out)
   replace HB := Aside0.mk (below_drew1 HB.out)
   refine start_ (n := 5) (S := fun w' => w'.cell? ⟨gb337, 0, none⟩ = some (.int .i64 t329) ∧ w'.cell? ⟨gb337, 1, none⟩ = some (.slice Ao28 t330.length co28) ∧ w'.cell? ⟨gb337, 2, none⟩ = some (.slice Ao29 t333.length co29) ∧ w'.cell? ⟨gb337, 3, none⟩ = some (.int .i64 t336) ∧ w'.cell? ⟨gb317, 0, none⟩ = some (.int .i64 a0_0) ∧ w'.cell? ⟨gb317, 1, none⟩ = some (.slice A0_1 l0_1.length c0_1) ∧ w'.cell? ⟨gb317, 2, none⟩ = some (.slice A0_2 l0_2.length c0_2) ∧ w'.cell? ⟨gb317, 3, none⟩ = some (.int .i64 a0_3)) (ds := []) #[false, false, false, false, false] (by kernel_rfl) rfl rfl ⟨(blk_cell BK337.out 0).trans rfl, (blk_cell BK337.out 1).trans rfl, (blk_cell BK337.out 2).trans rfl, (blk_cell BK337.out 3).trans rfl, (blk_cell BK317.out 0).trans rfl, (blk_cell BK317.out 1).trans rfl, (blk_cell BK317.out 2).trans rfl, (blk_cell BK317.out 3).trans rfl⟩ (fun hHeld => ?_)
   generalize wc.drew = w41 at HO_338001 HO_338002 BK317 BK337 HB hHeld ⊢
   refine take_ (i := 0) (N := some 42) (v := ?_) (a' := ?_) #[true, false, false, false, false] rfl rfl (by kernel_rfl) (fun _ _ _ h => h) (Or.inl ⟨by rfl, ?_⟩) hHeld ?_ ?_
   rotate_left
   exact zq160
   rotate_left
   exact zq157
   refine take_ (i := 1) (N := some 43) (v := ?_) (a' := ?_) #[true, true, false, false, false] rfl rfl (by kernel_rfl) (fun _ _ _ h => h) (Or.inl ⟨by rfl, ?_⟩) hHeld ?_ ?_
   rotate_left
   exact zq160
   rotate_left
   exact zq157
   refine one_ (i := 2) (N := some 44) #[true, true, true, false, false] rfl rfl (by kernel_rfl) (by decide) (fun K hK => ?_)
   refine goes_ Try.func17 (by kernel_rfl) rfl #[.agg #[.int .i64 a0_0, .slice A0_1 l0_1.length c0_1, .slice A0_2 l0_2.length c0_2, .int .i64 a0_3]] (by rfl) rfl rfl zq8 ?_
   with_reducible refine (laws_toStore.calls kj13 a0_0 _ _ l0_1 _ _ l0_2 a0_3 t340 t341 t344 t347 _ ?side1 ?side2 ?side3 ?side4 A33.out).mono ?_
   (case side1 => exact zq11)
   (case side2 => exact zq12)
   (case side3 => exact zq15)
   (case side4 => exact zq16)
   rintro e w42 ⟨v342, v345, rfl, ho0, ho1, hb⟩
   refine ⟨_, rfl, ?_⟩
   have HO343 := Aside0.mk (Kd.R_lower (Kd.R_new' ho0 (Kd.R_lt zq62)) (below_size zq58))
   replace HO_338001 := Aside0.mk (Kd.R_elder' zq62 (Kd.R_base ho0) hb)
   have HO346 := Aside0.mk (Kd.R_lower (Kd.R_new' ho1 (Kd.R_lt zq63)) (below_size zq58))
   replace HO_338002 := Aside0.mk (Kd.R_elder' zq63 (Kd.R_base ho1) hb)
   replace BK317 := bF BK317 zq53 hb
   replace BK337 := bF BK337 zq61 hb
   replace HB := sB zq58 hb
   (try clear hb)
   (try clear hb2)
   (try clear hk)
   (try clear hi)
   (try clear ho0)
   (try clear ho1)
   obtain ⟨Ao43, co43, eo43⟩ := Kd.R_slice HO343.out
   (first | subst eo43 | (injection eo43 with f1_ f2_ f3_; have f4_ := f1_.symm; have f5_ := f3_.symm; clear f1_ f2_ f3_; subst f4_; subst f5_))
   obtain ⟨Ao44, co44, eo44⟩ := Kd.R_slice HO346.out
   (first | subst eo44 | (injection eo44 with f1_ f2_ f3_; have f4_ := f1_.symm; have f5_ := f3_.symm; clear f1_ f2_ f3_; subst f4_; subst f5_))
   refine hK.out _ _ ⟨(blk_cell BK337.out 0).trans rfl, (blk_cell BK337.out 1).trans rfl, (blk_cell BK337.out 2).trans rfl, (blk_cell BK337.out 3).trans rfl, (blk_cell BK317.out 0).trans rfl, (blk_cell BK317.out 1).trans rfl, (blk_cell BK317.out 2).trans rfl, (blk_cell BK317.out 3).trans rfl⟩ (fun hHeld => ?_)
   clear hK K
   refine norm_ (a' := ?_) ?_ ?_
   rotate_left
   ·
    show Act.put _ (some 44) _ = _
    simp only [Act.put, List.setIfInBounds_toArray, List.set_cons_zero, List.set_cons_succ, i64_w, i32_w]
    rfl
   refine one_ (i := 3) (N := some 45) #[true, true, true, true, false] rfl rfl (by kernel_rfl) (by decide) (fun K hK => ?_)
   refine goes_ Try.func19 (by kernel_rfl) rfl #[.agg #[.int .i64 t329, .slice Ao28 t330.length co28, .slice Ao29 t333.length co29, .int .i64 t336], .agg #[.int .i64 t340, .slice Ao43 t341.length co43, .slice Ao44 t344.length co44, .int .i64 t347]] (by rfl) rfl rfl zq8 ?_
   with_reducible refine (laws_eqStore.calls kj13 t329 _ _ t330 _ _ t333 t336 t340 _ _ t341 _ _ t344 t347 false _ ?side1 ?side2 ?side3 ?side4 ?side5 ?side6 ?side7 ?side8 A34.out).mono ?_
   (case side1 => exact zq64)
   (case side2 => exact (Kd.R_reads' HO_338001.out).2.1)
   (case side3 => exact zq65)
   (case side4 => exact (Kd.R_reads' HO_338002.out).2.1)
   (case side5 => exact zq66)
   (case side6 => exact (Kd.R_reads' HO343.out).2.1)
   (case side7 => exact zq67)
   (case side8 => exact (Kd.R_reads' HO346.out).2.1)
   rintro e w45 ⟨rfl, hb⟩
   refine ⟨_, rfl, ?_⟩
   replace HO_338001 := rB zq62 hb
   replace HO_338002 := rB zq63 hb
   replace HO343 := rB zq68 hb
   replace HO346 := rB zq69 hb
   replace BK317 := bF BK317 zq53 hb
   replace BK337 := bF BK337 zq61 hb
   replace HB := sB zq58 hb
   (try clear hb)
   (try clear hb2)
   (try clear hk)
   (try clear hi)
   refine hK.out _ _ ⟨(blk_cell BK337.out 0).trans rfl, (blk_cell BK337.out 1).trans rfl, (blk_cell BK337.out 2).trans rfl, (blk_cell BK337.out 3).trans rfl, (blk_cell BK317.out 0).trans rfl, (blk_cell BK317.out 1).trans rfl, (blk_cell BK317.out 2).trans rfl, (blk_cell BK317.out 3).trans rfl⟩ (fun hHeld => ?_)
   clear hK K
   refine norm_ (a' := ?_) ?_ ?_
   rotate_left
   ·
    show Act.put _ (some 45) _ = _
    simp only [Act.put, List.setIfInBounds_toArray, List.set_cons_zero, List.set_cons_succ, i64_w, i32_w]
    rfl
   refine pure_ (i := 4) (N := some 46) (v := ?_) (a' := ?_) #[true, true, true, true, true] rfl rfl (by kernel_rfl) (fun _ _ _ h => h) (Or.inl ⟨by rfl, ?_⟩) ?_ ?_
   rotate_left
   exact zq156
   rotate_left
   exact zq157
   refine done_ (by kernel_rfl) ?_
   try go_wp2
   go_ret
   exact ⟨zq4, zq58⟩

/-- THE ONE PURE STATEMENT of laws_FnExactGetBlob. -/
def laws_FnExactGetBlob.Pure : Prop := ∀ (a0_0 : Int) (l0_1 : List (S95)) (l0_2 : List (S97)) (a0_3 : Int) (a1 : ByteArray), (Lit.int .i64 a0_0).wf = true → (l0_1.length ≤ maxLen ∧ ∀ y0_ ∈ l0_1, (y0_.f0.size ≤ maxLen ∧ y0_.f1.size ≤ maxLen)) → (l0_2.length ≤ maxLen ∧ ∀ y0_ ∈ l0_2, ((Lit.int .i64 y0_.f0).wf = true ∧ y0_.f1.size ≤ maxLen)) → (Lit.int .i64 a0_3).wf = true → a1.size ≤ 140737488351232 → ∃ k, laws_FnExactGetBlob.f k a0_0 l0_1 l0_2 a0_3 a1 = some true

end Go.Proofs.Ytacaeebjanglgaa.QFnExactGetBlob
