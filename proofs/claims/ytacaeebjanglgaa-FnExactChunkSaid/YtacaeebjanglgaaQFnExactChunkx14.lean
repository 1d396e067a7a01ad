/- Written by wip/myprint.py of this repo (the kit's print, with additions of this session). -/
import Derived.Test.YtacaeebjanglgaaQFnExactChunkx0
import Derived.Test.YtacaeebjanglgaaQFnExactChunkx10
import Derived.Test.YtacaeebjanglgaaQFnExactChunkx13
set_option maxRecDepth 100000
namespace Go.Proofs.Ytacaeebjanglgaa.QFnExactChunk
open Go.RowKit Go.Proofs.YtacaeebjanglgaaW.PrintWords Go.Proofs.YtacaeebjanglgaaW.PrintLast Go.Proofs.YtacaeebjanglgaaW.PrintMore
attribute [local go_sem] max2_int min2_int max_two min_two max_three min_three max_four min_four   -- for this text's walks alone
set_option linter.unusedVariables false
set_option linter.unusedSimpArgs false

/-! ### impl_copyStore: function 65 -/
def impl_copyStore.f (a0_0 : Int) (l0_1 : List (S66)) (l0_2 : List (S68)) (a0_3 : Int) : Option (Int × (List (S66)) × (List (S68)) × Int) := (some (([] : List (S66)) : List (S66))).bind fun y377 => (if y377.length + l0_1.length < 4398046511104 then ((some (([] : List (S68)) : List (S68))).bind fun y383 => (if y383.length + l0_2.length < 5864062014805 then (some (a0_0, (y377 ++ l0_1), (y383 ++ l0_2), a0_3)) else (none))) else (none))
set_option maxHeartbeats 8000000 in
set_option maxRecDepth 100000 in
theorem impl_copyStore.calls (a0_0 : Int) (A0_1 : Option Addr) (c0_1 : Nat) (l0_1 : List (S66)) (A0_2 : Option Addr) (c0_2 : Nat) (l0_2 : List (S68)) (a0_3 : Int) (r1 : Int) (r2 : List (S66)) (r3 : List (S68)) (r4 : Int) (w : World) (hr0_1 : Kd.C k66 w A0_1 l0_1.length l0_1) (hc0_1 : l0_1.length ≤ c0_1) (hr0_2 : Kd.C k68 w A0_2 l0_2.length l0_2) (hc0_2 : l0_2.length ≤ c0_2) (h : impl_copyStore.f a0_0 l0_1 l0_2 a0_3 = some (r1, r2, r3, r4)) :
  Calls Try.prog 65 #[.agg st[a0_0 A0_1 l0_1 c0_1 A0_2 l0_2 c0_2 a0_3]] w fun e w' => ∃ v1_ v2_ : Value, e = .returned (.agg #[.int .i64 r1, v1_, v2_, .int .i64 r4]) ∧ Kd.R k66 66 w' w.heap.size (fun _ => True) v1_ r2 ∧ Kd.R k68 68 w' w.heap.size (fun _ => True) v2_ r3 ∧ Below w.heap.size w w' := by
 have hu31 := Try.underlying31
 have HR0_1 := Aside0.mk hr0_1
 have HC0_1 := Aside0.mk hc0_1
 clear hr0_1 hc0_1
 have HR0_2 := Aside0.mk hr0_2
 have HC0_2 := Aside0.mk hc0_2
 clear hr0_2 hc0_2
 have HB := Aside0.mk (Below.refl w.heap.size w)
 have H : ((some (([] : List (S66)) : List (S66))).bind fun y377 => (if y377.length + l0_1.length < 4398046511104 then ((some (([] : List (S68)) : List (S68))).bind fun y383 => (if y383.length + l0_2.length < 5864062014805 then (some (a0_0, (y377 ++ l0_1), (y383 ++ l0_2), a0_3)) else (none))) else (none))) = some (r1, r2, r3, r4) := h
 clear h
 obtain ⟨y377, hy377⟩ : ∃ y_ : List (S66), y_ = (([] : List (S66))) := ⟨_, rfl⟩
 replace H : (if y377.length + l0_1.length < 4398046511104 then ((some (([] : List (S68)) : List (S68))).bind fun y383 => (if y383.length + l0_2.length < 5864062014805 then (some (a0_0, (y377 ++ l0_1), (y383 ++ l0_2), a0_3)) else (none))) else (none)) = some (r1, r2, r3, r4) := by first | (rw [hy377]; with_reducible exact H) | (have H2_ := (Option.bind_some _ _).symm.trans H; rw [hy377]; with_reducible exact H2_) | (have H2_ := (Option.bind_some _ _).symm.trans H; with_reducible exact H2_) | with_reducible exact H | (rw [hy377]; exact H) | exact H
 have Ny377 := Aside0.mk hy377
 clear hy377
 by_cases c2 : y377.length + l0_1.length < 4398046511104
 ·
  rw [if_pos c2] at H
  have LMc2 := Aside0.mk c2
  clear c2
  obtain ⟨y380, hy380⟩ : ∃ y_ : List (S66), y_ = (y377 ++ l0_1) := ⟨_, rfl⟩
  replace H : ((some (([] : List (S68)) : List (S68))).bind fun y383 => (if y383.length + l0_2.length < 5864062014805 then (some (a0_0, y380, (y383 ++ l0_2), a0_3)) else (none))) = some (r1, r2, r3, r4) := by first | (rw [hy380]; with_reducible exact H) | (have H2_ := (Option.bind_some _ _).symm.trans H; rw [hy380]; with_reducible exact H2_) | (have H2_ := (Option.bind_some _ _).symm.trans H; with_reducible exact H2_) | with_reducible exact H | (rw [hy380]; exact H) | exact H
  have Ny380 := Aside0.mk hy380
  clear hy380
  obtain ⟨y383, hy383⟩ : ∃ y_ : List (S68), y_ = (([] : List (S68))) := ⟨_, rfl⟩
  replace H : (if y383.length + l0_2.length < 5864062014805 then (some (a0_0, y380, (y383 ++ l0_2), a0_3)) else (none)) = some (r1, r2, r3, r4) := by first | (rw [hy383]; with_reducible exact H) | (have H2_ := (Option.bind_some _ _).symm.trans H; rw [hy383]; with_reducible exact H2_) | (have H2_ := (Option.bind_some _ _).symm.trans H; with_reducible exact H2_) | with_reducible exact H | (rw [hy383]; exact H) | exact H
  have Ny383 := Aside0.mk hy383
  clear hy383
  by_cases c3 : y383.length + l0_2.length < 5864062014805
  ·
   rw [if_pos c3] at H
   have LMc3 := Aside0.mk c3
   clear c3
   obtain ⟨y386, hy386⟩ : ∃ y_ : List (S68), y_ = (y383 ++ l0_2) := ⟨_, rfl⟩
   replace H : (some (a0_0, y380, y386, a0_3)) = some (r1, r2, r3, r4) := by first | (rw [hy386]; with_reducible exact H) | (have H2_ := (Option.bind_some _ _).symm.trans H; rw [hy386]; with_reducible exact H2_) | (have H2_ := (Option.bind_some _ _).symm.trans H; with_reducible exact H2_) | with_reducible exact H | (rw [hy386]; exact H) | exact H
   have Ny386 := Aside0.mk hy386
   clear hy386
   simp only [Option.some.injEq, Prod.mk.injEq] at H
   obtain ⟨rfl, rfl, rfl, rfl⟩ := H
   go_enter Try.func65, Try.ntmps65
   go_wp2_with (first | ((with_reducible refine gate_dst (N := 1) rfl ?_); refine box_event ?hg (N := 1) ?hd (cs := st[a0_0 A0_1 l0_1 c0_1 A0_2 l0_2 c0_2 a0_3]) (t := 31) ?hr ?_; (case hd => rfl); (case hg => rfl); (case hr => exact zq2); intro gb375 hg w4 hbox hb; rn_ [BK375 GW375 GE375] HB := bs_ zq3, BK375 := hbox, GW375 := gw_ zq260 gb375, GE375 := gw_ zq260 gb375; clear hb hbox hg) | ((with_reducible refine gate_dst (N := 2) rfl ?_); refine box_event ?hg (N := 2) ?hd (cs := #[.int .i64 0, .slice none 0 0, .slice none 0 0, .int .i64 0]) (t := 31) ?hr ?_; (case hd => rfl); (case hg => rfl); (case hr => exact zq2); intro gb376 hg w5 hbox hb; rn_ [BK376 GW376 GE376 NB375_376 NB376_375] BK375 := bb_ gb375 st[a0_0 A0_1 l0_1 c0_1 A0_2 l0_2 c0_2 a0_3] 31 zq77, HB := bs_ zq78, BK376 := hbox, GW376 := (by rw [hg]; exact (below_size zq78) : w.heap.size ≤ gb376), GE376 := (by rw [hg]; exact (below_size zq78) : w.heap.size ≤ gb376), NB375_376 := (by rw [hg]; exact Nat.ne_of_lt (blk_lt (g := gb375) (o := .cells st[a0_0 A0_1 l0_1 c0_1 A0_2 l0_2 c0_2 a0_3] 31 (0, 0)) zq77) : gb375 ≠ gb376), NB376_375 := (by rw [hg]; exact Nat.ne_of_gt (blk_lt (g := gb375) (o := .cells st[a0_0 A0_1 l0_1 c0_1 A0_2 l0_2 c0_2 a0_3] 31 (0, 0)) zq77) : gb376 ≠ gb375); clear hb hbox hg) | ((with_reducible refine gate_dst (N := 3) rfl ?_); refine Kd.R_lit k66 _ 66 ?hg (N := 3) ?hd (xs := ([] : List (S66))) (inner := []) (ok := fun _ => True) (okp := fun _ => True) ?hr ?hp (fun _ hk => hk) trivial (Below.refl _ _) (Nat.le_refl _) (by simp) ?_; (case hd => rfl); (case hg => rfl); (case hr => exact zq2); (case hp => exact zq55); intro v378 w6 ho7 hb hg_ hnew_; clear hg_ hnew_; (first | rw [← Ny377.out] at ho7 | (simp only [Int.reduceToNat] at ho7; rw [← Ny377.out] at ho7)); rn_ [HO379] HO379 := Kd.R_lower ho7 (below_size zq79), BK375 := bb_ gb375 st[a0_0 A0_1 l0_1 c0_1 A0_2 l0_2 c0_2 a0_3] 31 zq77, BK376 := bb_ gb376 #[.int .i64 0, .slice none 0 0, .slice none 0 0, .int .i64 0] 31 zq80, HB := bs_ zq79; clear hb ho7; have hnb8 := NB375_376.out; have hnc8 := NB376_375.out; cy_ 9 w6 gb375 BK375 a0_0 A0_1 l0_1 c0_1 A0_2 l0_2 c0_2 a0_3) | ((with_reducible refine gate_builtin (b := .append) (xs := #[.tmp 3, .tmp 5]) rfl ?_); at_builtin; refine Kd.R_append_rows k66 (w0 := w) w.heap.size rfl (.tmp 3) (.tmp 5) 28 66 (.agg #[(.string ⟨#[]⟩), (.string ⟨#[]⟩)]) 32 rfl Try.underlying28 info66 rfl (by decide) (by omega) v378 y377 l0_1 _ _ _ (fun _ => True) (fun _ => False) rfl rfl ?aO ?aR (fun _ _ h => h) (fun _ h => h.elim) ?aF ?aB ?aS ?aL ?_; (case aR => exact zq11); (case aB => exact zq79); (case aF => exact zq53); (case aO => exact (by dR_; exact HO379.out)); (case aS => exact (below_size zq79)); (case aL => have := LMc2.out; omega); intro v381 w10 ho hb hg hat; rw [← Ny380.out] at ho; have n0_ := Aside0.mk (blk_grown (g := gb375) (o := .cells st[a0_0 A0_1 l0_1 c0_1 A0_2 l0_2 c0_2 a0_3] 31 (0, 0)) zq77 hg (Kd.R_ne HO379.out BK375.out (by decide))); have n1_ := Aside0.mk (blk_grown (g := gb376) (o := .cells #[.int .i64 0, .slice none 0 0, .slice none 0 0, .int .i64 0] 31 (0, 0)) zq80 hg (Kd.R_ne HO379.out BK376.out (by decide))); have n2_ := Aside0.mk (hb); have n3_ := Aside0.mk (ho); clear BK375; clear BK376; clear HB; clear HO379; have BK375 := n0_; have BK376 := n1_; have HB := n2_; have HO382 := n3_; clear n0_ n1_ n2_ n3_; clear ho hb hg hat; obtain ⟨Ao11, co11, eo11⟩ := Kd.R_slice HO382.out; subst eo11; cy_ 12 w10 gb375 BK375 a0_0 A0_1 l0_1 c0_1 A0_2 l0_2 c0_2 a0_3) | ((with_reducible refine gate_dst (N := 8) rfl ?_); refine Kd.R_lit k68 _ 68 ?hg (N := 8) ?hd (xs := ([] : List (S68))) (inner := []) (ok := fun _ => True) (okp := fun _ => True) ?hr ?hp (fun _ hk => hk) trivial (Below.refl _ _) (Nat.le_refl _) (by simp) ?_; (case hd => rfl); (case hg => rfl); (case hr => exact zq2); (case hp => exact zq55); intro v384 w13 ho14 hb hg_ hnew_; clear hg_ hnew_; (first | rw [← Ny383.out] at ho14 | (simp only [Int.reduceToNat] at ho14; rw [← Ny383.out] at ho14)); rn_ [HO385] HO382 := Kd.R_below (by dR_; exact (Kd.R_mono (Kd.R_far (p := ⟨gb375, 1, none⟩) (Kd.R_types HO382.out BK375.out (by decide)) (fun _ hk => hk.2) (.slice Ao11 y380.length co11)) (fun _ h_ => h_.1))) hb, HO385 := Kd.R_lower ho14 (below_size zq79), BK375 := bb_ gb375 st[a0_0 Ao11 y380 co11 A0_2 l0_2 c0_2 a0_3] 31 (by dB_; refine blk_put (cs := st[a0_0 A0_1 l0_1 c0_1 A0_2 l0_2 c0_2 a0_3]) ?_ 1 _ rfl; dB_; exact BK375.out), BK376 := bb_ gb376 #[.int .i64 0, .slice none 0 0, .slice none 0 0, .int .i64 0] 31 (by dB_; refine blk_far ?_ NB376_375.out _; dB_; exact BK376.out), HB := bs_ zq79; clear hb ho14; cy_ 15 w13 gb375 BK375 a0_0 Ao11 y380 co11 A0_2 l0_2 c0_2 a0_3) | ((with_reducible refine gate_builtin (b := .append) (xs := #[.tmp 8, .tmp 10]) rfl ?_); at_builtin; refine Kd.R_append_rows k68 (w0 := w) w.heap.size rfl (.tmp 8) (.tmp 10) 29 68 (.agg #[(.int .i64 0), (.string ⟨#[]⟩)]) 24 rfl Try.underlying29 info68 rfl (by decide) (by omega) v384 y383 l0_2 _ _ _ (fun _ => True) (fun _ => False) rfl rfl ?aO ?aR (fun _ _ h => h) (fun _ h => h.elim) ?aF ?aB ?aS ?aL ?_; (case aR => exact zq15); (case aB => exact zq79); (case aF => exact zq53); (case aO => exact zq81); (case aS => exact (below_size zq79)); (case aL => have := LMc3.out; omega); intro v387 w16 ho hb hg hat; rw [← Ny386.out] at ho; have n0_ := Aside0.mk (blk_grown (g := gb375) (o := .cells st[a0_0 Ao11 y380 co11 A0_2 l0_2 c0_2 a0_3] 31 (0, 0)) zq77 hg (Kd.R_ne HO385.out BK375.out (by decide))); have n1_ := Aside0.mk (blk_grown (g := gb376) (o := .cells #[.int .i64 0, .slice none 0 0, .slice none 0 0, .int .i64 0] 31 (0, 0)) zq80 hg (Kd.R_ne HO385.out BK376.out (by decide))); have n2_ := Aside0.mk (Kd.R_over' (by dR_; exact HO382.out) (Kd.R_typed zq81) (by decide) hg); have n3_ := Aside0.mk (hb); have n4_ := Aside0.mk (ho); clear BK375; clear BK376; clear HO382; clear HB; clear HO385; have BK375 := n0_; have BK376 := n1_; have HO382 := n2_; have HB := n3_; have HO388 := n4_; clear n0_ n1_ n2_ n3_ n4_; clear ho hb hg hat; obtain ⟨Ao17, co17, eo17⟩ := Kd.R_slice HO388.out; subst eo17; cy_ 18 w16 gb375 BK375 a0_0 Ao11 y380 co11 A0_2 l0_2 c0_2 a0_3; cz_ 19 w16 gb376 BK376 [.int .i64 0, .slice none 0 0, .slice none 0 0, .int .i64 0]))
   refine bodyPost_ret (results_cell_row rfl _ _ gb376 31 st[a0_0 Ao11 y380 co11 Ao17 y386 co17 a0_3] (0, 0) _ rfl (by dB_; refine blk_put (cs := st[a0_0 Ao11 y380 co11 Ao17 y386 co17 0]) ?_ 3 _ rfl; dB_; refine blk_put (cs := #[.int .i64 a0_0, .slice Ao11 y380.length co11, .slice none 0 0, .int .i64 0]) ?_ 2 _ rfl; dB_; refine blk_put (cs := #[.int .i64 a0_0, .slice none 0 0, .slice none 0 0, .int .i64 0]) ?_ 1 _ rfl; dB_; refine blk_put (cs := #[.int .i64 0, .slice none 0 0, .slice none 0 0, .int .i64 0]) ?_ 0 _ rfl; dB_; refine blk_far ?_ NB376_375.out _; dB_; exact BK376.out) Try.underlying31 rfl (by kernel_rfl)) rfl ?_
   exact ⟨_, _, zq4, by dR_; exact Kd.R_mono (Kd.R_far (p := ⟨gb376, 3, none⟩) (Kd.R_far (p := ⟨gb376, 2, none⟩) (Kd.R_far (p := ⟨gb376, 1, none⟩) (Kd.R_far (p := ⟨gb376, 0, none⟩) (Kd.R_far (p := ⟨gb375, 2, none⟩) (Kd.R_types (Kd.R_types HO382.out BK375.out (by decide)) BK376.out (by decide)) (fun _ hk => hk.1.2) (.slice Ao17 y386.length co17)) (fun _ hk => hk.2) (.int .i64 a0_0)) (fun _ hk => hk.2) (.slice Ao11 y380.length co11)) (fun _ hk => hk.2) (.slice Ao17 y386.length co17)) (fun _ hk => hk.2) (.int .i64 a0_3)) (fun _ hk => trivial), by dR_; exact Kd.R_mono (Kd.R_far (p := ⟨gb376, 3, none⟩) (Kd.R_far (p := ⟨gb376, 2, none⟩) (Kd.R_far (p := ⟨gb376, 1, none⟩) (Kd.R_far (p := ⟨gb376, 0, none⟩) (Kd.R_far (p := ⟨gb375, 2, none⟩) (Kd.R_types (Kd.R_types HO388.out BK375.out (by decide)) BK376.out (by decide)) (fun _ hk => hk.1.2) (.slice Ao17 y386.length co17)) (fun _ hk => hk.2) (.int .i64 a0_0)) (fun _ hk => hk.2) (.slice Ao11 y380.length co11)) (fun _ hk => hk.2) (.slice Ao17 y386.length co17)) (fun _ hk => hk.2) (.int .i64 a0_3)) (fun _ hk => trivial), zq79⟩
  exact zq326
 exact zq327

/-! ### impl_uploadOf: function 70 (walked by hand) -/
/-- The first place from i on whose first field is x, or -1. -/
def impl_uploadOf.at (l : List S68) (x : Int) : Nat → Nat → Int
 | 0, _ => -1
 | d + 1, i => if (rd_T68 l (i : Int)).f0 = x then (i : Int) else impl_uploadOf.at l x d (i + 1)
set_option maxHeartbeats 8000000 in
theorem impl_uploadOf.index (l : List S68) (A : Option Addr) (c : Nat) (g : Nat) (x : Int) (w : World) (hr : Kd.C k68 w A l.length l) (hc : l.length ≤ c) (hm : l.length ≤ 4611686018427387904) (hx : w.cell? ⟨g, 0, none⟩ = some (.int .i64 x)) :
  Calls Try.prog 96 #[.slice A l.length c, .func (.func 97) #[] #[.pointer (some ⟨g, 0, none⟩)]] w fun e w' => e = .returned (.int .i64 (impl_uploadOf.at l x l.length 0)) ∧ Below w.heap.size w w' := by
 have HR := Aside0.mk hr
 have HC := Aside0.mk hc
 have HM := Aside0.mk hm
 have HX := Aside0.mk hx
 obtain ⟨n, hn⟩ : ∃ n, n = l.length := ⟨_, rfl⟩
 clear hr hc hm hx
 go_enter Try.func96, Try.ntmps96
 go_wp2
 go_loopg [8] l.length (fun kq v8 w' => ∃ (i : Nat) (x8 : Int), v8 = .int .i64 x8 ∧ Aside0 (x8 = (i : Int)) ∧ Aside0 (i + kq = l.length) ∧ Aside0 (impl_uploadOf.at l x kq i = impl_uploadOf.at l x l.length 0) ∧ Aside0 (Below w.heap.size w w'))
 case atStart => exact ⟨0, 0, rfl, ⟨rfl⟩, ⟨by omega⟩, ⟨rfl⟩, ⟨Below.refl _ _⟩⟩
 case round =>
  obtain ⟨i, x8, rfl, HI, hi, HE, HB⟩ := hrel
  cases gk with
  | zero =>
   have c1 : decide (x8 < (l.length : Int)) = false := decide_eq_false zq82
   go_wp2
   go_ret
   exact ⟨by rw [← HE.out]; rfl, HB.out⟩
  | succ k1 =>
   have c1 : decide (x8 < (l.length : Int)) = true := decide_eq_true zq82
   have b1 := eq_true (show 0 ≤ x8 by have := HI.out; omega)
   have b2 := eq_true (show x8 < (l.length : Int) by have := HI.out; have := hi.out; omega)
   obtain ⟨ad, e1, h0, h1⟩ := at_T68 HR.out x8 (by have := HI.out; omega) zq82
   subst e1
   have hx0 : wr.cell? (ad.add (x8.toNat * 2)) = some (.int .i64 (rd_T68 l x8).f0) := (HB.out.cell (World.block_lt_of_cell? w _ h0)).trans h0
   have hx1 : wr.cell? ⟨(ad.add (x8.toNat * 2)).block, (ad.add (x8.toNat * 2)).off + 1, none⟩ = some (.string (rd_T68 l x8).f1) := (HB.out.cell (World.block_lt_of_cell? w _ h1)).trans h1
   have hxg : wr.cell? ⟨g, 0, none⟩ = some (.int .i64 x) := (HB.out.cell (World.block_lt_of_cell? w _ HX.out)).trans HX.out
   have hxa : ∀ o, (wr.alloc o).cell? ⟨g, 0, none⟩ = some (.int .i64 x) := fun o => (World.cell?_alloc_lt _ _ _ (World.block_lt_of_cell? _ _ hxg)).trans hxg
   clear h0 h1
   by_cases hq : (rd_T68 l x8).f0 = x
   ·
    have q1 : ((rd_T68 l x8).f0 == x) = true := beq_iff_eq.mpr hq
    have HQ := Aside0.mk hq; clear hq
    go_wp2
    go_ret
    refine ⟨?_, HB.out.alloc (below_size HB.out) _⟩
    rw [← HE.out]
    show _ = Ending.returned (Value.int IntKind.i64 (impl_uploadOf.at l x (k1 + 1) i))
    unfold impl_uploadOf.at
    rw [if_pos (by have := HI.out; subst this; exact HQ.out), HI.out]
    rfl
   ·
    have q1 : ((rd_T68 l x8).f0 == x) = false := beq_eq_false_iff_ne.mpr hq
    have HQ := Aside0.mk hq; clear hq
    go_wp2
    go_roundg k1
    case measure => omega
    case rel =>
     refine ⟨i + 1, wrap64 (x8 + 1), rfl, ⟨?_⟩, ⟨by have := hi.out; omega⟩, ⟨?_⟩, ⟨HB.out.alloc (below_size HB.out) _⟩⟩
     ·
      rw [HI.out]; have := hi.out; have := HM.out; unfold wrap64; omega
     ·
      rw [← HE.out]
      show _ = impl_uploadOf.at l x (k1 + 1) i
      conv => rhs; unfold impl_uploadOf.at
      rw [if_neg (by have := HI.out; subst this; exact HQ.out)]
theorem impl_uploadOf.two (w : World) (o1 o2 : Obj) : Below w.heap.size w ((w.alloc o1).alloc o2) :=
 have h1 := (Below.refl w.heap.size w).alloc (Nat.le_refl _) o1
 h1.alloc (below_size h1) o2
theorem impl_uploadOf.cell2 (w : World) (o1 : Obj) (x : Int) (t : TypeId) : ((w.alloc o1).alloc (.cells #[.int .i64 x] t)).cell? ⟨w.heap.size + 1, 0, none⟩ = some (.int .i64 x) :=
 (blk_cell (t := t) (cs := #[.int .i64 x]) (show ((w.heap.push o1).push (.cells #[.int .i64 x] t))[w.heap.size + 1]? = _ by rw [show w.heap.size + 1 = (w.heap.push o1).size by simp, Array.getElem?_push_size]) 0).trans rfl
set_option maxHeartbeats 8000000 in
theorem impl_uploadOf.uploadOf (q : Int) (A1 : Option Addr) (c1 : Nat) (l1 : List S66) (A2 : Option Addr) (c2 : Nat) (l2 : List S68) (nx id : Int) (w : World) (hr1 : Kd.C k66 w A1 l1.length l1) (hc1 : l1.length ≤ c1) (hr2 : Kd.C k68 w A2 l2.length l2) (hc2 : l2.length ≤ c2) (hm : l2.length ≤ 4611686018427387904) :
  Calls Try.prog 70 #[.agg st[q A1 l1 c1 A2 l2 c2 nx], .int .i64 id] w fun e w' => e = .returned (.int .i64 (impl_uploadOf.at l2 id l2.length 0)) ∧ Below w.heap.size w w' := by
 have HR := Aside0.mk hr2
 have HC := Aside0.mk hc2
 have HM := Aside0.mk hm
 clear hr1 hc1 hr2 hc2 hm
 have hk2 : Kd.C k68 ((w.alloc (.cells st[q A1 l1 c1 A2 l2 c2 nx] 31)).alloc (.cells #[.int .i64 id] 2)) A2 l2.length l2 := Kd.C_alloc (Kd.C_alloc HR.out _) _
 have hcell := impl_uploadOf.cell2 w (.cells st[q A1 l1 c1 A2 l2 c2 nx] 31) id 2
 have hb2 := impl_uploadOf.two w (.cells st[q A1 l1 c1 A2 l2 c2 nx] 31) (.cells #[.int .i64 id] 2)
 go_enter Try.func70, Try.ntmps70
 go_wp2_with (first | (cl_ 96 8 Try.func96 #[.slice A2 l2.length c2, .func (.func 97) #[] #[.pointer (some ⟨w.heap.size + 1, 0, none⟩)]] zq8; refine (impl_uploadOf.index l2 A2 c2 (w.heap.size + 1) id _ hk2 HC.out HM.out hcell).mono ?_; rintro e w7 ⟨rfl, hb⟩; refine ⟨_, rfl, ?_⟩; have HB := Aside0.mk (below_step hb2 hb); clear hb))
 go_ret
 exact ⟨rfl, HB.out⟩
def impl_uploadOf.f (a0_0 : Int) (l0_1 : List S66) (l0_2 : List S68) (a0_3 : Int) (a1 : Int) : Option Int := if l0_2.length ≤ 4611686018427387904 then some (impl_uploadOf.at l0_2 a1 l0_2.length 0) else none
theorem impl_uploadOf.calls (a0_0 : Int) (A0_1 : Option Addr) (c0_1 : Nat) (l0_1 : List S66) (A0_2 : Option Addr) (c0_2 : Nat) (l0_2 : List S68) (a0_3 : Int) (a1 : Int) (r : Int) (w : World) (hr0_1 : Kd.C k66 w A0_1 l0_1.length l0_1) (hc0_1 : l0_1.length ≤ c0_1) (hr0_2 : Kd.C k68 w A0_2 l0_2.length l0_2) (hc0_2 : l0_2.length ≤ c0_2) (h : impl_uploadOf.f a0_0 l0_1 l0_2 a0_3 a1 = some r) :
  Calls Try.prog 70 #[.agg st[a0_0 A0_1 l0_1 c0_1 A0_2 l0_2 c0_2 a0_3], .int .i64 a1] w fun e w' => e = .returned (.int .i64 r) ∧ Below w.heap.size w w' := by
 unfold impl_uploadOf.f at h
 split at h
 ·
  rename_i hg
  injection h with h
  subst h
  exact impl_uploadOf.uploadOf a0_0 A0_1 c0_1 l0_1 A0_2 c0_2 l0_2 a0_3 a1 w hr0_1 hc0_1 hr0_2 hc0_2 hg
 ·
  exact absurd h (by simp)

/-! ### impl_Chunk: function 36 -/
def impl_Chunk.f (k : Nat) (a0_0 : Int) (l0_1 : List (S66)) (l0_2 : List (S68)) (a0_3 : Int) (a1 : Int) (a2 : Int) (a3 : ByteArray) : Option (Int × (List (S66)) × (List (S68)) × Int × Int) := (impl_copyStore.f a0_0 l0_1 l0_2 a0_3).bind fun bt391 => ((impl_uploadOf.f a0_0 l0_1 l0_2 a0_3 a1).bind fun t400 => ((impl_isStore.f k a0_0 l0_1 l0_2 a0_3).bind fun t401 => (if t401 = true then (if t400 < 0 then (some (bt391.1, bt391.2.1, bt391.2.2.1, bt391.2.2.2, 3)) else (if 0 ≤ t400 then (if t400 < (l0_2.length : Int) then (if a2 = (((rd_T68 l0_2 t400).f1).size : Int) then ((impl_used.f k a0_0 l0_1 l0_2 a0_3).bind fun t403 => (if (wrap64 (t403 + (a3.size : Int))) > a0_0 then (some (bt391.1, bt391.2.1, bt391.2.2.1, bt391.2.2.2, 5)) else (if t400 < (bt391.2.2.1.length : Int) then (if ((rd_T68 bt391.2.2.1 t400).f1).size + a3.size ≤ 9223372036854775807 then (some (bt391.1, bt391.2.1, (bt391.2.2.1.set (t400 : Int).toNat (⟨(rd_T68 bt391.2.2.1 t400).f0, ((rd_T68 bt391.2.2.1 t400).f1) ++ a3⟩ : S68)), bt391.2.2.2, 0)) else (none)) else (none)))) else (some (bt391.1, bt391.2.1, bt391.2.2.1, bt391.2.2.2, 4))) else (none)) else (none))) else (some (0, ([] : List (S66)), ([] : List (S68)), 0, 1)))))
theorem impl_Chunk.mono : ∀ a0 a1 a2 a3 a4 a5 a6 k, LeO (impl_Chunk.f k a0 a1 a2 a3 a4 a5 a6) (impl_Chunk.f (k + 1) a0 a1 a2 a3 a4 a5 a6) := by
 intro a0 a1 a2 a3 a4 a5 a6 k
 unfold impl_Chunk.f
 repeat' first
   | (with_reducible exact impl_isStore.mono _ _ _ _ _)
   | (with_reducible exact impl_used.mono _ _ _ _ _)
   | (with_reducible exact LeO.refl _)
   | (with_reducible exact LeO.none _)
   | (with_reducible refine LeO.ite ?_ ?_)
   | (with_reducible refine LeO.bind ?_ (fun _ => ?_))
   | exact impl_isStore.mono _ _ _ _ _
   | exact impl_used.mono _ _ _ _ _
   | exact LeO.none _
   | refine LeO.ite ?_ ?_
   | refine LeO.bind ?_ (fun _ => ?_)
def impl_Chunk.T9 : Bool × List (List Nat × List Nat) := (true, [([], []), ([0], [0]), ([], []), ([2], [2]), ([1, 3], [1, 3]), ([], []), ([5], [5]), ([4, 6], [4, 6]), ([7, 1], [7])])
def impl_Chunk.B9 : List Nat := [0, 1, 0, 4, 15, 0, 32, 127, 255]
theorem impl_Chunk.tab9 : rtab .any (opsOf Try.f36 9) = impl_Chunk.T9 := by kernel_rfl
theorem impl_Chunk.bits9 : waitsOk impl_Chunk.T9.2 impl_Chunk.B9 = true := by kernel_rfl
set_option maxHeartbeats 8000000 in
set_option maxRecDepth 100000 in
theorem impl_Chunk.calls (k : Nat) (a0_0 : Int) (A0_1 : Option Addr) (c0_1 : Nat) (l0_1 : List (S66)) (A0_2 : Option Addr) (c0_2 : Nat) (l0_2 : List (S68)) (a0_3 : Int) (a1 : Int) (a2 : Int) (a3 : ByteArray) (r1 : Int) (r2 : List (S66)) (r3 : List (S68)) (r4 : Int) (r5 : Int) (w : World) (hr0_1 : Kd.C k66 w A0_1 l0_1.length l0_1) (hc0_1 : l0_1.length ≤ c0_1) (hr0_2 : Kd.C k68 w A0_2 l0_2.length l0_2) (hc0_2 : l0_2.length ≤ c0_2) (h : impl_Chunk.f k a0_0 l0_1 l0_2 a0_3 a1 a2 a3 = some (r1, r2, r3, r4, r5)) :
  Calls Try.prog 36 #[.agg st[a0_0 A0_1 l0_1 c0_1 A0_2 l0_2 c0_2 a0_3], .int .i64 a1, .int .i64 a2, .string a3] w fun e w' => ∃ v1_ v2_ : Value, e = .returned (.tuple #[.agg #[.int .i64 r1, v1_, v2_, .int .i64 r4], .int .i64 r5]) ∧ Kd.R k66 66 w' w.heap.size (fun _ => True) v1_ r2 ∧ Kd.R k68 68 w' w.heap.size (fun _ => True) v2_ r3 ∧ Below w.heap.size w w' := by
 have hu31 := Try.underlying31
 have HR0_1 := Aside0.mk hr0_1
 have HC0_1 := Aside0.mk hc0_1
 clear hr0_1 hc0_1
 have HR0_2 := Aside0.mk hr0_2
 have HC0_2 := Aside0.mk hc0_2
 clear hr0_2 hc0_2
 have HB := Aside0.mk (Below.refl w.heap.size w)
 have H : ((impl_copyStore.f a0_0 l0_1 l0_2 a0_3).bind fun bt391 => ((impl_uploadOf.f a0_0 l0_1 l0_2 a0_3 a1).bind fun t400 => ((impl_isStore.f k a0_0 l0_1 l0_2 a0_3).bind fun t401 => (if t401 = true then (if t400 < 0 then (some (bt391.1, bt391.2.1, bt391.2.2.1, bt391.2.2.2, 3)) else (if 0 ≤ t400 then (if t400 < (l0_2.length : Int) then (if a2 = (((rd_T68 l0_2 t400).f1).size : Int) then ((impl_used.f k a0_0 l0_1 l0_2 a0_3).bind fun t403 => (if (wrap64 (t403 + (a3.size : Int))) > a0_0 then (some (bt391.1, bt391.2.1, bt391.2.2.1, bt391.2.2.2, 5)) else (if t400 < (bt391.2.2.1.length : Int) then (if ((rd_T68 bt391.2.2.1 t400).f1).size + a3.size ≤ 9223372036854775807 then (some (bt391.1, bt391.2.1, (bt391.2.2.1.set (t400 : Int).toNat (⟨(rd_T68 bt391.2.2.1 t400).f0, ((rd_T68 bt391.2.2.1 t400).f1) ++ a3⟩ : S68)), bt391.2.2.2, 0)) else (none)) else (none)))) else (some (bt391.1, bt391.2.1, bt391.2.2.1, bt391.2.2.2, 4))) else (none)) else (none))) else (some (0, ([] : List (S66)), ([] : List (S68)), 0, 1)))))) = some (r1, r2, r3, r4, r5) := h
 clear h
 replace H := Option.bind_eq_some_iff.mp H
 obtain ⟨⟨t391, t392, t395, t398⟩, A50, H⟩ := H
 replace H : ((impl_uploadOf.f a0_0 l0_1 l0_2 a0_3 a1).bind fun t400 => ((impl_isStore.f k a0_0 l0_1 l0_2 a0_3).bind fun t401 => (if t401 = true then (if t400 < 0 then (some (t391, t392, t395, t398, 3)) else (if 0 ≤ t400 then (if t400 < (l0_2.length : Int) then (if a2 = (((rd_T68 l0_2 t400).f1).size : Int) then ((impl_used.f k a0_0 l0_1 l0_2 a0_3).bind fun t403 => (if (wrap64 (t403 + (a3.size : Int))) > a0_0 then (some (t391, t392, t395, t398, 5)) else (if t400 < (t395.length : Int) then (if ((rd_T68 t395 t400).f1).size + a3.size ≤ 9223372036854775807 then (some (t391, t392, (t395.set (t400 : Int).toNat (⟨(rd_T68 t395 t400).f0, ((rd_T68 t395 t400).f1) ++ a3⟩ : S68)), t398, 0)) else (none)) else (none)))) else (some (t391, t392, t395, t398, 4))) else (none)) else (none))) else (some (0, ([] : List (S66)), ([] : List (S68)), 0, 1))))) = some (r1, r2, r3, r4, r5) := H
 have A5 := Aside0.mk A50
 clear A50
 replace H := Option.bind_eq_some_iff.mp H
 obtain ⟨t400, A60, H⟩ := H
 replace H : ((impl_isStore.f k a0_0 l0_1 l0_2 a0_3).bind fun t401 => (if t401 = true then (if t400 < 0 then (some (t391, t392, t395, t398, 3)) else (if 0 ≤ t400 then (if t400 < (l0_2.length : Int) then (if a2 = (((rd_T68 l0_2 t400).f1).size : Int) then ((impl_used.f k a0_0 l0_1 l0_2 a0_3).bind fun t403 => (if (wrap64 (t403 + (a3.size : Int))) > a0_0 then (some (t391, t392, t395, t398, 5)) else (if t400 < (t395.length : Int) then (if ((rd_T68 t395 t400).f1).size + a3.size ≤ 9223372036854775807 then (some (t391, t392, (t395.set (t400 : Int).toNat (⟨(rd_T68 t395 t400).f0, ((rd_T68 t395 t400).f1) ++ a3⟩ : S68)), t398, 0)) else (none)) else (none)))) else (some (t391, t392, t395, t398, 4))) else (none)) else (none))) else (some (0, ([] : List (S66)), ([] : List (S68)), 0, 1)))) = some (r1, r2, r3, r4, r5) := H
 have A6 := Aside0.mk A60
 clear A60
 replace H := Option.bind_eq_some_iff.mp H
 obtain ⟨t401, A70, H⟩ := H
 replace H : (if t401 = true then (if t400 < 0 then (some (t391, t392, t395, t398, 3)) else (if 0 ≤ t400 then (if t400 < (l0_2.length : Int) then (if a2 = (((rd_T68 l0_2 t400).f1).size : Int) then ((impl_used.f k a0_0 l0_1 l0_2 a0_3).bind fun t403 => (if (wrap64 (t403 + (a3.size : Int))) > a0_0 then (some (t391, t392, t395, t398, 5)) else (if t400 < (t395.length : Int) then (if ((rd_T68 t395 t400).f1).size + a3.size ≤ 9223372036854775807 then (some (t391, t392, (t395.set (t400 : Int).toNat (⟨(rd_T68 t395 t400).f0, ((rd_T68 t395 t400).f1) ++ a3⟩ : S68)), t398, 0)) else (none)) else (none)))) else (some (t391, t392, t395, t398, 4))) else (none)) else (none))) else (some (0, ([] : List (S66)), ([] : List (S68)), 0, 1))) = some (r1, r2, r3, r4, r5) := H
 have A7 := Aside0.mk A70
 clear A70
 by_cases c8 : t401 = true
 ·
  subst c8
  have H1 : (if t400 < 0 then (some (t391, t392, t395, t398, 3)) else (if 0 ≤ t400 then (if t400 < (l0_2.length : Int) then (if a2 = (((rd_T68 l0_2 t400).f1).size : Int) then ((impl_used.f k a0_0 l0_1 l0_2 a0_3).bind fun t403 => (if (wrap64 (t403 + (a3.size : Int))) > a0_0 then (some (t391, t392, t395, t398, 5)) else (if t400 < (t395.length : Int) then (if ((rd_T68 t395 t400).f1).size + a3.size ≤ 9223372036854775807 then (some (t391, t392, (t395.set (t400 : Int).toNat (⟨(rd_T68 t395 t400).f0, ((rd_T68 t395 t400).f1) ++ a3⟩ : S68)), t398, 0)) else (none)) else (none)))) else (some (t391, t392, t395, t398, 4))) else (none)) else (none))) = some (r1, r2, r3, r4, r5) := by rw [if_pos rfl] at H; exact H
  clear H
  have H := H1
  clear H1
  by_cases c9 : t400 < 0
  ·
   rw [if_pos c9] at H
   have c9b0 : decide (t400 < 0) = true := decide_eq_true c9
   clear c9
   simp only [Option.some.injEq, Prod.mk.injEq] at H
   obtain ⟨rfl, rfl, rfl, rfl, rfl⟩ := H
   go_enter Try.func36, Try.ntmps36
   go_wp2_with (first | ((with_reducible refine gate_dst (N := 4) rfl ?_); refine box_event ?hg (N := 4) ?hd (cs := st[a0_0 A0_1 l0_1 c0_1 A0_2 l0_2 c0_2 a0_3]) (t := 31) ?hr ?_; (case hd => rfl); (case hg => rfl); (case hr => exact zq2); intro gb389 hg w10 hbox hb; rn_ [BK389 GW389 GE389] HB := bs_ zq3, BK389 := hbox, GW389 := gw_ zq260 gb389, GE389 := gw_ zq260 gb389; clear hb hbox hg) | ((with_reducible refine gate_dst (N := 8) rfl ?_); refine box_event ?hg (N := 8) ?hd (cs := #[.int .i64 0, .slice none 0 0, .slice none 0 0, .int .i64 0]) (t := 31) ?hr ?_; (case hd => rfl); (case hg => rfl); (case hr => exact zq2); intro gb390 hg w11 hbox hb; rn_ [BK390 GW390 GE390 NB389_390 NB390_389] BK389 := bb_ gb389 st[a0_0 A0_1 l0_1 c0_1 A0_2 l0_2 c0_2 a0_3] 31 zq83, HB := bs_ zq84, BK390 := hbox, GW390 := gw_ zq281 gb390, GE390 := gw_ zq281 gb390, NB389_390 := nE_ zq282 gb389 gb390, NB390_389 := nE_ zq283 gb390 gb389; clear hb hbox hg; have hnb12 := NB389_390.out; have hnc12 := NB390_389.out; cy_ 13 w11 gb389 BK389 a0_0 A0_1 l0_1 c0_1 A0_2 l0_2 c0_2 a0_3) | (cl_ 65 13 Try.func65 #[.agg st[a0_0 A0_1 l0_1 c0_1 A0_2 l0_2 c0_2 a0_3]] zq8; (with_reducible refine (impl_copyStore.calls a0_0 _ _ l0_1 _ _ l0_2 a0_3 t391 t392 t395 t398 _ ?side1 ?side2 ?side3 ?side4 A5.out).mono ?_); sd_ 1 [zq11, zq12, zq15, zq16]; rintro e w14 ⟨v393, v396, rfl, ho0, ho1, hb⟩; refine ⟨_, rfl, ?_⟩; rn_ [HO394 HO397] HO394 := Kd.R_lower ho0 (below_size zq85), HO397 := Kd.R_lower ho1 (below_size zq85), BK389 := bb_ gb389 st[a0_0 A0_1 l0_1 c0_1 A0_2 l0_2 c0_2 a0_3] 31 zq83, BK390 := bb_ gb390 #[.int .i64 0, .slice none 0 0, .slice none 0 0, .int .i64 0] 31 zq86, HB := bs_ zq85; tc_; (try clear ho0); (try clear ho1)) | ((with_reducible refine gate_dst (N := 10) rfl ?_); refine box_event ?hg (N := 10) ?hd (cs := #[.int .i64 0, .slice none 0 0, .slice none 0 0, .int .i64 0]) (t := 31) ?hr ?_; (case hd => rfl); (case hg => rfl); (case hr => exact zq2); intro gb399 hg w15 hbox hb; rn_ [BK399 GW399 GE399 NB389_399 NB399_389 NB390_399 NB399_390] HO394 := rb_ zq87, HO397 := rb_ zq88, BK389 := bb_ gb389 st[a0_0 A0_1 l0_1 c0_1 A0_2 l0_2 c0_2 a0_3] 31 zq83, BK390 := bb_ gb390 #[.int .i64 0, .slice none 0 0, .slice none 0 0, .int .i64 0] 31 zq86, HB := bs_ zq85, BK399 := hbox, GW399 := gw_ zq284 gb399, GE399 := gw_ zq284 gb399, NB389_399 := nE_ zq282 gb389 gb399, NB399_389 := nE_ zq283 gb399 gb389, NB390_399 := nE_ zq285 gb390 gb399, NB399_390 := nE_ zq286 gb399 gb390; clear hb hbox hg; have hnb16 := NB399_389.out; have hnc16 := NB389_399.out; have hnb17 := NB399_390.out; have hnc17 := NB390_399.out; cz_ 18 w15 gb399 BK399 [.int .i64 0, .slice none 0 0, .slice none 0 0, .int .i64 0]; obtain ⟨Ao19, co19, eo19⟩ := Kd.R_slice HO394.out; subst eo19; obtain ⟨Ao20, co20, eo20⟩ := Kd.R_slice HO397.out; subst eo20; cy_ 21 w15 gb389 BK389 a0_0 A0_1 l0_1 c0_1 A0_2 l0_2 c0_2 a0_3) | (cl_ 70 16 Try.func70 #[.agg st[a0_0 A0_1 l0_1 c0_1 A0_2 l0_2 c0_2 a0_3], .int .i64 a1] zq8; (with_reducible refine (impl_uploadOf.calls a0_0 _ _ l0_1 _ _ l0_2 a0_3 a1 t400 _ ?side1 ?side2 ?side3 ?side4 A6.out).mono ?_); sd_ 1 [zq287, zq12, zq288, zq16]; rintro e w22 ⟨rfl, hb⟩; refine ⟨_, rfl, ?_⟩; rn_ [] HO394 := Kd.R_below (by dR_; exact (Kd.R_mono (Kd.R_far (p := ⟨gb399, 3, none⟩) (Kd.R_far (p := ⟨gb399, 2, none⟩) (Kd.R_far (p := ⟨gb399, 1, none⟩) (Kd.R_far (p := ⟨gb399, 0, none⟩) (Kd.R_types HO394.out BK399.out (by decide)) (fun _ hk => hk.2) (.int .i64 t391)) (fun _ hk => hk.2) (.slice Ao19 t392.length co19)) (fun _ hk => hk.2) (.slice Ao20 t395.length co20)) (fun _ hk => hk.2) (.int .i64 t398)) (fun _ h_ => h_.1))) hb, HO397 := Kd.R_below (by dR_; exact (Kd.R_mono (Kd.R_far (p := ⟨gb399, 3, none⟩) (Kd.R_far (p := ⟨gb399, 2, none⟩) (Kd.R_far (p := ⟨gb399, 1, none⟩) (Kd.R_far (p := ⟨gb399, 0, none⟩) (Kd.R_types HO397.out BK399.out (by decide)) (fun _ hk => hk.2) (.int .i64 t391)) (fun _ hk => hk.2) (.slice Ao19 t392.length co19)) (fun _ hk => hk.2) (.slice Ao20 t395.length co20)) (fun _ hk => hk.2) (.int .i64 t398)) (fun _ h_ => h_.1))) hb, BK389 := bb_ gb389 st[a0_0 A0_1 l0_1 c0_1 A0_2 l0_2 c0_2 a0_3] 31 zq90, BK390 := bb_ gb390 #[.int .i64 0, .slice none 0 0, .slice none 0 0, .int .i64 0] 31 zq91, BK399 := bb_ gb399 st[t391 Ao19 t392 co19 Ao20 t395 co20 t398] 31 (by dB_; refine blk_put (cs := st[t391 Ao19 t392 co19 Ao20 t395 co20 0]) ?_ 3 _ rfl; dB_; refine blk_put (cs := #[.int .i64 t391, .slice Ao19 t392.length co19, .slice none 0 0, .int .i64 0]) ?_ 2 _ rfl; dB_; refine blk_put (cs := #[.int .i64 t391, .slice none 0 0, .slice none 0 0, .int .i64 0]) ?_ 1 _ rfl; dB_; refine blk_put (cs := #[.int .i64 0, .slice none 0 0, .slice none 0 0, .int .i64 0]) ?_ 0 _ rfl; dB_; exact BK399.out), HB := bs_ zq89; tc_; cy_ 23 w22 gb389 BK389 a0_0 A0_1 l0_1 c0_1 A0_2 l0_2 c0_2 a0_3) | (cl_ 55 19 Try.func55 #[.agg st[a0_0 A0_1 l0_1 c0_1 A0_2 l0_2 c0_2 a0_3]] zq8; (with_reducible refine (impl_isStore.calls k a0_0 _ _ l0_1 _ _ l0_2 a0_3 true _ ?side1 ?side2 ?side3 ?side4 A7.out).mono ?_); sd_ 1 [zq11, zq12, zq15, zq16]; rintro e w24 ⟨rfl, hb⟩; refine ⟨_, rfl, ?_⟩; rn_ [] HO394 := rb_ zq87, HO397 := rb_ zq88, BK389 := bb_ gb389 st[a0_0 A0_1 l0_1 c0_1 A0_2 l0_2 c0_2 a0_3] 31 zq83, BK390 := bb_ gb390 #[.int .i64 0, .slice none 0 0, .slice none 0 0, .int .i64 0] 31 zq86, BK399 := bb_ gb399 st[t391 Ao19 t392 co19 Ao20 t395 co20 t398] 31 zq92, HB := bs_ zq89; tc_; cy_ 25 w24 gb399 BK399 t391 Ao19 t392 co19 Ao20 t395 co20 t398; cz_ 26 w24 gb390 BK390 [.int .i64 0, .slice none 0 0, .slice none 0 0, .int .i64 0]))
   refine bodyPost_ret (results_ct rfl _ _ gb390 31 st[t391 Ao19 t392 co19 Ao20 t395 co20 t398] (0, 0) _ rfl (by dB_; refine blk_put (cs := st[t391 Ao19 t392 co19 Ao20 t395 co20 0]) ?_ 3 _ rfl; dB_; refine blk_put (cs := #[.int .i64 t391, .slice Ao19 t392.length co19, .slice none 0 0, .int .i64 0]) ?_ 2 _ rfl; dB_; refine blk_put (cs := #[.int .i64 t391, .slice none 0 0, .slice none 0 0, .int .i64 0]) ?_ 1 _ rfl; dB_; refine blk_put (cs := #[.int .i64 0, .slice none 0 0, .slice none 0 0, .int .i64 0]) ?_ 0 _ rfl; dB_; exact BK390.out) Try.underlying31 rfl (by kernel_rfl)) rfl ?_
   exact ⟨_, _, zq4, by dR_; exact Kd.R_mono (Kd.R_far (p := ⟨gb390, 3, none⟩) (Kd.R_far (p := ⟨gb390, 2, none⟩) (Kd.R_far (p := ⟨gb390, 1, none⟩) (Kd.R_far (p := ⟨gb390, 0, none⟩) (Kd.R_types HO394.out BK390.out (by decide)) (fun _ hk => hk.2) (.int .i64 t391)) (fun _ hk => hk.2) (.slice Ao19 t392.length co19)) (fun _ hk => hk.2) (.slice Ao20 t395.length co20)) (fun _ hk => hk.2) (.int .i64 t398)) (fun _ hk => trivial), by dR_; exact Kd.R_mono (Kd.R_far (p := ⟨gb390, 3, none⟩) (Kd.R_far (p := ⟨gb390, 2, none⟩) (Kd.R_far (p := ⟨gb390, 1, none⟩) (Kd.R_far (p := ⟨gb390, 0, none⟩) (Kd.R_types HO397.out BK390.out (by decide)) (fun _ hk => hk.2) (.int .i64 t391)) (fun _ hk => hk.2) (.slice Ao19 t392.length co19)) (fun _ hk => hk.2) (.slice Ao20 t395.length co20)) (fun _ hk => hk.2) (.int .i64 t398)) (fun _ hk => trivial), zq89⟩
  ·
   rw [if_neg c9] at H
   have c9b0 : decide (t400 < 0) = false := decide_eq_false c9
   clear c9
   by_cases c27 : 0 ≤ t400
   ·
    rw [if_pos c27] at H
    have c27b0 : decide (0 ≤ t400) = true := decide_eq_true c27
    clear c27
    by_cases c28 : t400 < (l0_2.length : Int)
    ·
     rw [if_pos c28] at H
     have c28b0 : decide (t400 < (l0_2.length : Int)) = true := decide_eq_true c28
     clear c28
     by_cases c29 : a2 = (((rd_T68 l0_2 t400).f1).size : Int)
     ·
      rw [if_pos c29] at H
      have c29b0 : (a2 == (((rd_T68 l0_2 t400).f1).size : Int)) = true := beq_iff_eq.mpr c29
      have c29b1 : (a2 != (((rd_T68 l0_2 t400).f1).size : Int)) = false := bne_eq_false_iff_eq.mpr c29
      clear c29
      replace H := Option.bind_eq_some_iff.mp H
      obtain ⟨t403, A300, H⟩ := H
      replace H : (if (wrap64 (t403 + (a3.size : Int))) > a0_0 then (some (t391, t392, t395, t398, 5)) else (if t400 < (t395.length : Int) then (if ((rd_T68 t395 t400).f1).size + a3.size ≤ 9223372036854775807 then (some (t391, t392, (t395.set (t400 : Int).toNat (⟨(rd_T68 t395 t400).f0, ((rd_T68 t395 t400).f1) ++ a3⟩ : S68)), t398, 0)) else (none)) else (none))) = some (r1, r2, r3, r4, r5) := H
      have A30 := Aside0.mk A300
      clear A300
      by_cases c31 : (wrap64 (t403 + (a3.size : Int))) > a0_0
      ·
       rw [if_pos c31] at H
       have c31b0 : decide (a0_0 < (wrap64 (t403 + (a3.size : Int)))) = true := decide_eq_true c31
       clear c31
       simp only [Option.some.injEq, Prod.mk.injEq] at H
       obtain ⟨rfl, rfl, rfl, rfl, rfl⟩ := H
       go_enter Try.func36, Try.ntmps36
       try go_wp2_with (first | ((with_reducible refine gate_dst (N := 4) rfl ?_); refine box_event ?hg (N := 4) ?hd (cs := st[a0_0 A0_1 l0_1 c0_1 A0_2 l0_2 c0_2 a0_3]) (t := 31) ?hr ?_; (case hd => rfl); (case hg => rfl); (case hr => exact zq2); intro gb389 hg w32 hbox hb; rn_ [BK389 GW389 GE389] HB := bs_ zq3, BK389 := hbox, GW389 := gw_ zq260 gb389, GE389 := gw_ zq260 gb389; clear hb hbox hg) | ((with_reducible refine gate_dst (N := 8) rfl ?_); refine box_event ?hg (N := 8) ?hd (cs := #[.int .i64 0, .slice none 0 0, .slice none 0 0, .int .i64 0]) (t := 31) ?hr ?_; (case hd => rfl); (case hg => rfl); (case hr => exact zq2); intro gb390 hg w33 hbox hb; rn_ [BK390 GW390 GE390 NB389_390 NB390_389] BK389 := bb_ gb389 st[a0_0 A0_1 l0_1 c0_1 A0_2 l0_2 c0_2 a0_3] 31 zq83, HB := bs_ zq84, BK390 := hbox, GW390 := gw_ zq281 gb390, GE390 := gw_ zq281 gb390, NB389_390 := nE_ zq282 gb389 gb390, NB390_389 := nE_ zq283 gb390 gb389; clear hb hbox hg; have hnb34 := NB389_390.out; have hnc34 := NB390_389.out; cy_ 35 w33 gb389 BK389 a0_0 A0_1 l0_1 c0_1 A0_2 l0_2 c0_2 a0_3) | (cl_ 65 13 Try.func65 #[.agg st[a0_0 A0_1 l0_1 c0_1 A0_2 l0_2 c0_2 a0_3]] zq8; (with_reducible refine (impl_copyStore.calls a0_0 _ _ l0_1 _ _ l0_2 a0_3 t391 t392 t395 t398 _ ?side1 ?side2 ?side3 ?side4 A5.out).mono ?_); sd_ 1 [zq11, zq12, zq15, zq16]; rintro e w36 ⟨v393, v396, rfl, ho0, ho1, hb⟩; refine ⟨_, rfl, ?_⟩; rn_ [HO394 HO397] HO394 := Kd.R_lower ho0 (below_size zq85), HO397 := Kd.R_lower ho1 (below_size zq85), BK389 := bb_ gb389 st[a0_0 A0_1 l0_1 c0_1 A0_2 l0_2 c0_2 a0_3] 31 zq83, BK390 := bb_ gb390 #[.int .i64 0, .slice none 0 0, .slice none 0 0, .int .i64 0] 31 zq86, HB := bs_ zq85; tc_; (try clear ho0); (try clear ho1)) | ((with_reducible refine gate_dst (N := 10) rfl ?_); refine box_event ?hg (N := 10) ?hd (cs := #[.int .i64 0, .slice none 0 0, .slice none 0 0, .int .i64 0]) (t := 31) ?hr ?_; (case hd => rfl); (case hg => rfl); (case hr => exact zq2); intro gb399 hg w37 hbox hb; rn_ [BK399 GW399 GE399 NB389_399 NB399_389 NB390_399 NB399_390] HO394 := rb_ zq87, HO397 := rb_ zq88, BK389 := bb_ gb389 st[a0_0 A0_1 l0_1 c0_1 A0_2 l0_2 c0_2 a0_3] 31 zq83, BK390 := bb_ gb390 #[.int .i64 0, .slice none 0 0, .slice none 0 0, .int .i64 0] 31 zq86, HB := bs_ zq85, BK399 := hbox, GW399 := gw_ zq284 gb399, GE399 := gw_ zq284 gb399, NB389_399 := nE_ zq282 gb389 gb399, NB399_389 := nE_ zq283 gb399 gb389, NB390_399 := nE_ zq285 gb390 gb399, NB399_390 := nE_ zq286 gb399 gb390; clear hb hbox hg; have hnb38 := NB399_389.out; have hnc38 := NB389_399.out; have hnb39 := NB399_390.out; have hnc39 := NB390_399.out; cz_ 40 w37 gb399 BK399 [.int .i64 0, .slice none 0 0, .slice none 0 0, .int .i64 0]; obtain ⟨Ao41, co41, eo41⟩ := Kd.R_slice HO394.out; subst eo41; obtain ⟨Ao42, co42, eo42⟩ := Kd.R_slice HO397.out; subst eo42; cy_ 43 w37 gb389 BK389 a0_0 A0_1 l0_1 c0_1 A0_2 l0_2 c0_2 a0_3) | (cl_ 70 16 Try.func70 #[.agg st[a0_0 A0_1 l0_1 c0_1 A0_2 l0_2 c0_2 a0_3], .int .i64 a1] zq8; (with_reducible refine (impl_uploadOf.calls a0_0 _ _ l0_1 _ _ l0_2 a0_3 a1 t400 _ ?side1 ?side2 ?side3 ?side4 A6.out).mono ?_); sd_ 1 [zq287, zq12, zq288, zq16]; rintro e w44 ⟨rfl, hb⟩; refine ⟨_, rfl, ?_⟩; rn_ [] HO394 := Kd.R_below (by dR_; exact (Kd.R_mono (Kd.R_far (p := ⟨gb399, 3, none⟩) (Kd.R_far (p := ⟨gb399, 2, none⟩) (Kd.R_far (p := ⟨gb399, 1, none⟩) (Kd.R_far (p := ⟨gb399, 0, none⟩) (Kd.R_types HO394.out BK399.out (by decide)) (fun _ hk => hk.2) (.int .i64 t391)) (fun _ hk => hk.2) (.slice Ao41 t392.length co41)) (fun _ hk => hk.2) (.slice Ao42 t395.length co42)) (fun _ hk => hk.2) (.int .i64 t398)) (fun _ h_ => h_.1))) hb, HO397 := Kd.R_below (by dR_; exact (Kd.R_mono (Kd.R_far (p := ⟨gb399, 3, none⟩) (Kd.R_far (p := ⟨gb399, 2, none⟩) (Kd.R_far (p := ⟨gb399, 1, none⟩) (Kd.R_far (p := ⟨gb399, 0, none⟩) (Kd.R_types HO397.out BK399.out (by decide)) (fun _ hk => hk.2) (.int .i64 t391)) (fun _ hk => hk.2) (.slice Ao41 t392.length co41)) (fun _ hk => hk.2) (.slice Ao42 t395.length co42)) (fun _ hk => hk.2) (.int .i64 t398)) (fun _ h_ => h_.1))) hb, BK389 := bb_ gb389 st[a0_0 A0_1 l0_1 c0_1 A0_2 l0_2 c0_2 a0_3] 31 zq90, BK390 := bb_ gb390 #[.int .i64 0, .slice none 0 0, .slice none 0 0, .int .i64 0] 31 zq91, BK399 := bb_ gb399 st[t391 Ao41 t392 co41 Ao42 t395 co42 t398] 31 (by dB_; refine blk_put (cs := st[t391 Ao41 t392 co41 Ao42 t395 co42 0]) ?_ 3 _ rfl; dB_; refine blk_put (cs := #[.int .i64 t391, .slice Ao41 t392.length co41, .slice none 0 0, .int .i64 0]) ?_ 2 _ rfl; dB_; refine blk_put (cs := #[.int .i64 t391, .slice none 0 0, .slice none 0 0, .int .i64 0]) ?_ 1 _ rfl; dB_; refine blk_put (cs := #[.int .i64 0, .slice none 0 0, .slice none 0 0, .int .i64 0]) ?_ 0 _ rfl; dB_; exact BK399.out), HB := bs_ zq89; tc_; cy_ 45 w44 gb389 BK389 a0_0 A0_1 l0_1 c0_1 A0_2 l0_2 c0_2 a0_3) | (cl_ 55 19 Try.func55 #[.agg st[a0_0 A0_1 l0_1 c0_1 A0_2 l0_2 c0_2 a0_3]] zq8; (with_reducible refine (impl_isStore.calls k a0_0 _ _ l0_1 _ _ l0_2 a0_3 true _ ?side1 ?side2 ?side3 ?side4 A7.out).mono ?_); sd_ 1 [zq11, zq12, zq15, zq16]; rintro e w46 ⟨rfl, hb⟩; refine ⟨_, rfl, ?_⟩; rn_ [] HO394 := rb_ zq87, HO397 := rb_ zq88, BK389 := bb_ gb389 st[a0_0 A0_1 l0_1 c0_1 A0_2 l0_2 c0_2 a0_3] 31 zq83, BK390 := bb_ gb390 #[.int .i64 0, .slice none 0 0, .slice none 0 0, .int .i64 0] 31 zq86, BK399 := bb_ gb399 st[t391 Ao41 t392 co41 Ao42 t395 co42 t398] 31 zq92, HB := bs_ zq89; tc_; cy_ 47 w46 gb389 BK389 a0_0 A0_1 l0_1 c0_1 A0_2 l0_2 c0_2 a0_3; have p402 : 0 ≤ (t400 : Int) := of_decide_eq_true zq7; have q402 : t400 < (l0_2.length : Int) := of_decide_eq_true zq7; obtain ⟨ad402, e402, hx402_0, hx402_1⟩ := at_T68 HR0_2.out t400 p402 q402; cases e402; replace hx402_0 := (HB.out.cell (World.block_lt_of_cell? w _ hx402_0)).trans hx402_0; replace hx402_1 := (HB.out.cell (World.block_lt_of_cell? w _ hx402_1)).trans hx402_1; replace p402 := eq_true p402; replace q402 := eq_true q402))
       have n0_ := Aside0.mk (Kd.R_drew HO394.out)
       have n1_ := Aside0.mk (Kd.R_drew HO397.out)
       have n2_ := Aside0.mk (blk_drew BK389.out)
       have n3_ := Aside0.mk (blk_drew BK390.out)
       have n4_ := Aside0.mk (blk_drew BK399.out)
       have n5_ := Aside0.mk (below_drew1 HB.out)
       clear HO394
       clear HO397
       clear BK389
       clear BK390
       clear BK399
       clear HB
       have HO394 := n0_
       have HO397 := n1_
       have BK389 := n2_
       have BK390 := n3_
       have BK399 := n4_
       have HB := n5_
       clear n0_ n1_ n2_ n3_ n4_ n5_
       refine start_ (n := 9) (S := fun w' => w'.cell? ⟨gb389, 0, none⟩ = some (.int .i64 a0_0) ∧ w'.cell? ⟨gb389, 1, none⟩ = some (.slice A0_1 l0_1.length c0_1) ∧ w'.cell? ⟨gb389, 2, none⟩ = some (.slice (some ad402) l0_2.length c0_2) ∧ w'.cell? ⟨gb389, 3, none⟩ = some (.int .i64 a0_3)) (ds := []) (bA 9 0) (by kernel_rfl) rfl rfl ⟨(blk_cell BK389.out 0).trans rfl, (blk_cell BK389.out 1).trans rfl, (blk_cell BK389.out 2).trans rfl, (blk_cell BK389.out 3).trans rfl⟩ (fun hHeld => ?_); refine with_tabW impl_Chunk.tab9 impl_Chunk.bits9 (fun HT_ HW_ => ?_)
       generalize w46.drew = w48 at HO394 HO397 BK389 BK390 BK399 HB hHeld ⊢
       pV 2 40 9 4 zq331 zq332
       pV 3 41 9 12 zq331 zq332
       pV 5 43 9 44 zq331 zq332
       tV 0 38 9 45 zq338 zq332
       tV 6 44 9 109 zq338 zq332
       refine one_ (i := 1) (N := some 39) (bA 9 111) rfl rfl (one_of HT_.out (by kernel_rfl)) (by decide) (fun K hK => ?_)
       refine goes_ Try.func58 (by kernel_rfl) rfl #[.agg #[.int .i64 a0_0, .slice A0_1 l0_1.length c0_1, .slice (some ad402) l0_2.length c0_2, .int .i64 a0_3]] (by rfl) rfl rfl zq8 ?_
       with_reducible refine (impl_used.calls k a0_0 _ _ l0_1 _ _ l0_2 a0_3 t403 _ ?side1 ?side2 ?side3 ?side4 A30.out).mono ?_
       sd_ 1 [zq11]
       sd_ 2 [zq12]
       sd_ 3 [zq15]
       sd_ 4 [zq16]
       rintro e w49 ⟨rfl, hb⟩
       refine ⟨_, rfl, ?_⟩
       have n0_ := Aside0.mk (Kd.R_below zq87 hb)
       have n1_ := Aside0.mk (Kd.R_below zq88 hb)
       have n2_ := Aside0.mk (blk_below (g := gb389) (o := .cells #[.int .i64 a0_0, .slice A0_1 l0_1.length c0_1, .slice (some ad402) l0_2.length c0_2, .int .i64 a0_3] 31 (0, 0)) zq83 hb)
       have n3_ := Aside0.mk (blk_below (g := gb390) (o := .cells #[.int .i64 0, .slice none 0 0, .slice none 0 0, .int .i64 0] 31 (0, 0)) zq86 hb)
       have n4_ := Aside0.mk (blk_below (g := gb399) (o := .cells st[t391 Ao41 t392 co41 Ao42 t395 co42 t398] 31 (0, 0)) zq92 hb)
       have n5_ := Aside0.mk (below_step zq89 hb)
       clear HO394
       clear HO397
       clear BK389
       clear BK390
       clear BK399
       clear HB
       have HO394 := n0_
       have HO397 := n1_
       have BK389 := n2_
       have BK390 := n3_
       have BK399 := n4_
       have HB := n5_
       clear n0_ n1_ n2_ n3_ n4_ n5_
       (try clear hb)
       (try clear hb2)
       (try clear hk)
       (try clear hi)
       refine hK.out _ _ ⟨(blk_cell BK389.out 0).trans rfl, (blk_cell BK389.out 1).trans rfl, (blk_cell BK389.out 2).trans rfl, (blk_cell BK389.out 3).trans rfl⟩ (fun hHeld => ?_)
       clear hK K
       refine norm_ (a' := ?_) ?_ ?_
       rotate_left
       ·
        show Act.put _ (some 39) _ = _
        simp only [Act.put, List.setIfInBounds_toArray, List.set_cons_zero, List.set_cons_succ, i64_w, i32_w]
        rfl
       pV 4 42 9 127 zq331 zq332
       pV 7 45 9 255 zq331 zq332
       pV 8 37 9 511 zq331 zq332
       refine done_ (done_of HT_.out (by kernel_rfl)) ?_
       cy_ 50 w49 gb399 BK399 t391 Ao41 t392 co41 Ao42 t395 co42 t398
       cz_ 51 w49 gb390 BK390 [.int .i64 0, .slice none 0 0, .slice none 0 0, .int .i64 0]
       try go_wp2
       refine bodyPost_ret (results_ct rfl _ _ gb390 31 st[t391 Ao41 t392 co41 Ao42 t395 co42 t398] (0, 0) _ rfl (by dB_; refine blk_put (cs := st[t391 Ao41 t392 co41 Ao42 t395 co42 0]) ?_ 3 _ rfl; dB_; refine blk_put (cs := #[.int .i64 t391, .slice Ao41 t392.length co41, .slice none 0 0, .int .i64 0]) ?_ 2 _ rfl; dB_; refine blk_put (cs := #[.int .i64 t391, .slice none 0 0, .slice none 0 0, .int .i64 0]) ?_ 1 _ rfl; dB_; refine blk_put (cs := #[.int .i64 0, .slice none 0 0, .slice none 0 0, .int .i64 0]) ?_ 0 _ rfl; dB_; exact BK390.out) Try.underlying31 rfl (by kernel_rfl)) rfl ?_
       exact ⟨_, _, zq4, by dR_; exact Kd.R_mono (Kd.R_far (p := ⟨gb390, 3, none⟩) (Kd.R_far (p := ⟨gb390, 2, none⟩) (Kd.R_far (p := ⟨gb390, 1, none⟩) (Kd.R_far (p := ⟨gb390, 0, none⟩) (Kd.R_types HO394.out BK390.out (by decide)) (fun _ hk => hk.2) (.int .i64 t391)) (fun _ hk => hk.2) (.slice Ao41 t392.length co41)) (fun _ hk => hk.2) (.slice Ao42 t395.length co42)) (fun _ hk => hk.2) (.int .i64 t398)) (fun _ hk => trivial), by dR_; exact Kd.R_mono (Kd.R_far (p := ⟨gb390, 3, none⟩) (Kd.R_far (p := ⟨gb390, 2, none⟩) (Kd.R_far (p := ⟨gb390, 1, none⟩) (Kd.R_far (p := ⟨gb390, 0, none⟩) (Kd.R_types HO397.out BK390.out (by decide)) (fun _ hk => hk.2) (.int .i64 t391)) (fun _ hk => hk.2) (.slice Ao41 t392.length co41)) (fun _ hk => hk.2) (.slice Ao42 t395.length co42)) (fun _ hk => hk.2) (.int .i64 t398)) (fun _ hk => trivial), zq89⟩
      ·
       rw [if_neg c31] at H
       have c31b0 : decide (a0_0 < (wrap64 (t403 + (a3.size : Int)))) = false := decide_eq_false c31
       clear c31
       by_cases c52 : t400 < (t395.length : Int)
       ·
        rw [if_pos c52] at H
        have c52b0 : decide (t400 < (t395.length : Int)) = true := decide_eq_true c52
        clear c52
        by_cases c53 : ((rd_T68 t395 t400).f1).size + a3.size ≤ 9223372036854775807
        ·
         rw [if_pos c53] at H
         have c53b0 := eq_true c53
         have c53b1 : decide (((rd_T68 t395 t400).f1).size + a3.size ≤ 9223372036854775807) = true := decide_eq_true c53
         try have c53b2 : (9223372036854775807 < ((rd_T68 t395 t400).f1).size + a3.size) = False := eq_false (Nat.not_lt.2 c53)
         obtain ⟨y405, hy405⟩ : ∃ y_ : List (S68), y_ = (t395.set (t400 : Int).toNat (⟨(rd_T68 t395 t400).f0, ((rd_T68 t395 t400).f1) ++ a3⟩ : S68)) := ⟨_, rfl⟩
         replace H : (some (t391, t392, y405, t398, 0)) = some (r1, r2, r3, r4, r5) := by first | (rw [hy405]; with_reducible exact H) | (have H2_ := (Option.bind_some _ _).symm.trans H; rw [hy405]; with_reducible exact H2_) | (have H2_ := (Option.bind_some _ _).symm.trans H; with_reducible exact H2_) | with_reducible exact H | (rw [hy405]; exact H) | exact H
         have Ny405 := Aside0.mk hy405
         clear hy405
         simp only [Option.some.injEq, Prod.mk.injEq] at H
         obtain ⟨rfl, rfl, rfl, rfl, rfl⟩ := H
         go_enter Try.func36, Try.ntmps36
         try go_wp2_with (first | ((with_reducible refine gate_dst (N := 4) rfl ?_); refine box_event ?hg (N := 4) ?hd (cs := st[a0_0 A0_1 l0_1 c0_1 A0_2 l0_2 c0_2 a0_3]) (t := 31) ?hr ?_; (case hd => rfl); (case hg => rfl); (case hr => exact zq2); intro gb389 hg w55 hbox hb; rn_ [BK389 GW389 GE389] HB := bs_ zq3, BK389 := hbox, GW389 := gw_ zq260 gb389, GE389 := gw_ zq260 gb389; clear hb hbox hg) | ((with_reducible refine gate_dst (N := 8) rfl ?_); refine box_event ?hg (N := 8) ?hd (cs := #[.int .i64 0, .slice none 0 0, .slice none 0 0, .int .i64 0]) (t := 31) ?hr ?_; (case hd => rfl); (case hg => rfl); (case hr => exact zq2); intro gb390 hg w56 hbox hb; rn_ [BK390 GW390 GE390 NB389_390 NB390_389] BK389 := bb_ gb389 st[a0_0 A0_1 l0_1 c0_1 A0_2 l0_2 c0_2 a0_3] 31 zq83, HB := bs_ zq84, BK390 := hbox, GW390 := gw_ zq281 gb390, GE390 := gw_ zq281 gb390, NB389_390 := nE_ zq282 gb389 gb390, NB390_389 := nE_ zq283 gb390 gb389; clear hb hbox hg; have hnb57 := NB389_390.out; have hnc57 := NB390_389.out; cy_ 58 w56 gb389 BK389 a0_0 A0_1 l0_1 c0_1 A0_2 l0_2 c0_2 a0_3) | (cl_ 65 13 Try.func65 #[.agg st[a0_0 A0_1 l0_1 c0_1 A0_2 l0_2 c0_2 a0_3]] zq8; (with_reducible refine (impl_copyStore.calls a0_0 _ _ l0_1 _ _ l0_2 a0_3 t391 t392 t395 t398 _ ?side1 ?side2 ?side3 ?side4 A5.out).mono ?_); sd_ 1 [zq11, zq12, zq15, zq16]; rintro e w59 ⟨v393, v396, rfl, ho0, ho1, hb⟩; refine ⟨_, rfl, ?_⟩; rn_ [HO394 HO397] HO394 := Kd.R_lower ho0 (below_size zq85), HO397 := Kd.R_lower ho1 (below_size zq85), BK389 := bb_ gb389 st[a0_0 A0_1 l0_1 c0_1 A0_2 l0_2 c0_2 a0_3] 31 zq83, BK390 := bb_ gb390 #[.int .i64 0, .slice none 0 0, .slice none 0 0, .int .i64 0] 31 zq86, HB := bs_ zq85; tc_; (try clear ho0); (try clear ho1)) | ((with_reducible refine gate_dst (N := 10) rfl ?_); refine box_event ?hg (N := 10) ?hd (cs := #[.int .i64 0, .slice none 0 0, .slice none 0 0, .int .i64 0]) (t := 31) ?hr ?_; (case hd => rfl); (case hg => rfl); (case hr => exact zq2); intro gb399 hg w60 hbox hb; rn_ [BK399 GW399 GE399 NB389_399 NB399_389 NB390_399 NB399_390] HO394 := rb_ zq87, HO397 := rb_ zq88, BK389 := bb_ gb389 st[a0_0 A0_1 l0_1 c0_1 A0_2 l0_2 c0_2 a0_3] 31 zq83, BK390 := bb_ gb390 #[.int .i64 0, .slice none 0 0, .slice none 0 0, .int .i64 0] 31 zq86, HB := bs_ zq85, BK399 := hbox, GW399 := gw_ zq284 gb399, GE399 := gw_ zq284 gb399, NB389_399 := nE_ zq282 gb389 gb399, NB399_389 := nE_ zq283 gb399 gb389, NB390_399 := nE_ zq285 gb390 gb399, NB399_390 := nE_ zq286 gb399 gb390; clear hb hbox hg; have hnb61 := NB399_389.out; have hnc61 := NB389_399.out; have hnb62 := NB399_390.out; have hnc62 := NB390_399.out; cz_ 63 w60 gb399 BK399 [.int .i64 0, .slice none 0 0, .slice none 0 0, .int .i64 0]; obtain ⟨Ao64, co64, eo64⟩ := Kd.R_slice HO394.out; subst eo64; obtain ⟨Ao65, co65, eo65⟩ := Kd.R_slice HO397.out; subst eo65; cy_ 66 w60 gb389 BK389 a0_0 A0_1 l0_1 c0_1 A0_2 l0_2 c0_2 a0_3) | (cl_ 70 16 Try.func70 #[.agg st[a0_0 A0_1 l0_1 c0_1 A0_2 l0_2 c0_2 a0_3], .int .i64 a1] zq8; (with_reducible refine (impl_uploadOf.calls a0_0 _ _ l0_1 _ _ l0_2 a0_3 a1 t400 _ ?side1 ?side2 ?side3 ?side4 A6.out).mono ?_); sd_ 1 [zq287, zq12, zq288, zq16]; rintro e w67 ⟨rfl, hb⟩; refine ⟨_, rfl, ?_⟩; rn_ [] HO394 := Kd.R_below (by dR_; exact (Kd.R_mono (Kd.R_far (p := ⟨gb399, 3, none⟩) (Kd.R_far (p := ⟨gb399, 2, none⟩) (Kd.R_far (p := ⟨gb399, 1, none⟩) (Kd.R_far (p := ⟨gb399, 0, none⟩) (Kd.R_types HO394.out BK399.out (by decide)) (fun _ hk => hk.2) (.int .i64 t391)) (fun _ hk => hk.2) (.slice Ao64 t392.length co64)) (fun _ hk => hk.2) (.slice Ao65 t395.length co65)) (fun _ hk => hk.2) (.int .i64 t398)) (fun _ h_ => h_.1))) hb, HO397 := Kd.R_below (by dR_; exact (Kd.R_mono (Kd.R_far (p := ⟨gb399, 3, none⟩) (Kd.R_far (p := ⟨gb399, 2, none⟩) (Kd.R_far (p := ⟨gb399, 1, none⟩) (Kd.R_far (p := ⟨gb399, 0, none⟩) (Kd.R_types HO397.out BK399.out (by decide)) (fun _ hk => hk.2) (.int .i64 t391)) (fun _ hk => hk.2) (.slice Ao64 t392.length co64)) (fun _ hk => hk.2) (.slice Ao65 t395.length co65)) (fun _ hk => hk.2) (.int .i64 t398)) (fun _ h_ => h_.1))) hb, BK389 := bb_ gb389 st[a0_0 A0_1 l0_1 c0_1 A0_2 l0_2 c0_2 a0_3] 31 zq90, BK390 := bb_ gb390 #[.int .i64 0, .slice none 0 0, .slice none 0 0, .int .i64 0] 31 zq91, BK399 := bb_ gb399 st[t391 Ao64 t392 co64 Ao65 t395 co65 t398] 31 (by dB_; refine blk_put (cs := st[t391 Ao64 t392 co64 Ao65 t395 co65 0]) ?_ 3 _ rfl; dB_; refine blk_put (cs := #[.int .i64 t391, .slice Ao64 t392.length co64, .slice none 0 0, .int .i64 0]) ?_ 2 _ rfl; dB_; refine blk_put (cs := #[.int .i64 t391, .slice none 0 0, .slice none 0 0, .int .i64 0]) ?_ 1 _ rfl; dB_; refine blk_put (cs := #[.int .i64 0, .slice none 0 0, .slice none 0 0, .int .i64 0]) ?_ 0 _ rfl; dB_; exact BK399.out), HB := bs_ zq89; tc_; cy_ 68 w67 gb389 BK389 a0_0 A0_1 l0_1 c0_1 A0_2 l0_2 c0_2 a0_3) | (cl_ 55 19 Try.func55 #[.agg st[a0_0 A0_1 l0_1 c0_1 A0_2 l0_2 c0_2 a0_3]] zq8; (with_reducible refine (impl_isStore.calls k a0_0 _ _ l0_1 _ _ l0_2 a0_3 true _ ?side1 ?side2 ?side3 ?side4 A7.out).mono ?_); sd_ 1 [zq11, zq12, zq15, zq16]; rintro e w69 ⟨rfl, hb⟩; refine ⟨_, rfl, ?_⟩; rn_ [] HO394 := rb_ zq87, HO397 := rb_ zq88, BK389 := bb_ gb389 st[a0_0 A0_1 l0_1 c0_1 A0_2 l0_2 c0_2 a0_3] 31 zq83, BK390 := bb_ gb390 #[.int .i64 0, .slice none 0 0, .slice none 0 0, .int .i64 0] 31 zq86, BK399 := bb_ gb399 st[t391 Ao64 t392 co64 Ao65 t395 co65 t398] 31 zq92, HB := bs_ zq89; tc_; cy_ 70 w69 gb389 BK389 a0_0 A0_1 l0_1 c0_1 A0_2 l0_2 c0_2 a0_3; have p402 : 0 ≤ (t400 : Int) := of_decide_eq_true zq7; have q402 : t400 < (l0_2.length : Int) := of_decide_eq_true zq7; obtain ⟨ad402, e402, hx402_0, hx402_1⟩ := at_T68 HR0_2.out t400 p402 q402; cases e402; replace hx402_0 := (HB.out.cell (World.block_lt_of_cell? w _ hx402_0)).trans hx402_0; replace hx402_1 := (HB.out.cell (World.block_lt_of_cell? w _ hx402_1)).trans hx402_1; replace p402 := eq_true p402; replace q402 := eq_true q402))
         have n0_ := Aside0.mk (Kd.R_drew HO394.out)
         have n1_ := Aside0.mk (Kd.R_drew HO397.out)
         have n2_ := Aside0.mk (blk_drew BK389.out)
         have n3_ := Aside0.mk (blk_drew BK390.out)
         have n4_ := Aside0.mk (blk_drew BK399.out)
         have n5_ := Aside0.mk (below_drew1 HB.out)
         clear HO394
         clear HO397
         clear BK389
         clear BK390
         clear BK399
         clear HB
         have HO394 := n0_
         have HO397 := n1_
         have BK389 := n2_
         have BK390 := n3_
         have BK399 := n4_
         have HB := n5_
         clear n0_ n1_ n2_ n3_ n4_ n5_
         refine start_ (n := 9) (S := fun w' => w'.cell? ⟨gb389, 0, none⟩ = some (.int .i64 a0_0) ∧ w'.cell? ⟨gb389, 1, none⟩ = some (.slice A0_1 l0_1.length c0_1) ∧ w'.cell? ⟨gb389, 2, none⟩ = some (.slice (some ad402) l0_2.length c0_2) ∧ w'.cell? ⟨gb389, 3, none⟩ = some (.int .i64 a0_3)) (ds := []) (bA 9 0) (by kernel_rfl) rfl rfl ⟨(blk_cell BK389.out 0).trans rfl, (blk_cell BK389.out 1).trans rfl, (blk_cell BK389.out 2).trans rfl, (blk_cell BK389.out 3).trans rfl⟩ (fun hHeld => ?_); refine with_tabW impl_Chunk.tab9 impl_Chunk.bits9 (fun HT_ HW_ => ?_)
         generalize w69.drew = w71 at HO394 HO397 BK389 BK390 BK399 HB hHeld ⊢
         pV 2 40 9 4 zq331 zq332
         pV 3 41 9 12 zq331 zq332
         pV 5 43 9 44 zq331 zq332
         tV 0 38 9 45 zq338 zq332
         tV 6 44 9 109 zq338 zq332
         refine one_ (i := 1) (N := some 39) (bA 9 111) rfl rfl (one_of HT_.out (by kernel_rfl)) (by decide) (fun K hK => ?_)
         refine goes_ Try.func58 (by kernel_rfl) rfl #[.agg #[.int .i64 a0_0, .slice A0_1 l0_1.length c0_1, .slice (some ad402) l0_2.length c0_2, .int .i64 a0_3]] (by rfl) rfl rfl zq8 ?_
         with_reducible refine (impl_used.calls k a0_0 _ _ l0_1 _ _ l0_2 a0_3 t403 _ ?side1 ?side2 ?side3 ?side4 A30.out).mono ?_
         sd_ 1 [zq11]
         sd_ 2 [zq12]
         sd_ 3 [zq15]
         sd_ 4 [zq16]
         rintro e w72 ⟨rfl, hb⟩
         refine ⟨_, rfl, ?_⟩
         have n0_ := Aside0.mk (Kd.R_below zq87 hb)
         have n1_ := Aside0.mk (Kd.R_below zq88 hb)
         have n2_ := Aside0.mk (blk_below (g := gb389) (o := .cells #[.int .i64 a0_0, .slice A0_1 l0_1.length c0_1, .slice (some ad402) l0_2.length c0_2, .int .i64 a0_3] 31 (0, 0)) zq83 hb)
         have n3_ := Aside0.mk (blk_below (g := gb390) (o := .cells #[.int .i64 0, .slice none 0 0, .slice none 0 0, .int .i64 0] 31 (0, 0)) zq86 hb)
         have n4_ := Aside0.mk (blk_below (g := gb399) (o := .cells st[t391 Ao64 t392 co64 Ao65 t395 co65 t398] 31 (0, 0)) zq92 hb)
         have n5_ := Aside0.mk (below_step zq89 hb)
         clear HO394
         clear HO397
         clear BK389
         clear BK390
         clear BK399
         clear HB
         have HO394 := n0_
         have HO397 := n1_
         have BK389 := n2_
         have BK390 := n3_
         have BK399 := n4_
         have HB := n5_
         clear n0_ n1_ n2_ n3_ n4_ n5_
         (try clear hb)
         (try clear hb2)
         (try clear hk)
         (try clear hi)
         refine hK.out _ _ ⟨(blk_cell BK389.out 0).trans rfl, (blk_cell BK389.out 1).trans rfl, (blk_cell BK389.out 2).trans rfl, (blk_cell BK389.out 3).trans rfl⟩ (fun hHeld => ?_)
         clear hK K
         refine norm_ (a' := ?_) ?_ ?_
         rotate_left
         ·
          show Act.put _ (some 39) _ = _
          simp only [Act.put, List.setIfInBounds_toArray, List.set_cons_zero, List.set_cons_succ, i64_w, i32_w]
          rfl
         pV 4 42 9 127 zq331 zq332
         pV 7 45 9 255 zq331 zq332
         pV 8 37 9 511 zq331 zq332
         refine done_ (done_of HT_.out (by kernel_rfl)) ?_
         cy_ 73 w72 gb399 BK399 t391 Ao64 t392 co64 Ao65 t395 co65 t398
         have p404 : 0 ≤ (t400 : Int) := of_decide_eq_true zq7
         have q404 : t400 < (t395.length : Int) := of_decide_eq_true zq7
         obtain ⟨ad404, e404, hx404_0, hx404_1⟩ := at_T68 (Kd.R_reads' HO397.out).2.2 t400 p404 q404
         cases e404
         replace p404 := eq_true p404
         replace q404 := eq_true q404
         have p54 : 0 ≤ (t400 : Int) := of_decide_eq_true zq7
         have q54 : (t400 : Int) < ((t395.length : Int) : Int) := of_decide_eq_true zq7
         obtain ⟨go54, co54, eo54, gb54, gl54, cl54, HG54⟩ := Kd.R_form HO397.out (by omega)
         (first | cases eo54 | (injection eo54 with ea_ en_ ec_; (first | subst ea_ | (injection ea_ with ea_; subst ea_)); subst ec_; clear en_))
         have GB54 := Aside0.mk gb54
         have GG54 := Aside0.mk HG54
         clear gb54 gl54 HG54
         (first | simp only [add_plain] at hx404_0 | skip)
         (first | simp only [add_plain] at hx404_1 | skip)
         obtain ⟨ce54, hcl54, hM54, hcc54, hfr54⟩ := Kd.R_elem HO397.out z68 (t400 : Int) p54 q54
         obtain rfl := k68_openM hM54
         have hx54_0 : w72.cell? ⟨go54, (t400 : Int).toNat * 2, none⟩ = some (.int .i64 ((rd_T68 t395 t400).f0)) := hcc54 0 _ rfl
         have hx54_1 : w72.cell? ⟨go54, (t400 : Int).toNat * 2 + 1, none⟩ = some (.string ((rd_T68 t395 t400).f1)) := hcc54 1 _ rfl
         have hf54_0 : w72.frozen? ⟨go54, (t400 : Int).toNat * 2, none⟩ = false := (hfr54 0 (by decide))
         have hf54_1 : w72.frozen? ⟨go54, (t400 : Int).toNat * 2 + 1, none⟩ = false := (hfr54 1 (by decide))
         clear hcl54 hcc54 hfr54 hM54
         replace p54 := eq_true p54
         replace q54 := eq_true q54
         have HX74 := Aside0.mk (show Kd.R k68 68 w72 w.heap.size (fun _ => True) (.slice (some ⟨go54, 0, none⟩) t395.length co65) t395 from zq88)
         obtain ⟨ce74, hcl74, hM74, hcc74, hfr74⟩ := Kd.R_elem HX74.out z68 (t400 : Int) (of_decide_eq_true zq7) zq289
         obtain rfl := k68_openM hM74
         have HP74 := Kd.R_seg HX74.out (t400 : Int) (of_decide_eq_true zq7) zq289 (seg := [.string (((rd_T68 t395 t400).f1) ++ a3)]) (j := 1) hcl74 hcc74 (show 2 ≤ 2 from by decide) (x' := (⟨(rd_T68 t395 t400).f0, ((rd_T68 t395 t400).f1) ++ a3⟩ : S68)) (k68_mkM _ _ _ (⟨(rd_T68 t395 t400).f0, ((rd_T68 t395 t400).f1) ++ a3⟩ : S68) ) (fun _ hk => hk)
         have hx74_1 := hcc74 1 _ rfl
         (try simp only [show (k68).sz = 2 from rfl, Nat.mul_one, Nat.add_zero] at hx74_1)
         have hf74_1 := (hfr74 1 (by decide))
         (try simp only [show (k68).sz = 2 from rfl, Nat.mul_one, Nat.add_zero] at hf74_1)
         clear hcl74 hcc74 hfr74 hM74
         try go_wp2_with (first | ((with_reducible refine gate_store (t := 9) (p := 56) rfl ?_); refine store_event (t := 9) (p := 56) (v := ?vo_w75) (w1 := (w72.setCell ⟨go54, (t400 : Int).toNat * 2 + 1, none⟩ (.string (((rd_T68 t395 t400).f1) ++ a3)))) ?hg ?ho ?hn ?hr ?_; (case ho => rfl); (case hg => rfl); (case hn => rfl); (case hr => exact zq2); intro w75 hw; have hg : w72.grownBy w75 (some go54) := (by rw [hw]; exact HP74.2); have hp_ : Kd.R k68 68 w75 w.heap.size (fun _ => True) (.slice (some ⟨go54, 0, none⟩) t395.length co65) y405 := (by rw [hw, Ny405.out]; exact HP74.1); clear HP74; rn_ [] BK389 := blk_grown (g := gb389) (o := .cells #[.int .i64 a0_0, .slice A0_1 l0_1.length c0_1, .slice (some ad402) l0_2.length c0_2, .int .i64 a0_3] 31 (0, 0)) zq83 hg (Kd.R_ne HO397.out BK389.out (by decide)), BK390 := blk_grown (g := gb390) (o := .cells #[.int .i64 0, .slice none 0 0, .slice none 0 0, .int .i64 0] 31 (0, 0)) zq86 hg (Kd.R_ne HO397.out BK390.out (by decide)), HO394 := Kd.R_over' (v := (.slice (some ⟨go54, 0, none⟩) t395.length co65)) zq87 (Kd.R_typed HO397.out) (by decide) hg, HO397 := hp_, BK399 := blk_grown (g := gb399) (o := .cells #[.int .i64 t391, .slice Ao64 t392.length co64, .slice (some ⟨go54, 0, none⟩) t395.length co65, .int .i64 t398] 31 (0, 0)) zq92 hg (Kd.R_ne HO397.out BK399.out (by decide)), HB := (by rw [hw]; exact below_set (HB.out) GB54.out : Below w.heap.size w w75); clear hg hw hp_; cz_ 76 w75 gb399 BK399 [.int .i64 t391, .slice Ao64 t392.length co64, .slice (some ⟨go54, 0, none⟩) t395.length co65, .int .i64 t398]; cz_ 77 w75 gb390 BK390 [.int .i64 0, .slice none 0 0, .slice none 0 0, .int .i64 0]))
         refine bodyPost_ret (results_ct rfl _ _ gb390 31 #[.int .i64 t391, .slice Ao64 t392.length co64, .slice (some ⟨go54, 0, none⟩) t395.length co65, .int .i64 t398] (0, 0) _ rfl (by dB_; refine blk_put (cs := #[.int .i64 t391, .slice Ao64 t392.length co64, .slice (some ⟨go54, 0, none⟩) t395.length co65, .int .i64 0]) ?_ 3 _ rfl; dB_; refine blk_put (cs := #[.int .i64 t391, .slice Ao64 t392.length co64, .slice none 0 0, .int .i64 0]) ?_ 2 _ rfl; dB_; refine blk_put (cs := #[.int .i64 t391, .slice none 0 0, .slice none 0 0, .int .i64 0]) ?_ 1 _ rfl; dB_; refine blk_put (cs := #[.int .i64 0, .slice none 0 0, .slice none 0 0, .int .i64 0]) ?_ 0 _ rfl; dB_; exact BK390.out) Try.underlying31 rfl (by kernel_rfl)) rfl ?_
         exact ⟨_, _, zq4, by dR_; exact Kd.R_mono (Kd.R_far (p := ⟨gb390, 3, none⟩) (Kd.R_far (p := ⟨gb390, 2, none⟩) (Kd.R_far (p := ⟨gb390, 1, none⟩) (Kd.R_far (p := ⟨gb390, 0, none⟩) (Kd.R_types HO394.out BK390.out (by decide)) (fun _ hk => hk.2) (.int .i64 t391)) (fun _ hk => hk.2) (.slice Ao64 t392.length co64)) (fun _ hk => hk.2) (.slice (some ⟨go54, 0, none⟩) t395.length co65)) (fun _ hk => hk.2) (.int .i64 t398)) (fun _ hk => trivial), by dR_; exact Kd.R_mono (Kd.R_far (p := ⟨gb390, 3, none⟩) (Kd.R_far (p := ⟨gb390, 2, none⟩) (Kd.R_far (p := ⟨gb390, 1, none⟩) (Kd.R_far (p := ⟨gb390, 0, none⟩) (Kd.R_types HO397.out BK390.out (by decide)) (fun _ hk => hk.2) (.int .i64 t391)) (fun _ hk => hk.2) (.slice Ao64 t392.length co64)) (fun _ hk => hk.2) (.slice (some ⟨go54, 0, none⟩) t395.length co65)) (fun _ hk => hk.2) (.int .i64 t398)) (fun _ hk => trivial), zq89⟩
        ·
         rw [if_neg c53] at H
         exact absurd H (by simp)
       ·
        rw [if_neg c52] at H
        exact absurd H (by simp)
     ·
      rw [if_neg c29] at H
      have c29b0 : (a2 == (((rd_T68 l0_2 t400).f1).size : Int)) = false := beq_eq_false_iff_ne.mpr c29
      have c29b1 : (a2 != (((rd_T68 l0_2 t400).f1).size : Int)) = true := bne_iff_ne.mpr c29
      simp only [Option.some.injEq, Prod.mk.injEq] at H
      obtain ⟨rfl, rfl, rfl, rfl, rfl⟩ := H
      go_enter Try.func36, Try.ntmps36
      go_wp2_with (first | ((with_reducible refine gate_dst (N := 4) rfl ?_); refine box_event ?hg (N := 4) ?hd (cs := st[a0_0 A0_1 l0_1 c0_1 A0_2 l0_2 c0_2 a0_3]) (t := 31) ?hr ?_; (case hd => rfl); (case hg => rfl); (case hr => exact zq2); intro gb389 hg w78 hbox hb; rn_ [BK389 GW389 GE389] HB := bs_ zq3, BK389 := hbox, GW389 := gw_ zq260 gb389, GE389 := gw_ zq260 gb389; clear hb hbox hg) | ((with_reducible refine gate_dst (N := 8) rfl ?_); refine box_event ?hg (N := 8) ?hd (cs := #[.int .i64 0, .slice none 0 0, .slice none 0 0, .int .i64 0]) (t := 31) ?hr ?_; (case hd => rfl); (case hg => rfl); (case hr => exact zq2); intro gb390 hg w79 hbox hb; rn_ [BK390 GW390 GE390 NB389_390 NB390_389] BK389 := bb_ gb389 st[a0_0 A0_1 l0_1 c0_1 A0_2 l0_2 c0_2 a0_3] 31 zq83, HB := bs_ zq84, BK390 := hbox, GW390 := gw_ zq281 gb390, GE390 := gw_ zq281 gb390, NB389_390 := nE_ zq282 gb389 gb390, NB390_389 := nE_ zq283 gb390 gb389; clear hb hbox hg; have hnb80 := NB389_390.out; have hnc80 := NB390_389.out; cy_ 81 w79 gb389 BK389 a0_0 A0_1 l0_1 c0_1 A0_2 l0_2 c0_2 a0_3) | (cl_ 65 13 Try.func65 #[.agg st[a0_0 A0_1 l0_1 c0_1 A0_2 l0_2 c0_2 a0_3]] zq8; (with_reducible refine (impl_copyStore.calls a0_0 _ _ l0_1 _ _ l0_2 a0_3 t391 t392 t395 t398 _ ?side1 ?side2 ?side3 ?side4 A5.out).mono ?_); sd_ 1 [zq11, zq12, zq15, zq16]; rintro e w82 ⟨v393, v396, rfl, ho0, ho1, hb⟩; refine ⟨_, rfl, ?_⟩; rn_ [HO394 HO397] HO394 := Kd.R_lower ho0 (below_size zq85), HO397 := Kd.R_lower ho1 (below_size zq85), BK389 := bb_ gb389 st[a0_0 A0_1 l0_1 c0_1 A0_2 l0_2 c0_2 a0_3] 31 zq83, BK390 := bb_ gb390 #[.int .i64 0, .slice none 0 0, .slice none 0 0, .int .i64 0] 31 zq86, HB := bs_ zq85; tc_; (try clear ho0); (try clear ho1)) | ((with_reducible refine gate_dst (N := 10) rfl ?_); refine box_event ?hg (N := 10) ?hd (cs := #[.int .i64 0, .slice none 0 0, .slice none 0 0, .int .i64 0]) (t := 31) ?hr ?_; (case hd => rfl); (case hg => rfl); (case hr => exact zq2); intro gb399 hg w83 hbox hb; rn_ [BK399 GW399 GE399 NB389_399 NB399_389 NB390_399 NB399_390] HO394 := rb_ zq87, HO397 := rb_ zq88, BK389 := bb_ gb389 st[a0_0 A0_1 l0_1 c0_1 A0_2 l0_2 c0_2 a0_3] 31 zq83, BK390 := bb_ gb390 #[.int .i64 0, .slice none 0 0, .slice none 0 0, .int .i64 0] 31 zq86, HB := bs_ zq85, BK399 := hbox, GW399 := gw_ zq284 gb399, GE399 := gw_ zq284 gb399, NB389_399 := nE_ zq282 gb389 gb399, NB399_389 := nE_ zq283 gb399 gb389, NB390_399 := nE_ zq285 gb390 gb399, NB399_390 := nE_ zq286 gb399 gb390; clear hb hbox hg; have hnb84 := NB399_389.out; have hnc84 := NB389_399.out; have hnb85 := NB399_390.out; have hnc85 := NB390_399.out; cz_ 86 w83 gb399 BK399 [.int .i64 0, .slice none 0 0, .slice none 0 0, .int .i64 0]; obtain ⟨Ao87, co87, eo87⟩ := Kd.R_slice HO394.out; subst eo87; obtain ⟨Ao88, co88, eo88⟩ := Kd.R_slice HO397.out; subst eo88; cy_ 89 w83 gb389 BK389 a0_0 A0_1 l0_1 c0_1 A0_2 l0_2 c0_2 a0_3) | (cl_ 70 16 Try.func70 #[.agg st[a0_0 A0_1 l0_1 c0_1 A0_2 l0_2 c0_2 a0_3], .int .i64 a1] zq8; (with_reducible refine (impl_uploadOf.calls a0_0 _ _ l0_1 _ _ l0_2 a0_3 a1 t400 _ ?side1 ?side2 ?side3 ?side4 A6.out).mono ?_); sd_ 1 [zq287, zq12, zq288, zq16]; rintro e w90 ⟨rfl, hb⟩; refine ⟨_, rfl, ?_⟩; rn_ [] HO394 := Kd.R_below (by dR_; exact (Kd.R_mono (Kd.R_far (p := ⟨gb399, 3, none⟩) (Kd.R_far (p := ⟨gb399, 2, none⟩) (Kd.R_far (p := ⟨gb399, 1, none⟩) (Kd.R_far (p := ⟨gb399, 0, none⟩) (Kd.R_types HO394.out BK399.out (by decide)) (fun _ hk => hk.2) (.int .i64 t391)) (fun _ hk => hk.2) (.slice Ao87 t392.length co87)) (fun _ hk => hk.2) (.slice Ao88 t395.length co88)) (fun _ hk => hk.2) (.int .i64 t398)) (fun _ h_ => h_.1))) hb, HO397 := Kd.R_below (by dR_; exact (Kd.R_mono (Kd.R_far (p := ⟨gb399, 3, none⟩) (Kd.R_far (p := ⟨gb399, 2, none⟩) (Kd.R_far (p := ⟨gb399, 1, none⟩) (Kd.R_far (p := ⟨gb399, 0, none⟩) (Kd.R_types HO397.out BK399.out (by decide)) (fun _ hk => hk.2) (.int .i64 t391)) (fun _ hk => hk.2) (.slice Ao87 t392.length co87)) (fun _ hk => hk.2) (.slice Ao88 t395.length co88)) (fun _ hk => hk.2) (.int .i64 t398)) (fun _ h_ => h_.1))) hb, BK389 := bb_ gb389 st[a0_0 A0_1 l0_1 c0_1 A0_2 l0_2 c0_2 a0_3] 31 zq90, BK390 := bb_ gb390 #[.int .i64 0, .slice none 0 0, .slice none 0 0, .int .i64 0] 31 zq91, BK399 := bb_ gb399 st[t391 Ao87 t392 co87 Ao88 t395 co88 t398] 31 (by dB_; refine blk_put (cs := st[t391 Ao87 t392 co87 Ao88 t395 co88 0]) ?_ 3 _ rfl; dB_; refine blk_put (cs := #[.int .i64 t391, .slice Ao87 t392.length co87, .slice none 0 0, .int .i64 0]) ?_ 2 _ rfl; dB_; refine blk_put (cs := #[.int .i64 t391, .slice none 0 0, .slice none 0 0, .int .i64 0]) ?_ 1 _ rfl; dB_; refine blk_put (cs := #[.int .i64 0, .slice none 0 0, .slice none 0 0, .int .i64 0]) ?_ 0 _ rfl; dB_; exact BK399.out), HB := bs_ zq89; tc_; cy_ 91 w90 gb389 BK389 a0_0 A0_1 l0_1 c0_1 A0_2 l0_2 c0_2 a0_3) | (cl_ 55 19 Try.func55 #[.agg st[a0_0 A0_1 l0_1 c0_1 A0_2 l0_2 c0_2 a0_3]] zq8; (with_reducible refine (impl_isStore.calls k a0_0 _ _ l0_1 _ _ l0_2 a0_3 true _ ?side1 ?side2 ?side3 ?side4 A7.out).mono ?_); sd_ 1 [zq11, zq12, zq15, zq16]; rintro e w92 ⟨rfl, hb⟩; refine ⟨_, rfl, ?_⟩; rn_ [] HO394 := rb_ zq87, HO397 := rb_ zq88, BK389 := bb_ gb389 st[a0_0 A0_1 l0_1 c0_1 A0_2 l0_2 c0_2 a0_3] 31 zq83, BK390 := bb_ gb390 #[.int .i64 0, .slice none 0 0, .slice none 0 0, .int .i64 0] 31 zq86, BK399 := bb_ gb399 st[t391 Ao87 t392 co87 Ao88 t395 co88 t398] 31 zq92, HB := bs_ zq89; tc_; cy_ 93 w92 gb389 BK389 a0_0 A0_1 l0_1 c0_1 A0_2 l0_2 c0_2 a0_3; have p402 : 0 ≤ (t400 : Int) := of_decide_eq_true zq7; have q402 : t400 < (l0_2.length : Int) := of_decide_eq_true zq7; obtain ⟨ad402, e402, hx402_0, hx402_1⟩ := at_T68 HR0_2.out t400 p402 q402; cases e402; replace hx402_0 := (HB.out.cell (World.block_lt_of_cell? w _ hx402_0)).trans hx402_0; replace hx402_1 := (HB.out.cell (World.block_lt_of_cell? w _ hx402_1)).trans hx402_1; replace p402 := eq_true p402; replace q402 := eq_true q402; cy_ 94 w92 gb399 BK399 t391 Ao87 t392 co87 Ao88 t395 co88 t398; cz_ 95 w92 gb390 BK390 [.int .i64 0, .slice none 0 0, .slice none 0 0, .int .i64 0]))
      refine bodyPost_ret (results_ct rfl _ _ gb390 31 st[t391 Ao87 t392 co87 Ao88 t395 co88 t398] (0, 0) _ rfl (by dB_; refine blk_put (cs := st[t391 Ao87 t392 co87 Ao88 t395 co88 0]) ?_ 3 _ rfl; dB_; refine blk_put (cs := #[.int .i64 t391, .slice Ao87 t392.length co87, .slice none 0 0, .int .i64 0]) ?_ 2 _ rfl; dB_; refine blk_put (cs := #[.int .i64 t391, .slice none 0 0, .slice none 0 0, .int .i64 0]) ?_ 1 _ rfl; dB_; refine blk_put (cs := #[.int .i64 0, .slice none 0 0, .slice none 0 0, .int .i64 0]) ?_ 0 _ rfl; dB_; exact BK390.out) Try.underlying31 rfl (by kernel_rfl)) rfl ?_
      exact ⟨_, _, zq4, by dR_; exact Kd.R_mono (Kd.R_far (p := ⟨gb390, 3, none⟩) (Kd.R_far (p := ⟨gb390, 2, none⟩) (Kd.R_far (p := ⟨gb390, 1, none⟩) (Kd.R_far (p := ⟨gb390, 0, none⟩) (Kd.R_types HO394.out BK390.out (by decide)) (fun _ hk => hk.2) (.int .i64 t391)) (fun _ hk => hk.2) (.slice Ao87 t392.length co87)) (fun _ hk => hk.2) (.slice Ao88 t395.length co88)) (fun _ hk => hk.2) (.int .i64 t398)) (fun _ hk => trivial), by dR_; exact Kd.R_mono (Kd.R_far (p := ⟨gb390, 3, none⟩) (Kd.R_far (p := ⟨gb390, 2, none⟩) (Kd.R_far (p := ⟨gb390, 1, none⟩) (Kd.R_far (p := ⟨gb390, 0, none⟩) (Kd.R_types HO397.out BK390.out (by decide)) (fun _ hk => hk.2) (.int .i64 t391)) (fun _ hk => hk.2) (.slice Ao87 t392.length co87)) (fun _ hk => hk.2) (.slice Ao88 t395.length co88)) (fun _ hk => hk.2) (.int .i64 t398)) (fun _ hk => trivial), zq89⟩
    ·
     rw [if_neg c28] at H
     exact absurd H (by simp)
   ·
    rw [if_neg c27] at H
    exact absurd H (by simp)
 ·
  replace c8 := Bool.eq_false_iff.mpr c8
  subst c8
  have H1 : (some (0, ([] : List (S66)), ([] : List (S68)), 0, 1)) = some (r1, r2, r3, r4, r5) := by rw [if_neg (show ¬ (false = true) by decide)] at H; exact H
  clear H
  have H := H1
  clear H1
  simp only [Option.some.injEq, Prod.mk.injEq] at H
  obtain ⟨rfl, rfl, rfl, rfl, rfl⟩ := H
  go_enter Try.func36, Try.ntmps36
  go_wp2_with (first | ((with_reducible refine gate_dst (N := 4) rfl ?_); refine box_event ?hg (N := 4) ?hd (cs := st[a0_0 A0_1 l0_1 c0_1 A0_2 l0_2 c0_2 a0_3]) (t := 31) ?hr ?_; (case hd => rfl); (case hg => rfl); (case hr => exact zq2); intro gb389 hg w96 hbox hb; rn_ [BK389 GW389 GE389] HB := bs_ zq3, BK389 := hbox, GW389 := gw_ zq260 gb389, GE389 := gw_ zq260 gb389; clear hb hbox hg) | ((with_reducible refine gate_dst (N := 8) rfl ?_); refine box_event ?hg (N := 8) ?hd (cs := #[.int .i64 0, .slice none 0 0, .slice none 0 0, .int .i64 0]) (t := 31) ?hr ?_; (case hd => rfl); (case hg => rfl); (case hr => exact zq2); intro gb390 hg w97 hbox hb; rn_ [BK390 GW390 GE390 NB389_390 NB390_389] BK389 := bb_ gb389 st[a0_0 A0_1 l0_1 c0_1 A0_2 l0_2 c0_2 a0_3] 31 zq83, HB := bs_ zq84, BK390 := hbox, GW390 := gw_ zq281 gb390, GE390 := gw_ zq281 gb390, NB389_390 := nE_ zq282 gb389 gb390, NB390_389 := nE_ zq283 gb390 gb389; clear hb hbox hg; have hnb98 := NB389_390.out; have hnc98 := NB390_389.out; cy_ 99 w97 gb389 BK389 a0_0 A0_1 l0_1 c0_1 A0_2 l0_2 c0_2 a0_3) | (cl_ 65 13 Try.func65 #[.agg st[a0_0 A0_1 l0_1 c0_1 A0_2 l0_2 c0_2 a0_3]] zq8; (with_reducible refine (impl_copyStore.calls a0_0 _ _ l0_1 _ _ l0_2 a0_3 t391 t392 t395 t398 _ ?side1 ?side2 ?side3 ?side4 A5.out).mono ?_); sd_ 1 [zq11, zq12, zq15, zq16]; rintro e w100 ⟨v393, v396, rfl, ho0, ho1, hb⟩; refine ⟨_, rfl, ?_⟩; rn_ [HO394 HO397] HO394 := Kd.R_lower ho0 (below_size zq85), HO397 := Kd.R_lower ho1 (below_size zq85), BK389 := bb_ gb389 st[a0_0 A0_1 l0_1 c0_1 A0_2 l0_2 c0_2 a0_3] 31 zq83, BK390 := bb_ gb390 #[.int .i64 0, .slice none 0 0, .slice none 0 0, .int .i64 0] 31 zq86, HB := bs_ zq85; tc_; (try clear ho0); (try clear ho1)) | ((with_reducible refine gate_dst (N := 10) rfl ?_); refine box_event ?hg (N := 10) ?hd (cs := #[.int .i64 0, .slice none 0 0, .slice none 0 0, .int .i64 0]) (t := 31) ?hr ?_; (case hd => rfl); (case hg => rfl); (case hr => exact zq2); intro gb399 hg w101 hbox hb; rn_ [BK399 GW399 GE399 NB389_399 NB399_389 NB390_399 NB399_390] HO394 := rb_ zq87, HO397 := rb_ zq88, BK389 := bb_ gb389 st[a0_0 A0_1 l0_1 c0_1 A0_2 l0_2 c0_2 a0_3] 31 zq83, BK390 := bb_ gb390 #[.int .i64 0, .slice none 0 0, .slice none 0 0, .int .i64 0] 31 zq86, HB := bs_ zq85, BK399 := hbox, GW399 := gw_ zq284 gb399, GE399 := gw_ zq284 gb399, NB389_399 := nE_ zq282 gb389 gb399, NB399_389 := nE_ zq283 gb399 gb389, NB390_399 := nE_ zq285 gb390 gb399, NB399_390 := nE_ zq286 gb399 gb390; clear hb hbox hg; have hnb102 := NB399_389.out; have hnc102 := NB389_399.out; have hnb103 := NB399_390.out; have hnc103 := NB390_399.out; cz_ 104 w101 gb399 BK399 [.int .i64 0, .slice none 0 0, .slice none 0 0, .int .i64 0]; obtain ⟨Ao105, co105, eo105⟩ := Kd.R_slice HO394.out; subst eo105; obtain ⟨Ao106, co106, eo106⟩ := Kd.R_slice HO397.out; subst eo106; cy_ 107 w101 gb389 BK389 a0_0 A0_1 l0_1 c0_1 A0_2 l0_2 c0_2 a0_3) | (cl_ 70 16 Try.func70 #[.agg st[a0_0 A0_1 l0_1 c0_1 A0_2 l0_2 c0_2 a0_3], .int .i64 a1] zq8; (with_reducible refine (impl_uploadOf.calls a0_0 _ _ l0_1 _ _ l0_2 a0_3 a1 t400 _ ?side1 ?side2 ?side3 ?side4 A6.out).mono ?_); sd_ 1 [zq287, zq12, zq288, zq16]; rintro e w108 ⟨rfl, hb⟩; refine ⟨_, rfl, ?_⟩; rn_ [] HO394 := Kd.R_below (by dR_; exact (Kd.R_mono (Kd.R_far (p := ⟨gb399, 3, none⟩) (Kd.R_far (p := ⟨gb399, 2, none⟩) (Kd.R_far (p := ⟨gb399, 1, none⟩) (Kd.R_far (p := ⟨gb399, 0, none⟩) (Kd.R_types HO394.out BK399.out (by decide)) (fun _ hk => hk.2) (.int .i64 t391)) (fun _ hk => hk.2) (.slice Ao105 t392.length co105)) (fun _ hk => hk.2) (.slice Ao106 t395.length co106)) (fun _ hk => hk.2) (.int .i64 t398)) (fun _ h_ => h_.1))) hb, HO397 := Kd.R_below (by dR_; exact (Kd.R_mono (Kd.R_far (p := ⟨gb399, 3, none⟩) (Kd.R_far (p := ⟨gb399, 2, none⟩) (Kd.R_far (p := ⟨gb399, 1, none⟩) (Kd.R_far (p := ⟨gb399, 0, none⟩) (Kd.R_types HO397.out BK399.out (by decide)) (fun _ hk => hk.2) (.int .i64 t391)) (fun _ hk => hk.2) (.slice Ao105 t392.length co105)) (fun _ hk => hk.2) (.slice Ao106 t395.length co106)) (fun _ hk => hk.2) (.int .i64 t398)) (fun _ h_ => h_.1))) hb, BK389 := bb_ gb389 st[a0_0 A0_1 l0_1 c0_1 A0_2 l0_2 c0_2 a0_3] 31 zq90, BK390 := bb_ gb390 #[.int .i64 0, .slice none 0 0, .slice none 0 0, .int .i64 0] 31 zq91, BK399 := bb_ gb399 st[t391 Ao105 t392 co105 Ao106 t395 co106 t398] 31 (by dB_; refine blk_put (cs := st[t391 Ao105 t392 co105 Ao106 t395 co106 0]) ?_ 3 _ rfl; dB_; refine blk_put (cs := #[.int .i64 t391, .slice Ao105 t392.length co105, .slice none 0 0, .int .i64 0]) ?_ 2 _ rfl; dB_; refine blk_put (cs := #[.int .i64 t391, .slice none 0 0, .slice none 0 0, .int .i64 0]) ?_ 1 _ rfl; dB_; refine blk_put (cs := #[.int .i64 0, .slice none 0 0, .slice none 0 0, .int .i64 0]) ?_ 0 _ rfl; dB_; exact BK399.out), HB := bs_ zq89; tc_; cy_ 109 w108 gb389 BK389 a0_0 A0_1 l0_1 c0_1 A0_2 l0_2 c0_2 a0_3) | (cl_ 55 19 Try.func55 #[.agg st[a0_0 A0_1 l0_1 c0_1 A0_2 l0_2 c0_2 a0_3]] zq8; (with_reducible refine (impl_isStore.calls k a0_0 _ _ l0_1 _ _ l0_2 a0_3 false _ ?side1 ?side2 ?side3 ?side4 A7.out).mono ?_); sd_ 1 [zq11, zq12, zq15, zq16]; rintro e w110 ⟨rfl, hb⟩; refine ⟨_, rfl, ?_⟩; rn_ [] HO394 := rb_ zq87, HO397 := rb_ zq88, BK389 := bb_ gb389 st[a0_0 A0_1 l0_1 c0_1 A0_2 l0_2 c0_2 a0_3] 31 zq83, BK390 := bb_ gb390 #[.int .i64 0, .slice none 0 0, .slice none 0 0, .int .i64 0] 31 zq86, BK399 := bb_ gb399 st[t391 Ao105 t392 co105 Ao106 t395 co106 t398] 31 zq92, HB := bs_ zq89; tc_; cz_ 111 w110 gb390 BK390 [.int .i64 0, .slice none 0 0, .slice none 0 0, .int .i64 0]))
  refine bodyPost_ret (results_ct rfl _ _ gb390 31 #[.int .i64 0, .slice none 0 0, .slice none 0 0, .int .i64 0] (0, 0) _ rfl (by dB_; refine blk_put (cs := #[.int .i64 0, .slice none 0 0, .slice none 0 0, .int .i64 0]) ?_ 3 _ rfl; dB_; refine blk_put (cs := #[.int .i64 0, .slice none 0 0, .slice none 0 0, .int .i64 0]) ?_ 2 _ rfl; dB_; refine blk_put (cs := #[.int .i64 0, .slice none 0 0, .slice none 0 0, .int .i64 0]) ?_ 1 _ rfl; dB_; refine blk_put (cs := #[.int .i64 0, .slice none 0 0, .slice none 0 0, .int .i64 0]) ?_ 0 _ rfl; dB_; exact BK390.out) Try.underlying31 rfl (by kernel_rfl)) rfl ?_
  exact ⟨_, _, zq4, zq41, zq41, zq89⟩

end Go.Proofs.Ytacaeebjanglgaa.QFnExactChunk
