/- Written by wip/myprint.py of this repo (the kit's print, with additions of this session). -/
import Derived.Test.YtldpdaifajjaeaaQFnChunkedx17
set_option maxRecDepth 100000
namespace Go.Proofs.Ytldpdaifajjaeaa.QFnChunked
open Go.RowKit Go.Proofs.YtldpdaifajjaeaaW.PrintWords Go.Proofs.YtldpdaifajjaeaaW.PrintLast Go.Proofs.YtldpdaifajjaeaaW.PrintMore
attribute [local go_sem] max2_int min2_int max_two min_two max_three min_three max_four min_four
set_option linter.unusedVariables false
set_option linter.unusedSimpArgs false
attribute [local go_sem high] binOp_leqS binOp_gtrS
mutual
def impl_isStore.j0:Nat→Bool→Int→List (S56)→List (S58)→Int→Option (Bool)
 | 0,_,_,_,_,_=>none
 | k + 1,x35,x543000,x543001,x543002,x543003=>if x35=true then (some false) else (impl_isStore.l0 k x543002 (x543002.length:Int) 0 x543000 x543001 x543002 x543003)
def impl_isStore.l0:Nat→List (S58)→Int→Int→Int→List (S56)→List (S58)→Int→Option (Bool)
 | 0,_,_,_,_,_,_,_=>none
 | k + 1,x37,x38,x39,x543000,x543001,x543002,x543003=>if x39 < x38 then (if 0≤x39 then (if x39 < (x37.length:Int) then ((impl_in.f ((rd_T58 x37 x39).f0) 1 (wrap64 (x543003 - 1))).bind fun t548=>(if t548=true then (if x39 > 0 then (if 0≤(wrap64 (x39 - 1)) then (if (wrap64 (x39 - 1)) < (x543002.length:Int) then (impl_isStore.j2 k x37 x38 x39 (decide (((rd_T58 x543002 (wrap64 (x39 - 1))).f0)≥((rd_T58 x37 x39).f0))) x543000 x543001 x543002 x543003) else (none)) else (none)) else (impl_isStore.j2 k x37 x38 x39 false x543000 x543001 x543002 x543003)) else (impl_isStore.j2 k x37 x38 x39 true x543000 x543001 x543002 x543003))) else (none)) else (none)) else (impl_isStore.l1 k x543001 (x543001.length:Int) 0 x543000 x543001 x543002 x543003)
def impl_isStore.j2:Nat→List (S58)→Int→Int→Bool→Int→List (S56)→List (S58)→Int→Option (Bool)
 | 0,_,_,_,_,_,_,_,_=>none
 | k + 1,x37,x38,x39,x66,x543000,x543001,x543002,x543003=>if x66=true then (some false) else (impl_isStore.l0 k x37 x38 (wrap64 (x39 + 1)) x543000 x543001 x543002 x543003)
def impl_isStore.l1:Nat→List (S56)→Int→Int→Int→List (S56)→List (S58)→Int→Option (Bool)
 | 0,_,_,_,_,_,_,_=>none
 | k + 1,x69,x70,x71,x543000,x543001,x543002,x543003=>if x71 < x70 then (if 0≤x71 then (if x71 < (x69.length:Int) then (if x71 > 0 then (if 0≤(wrap64 (x71 - 1)) then (if (wrap64 (x71 - 1)) < (x543001.length:Int) then (if ((Op.bytesLess (((rd_T56 x543001 (wrap64 (x71 - 1))).f0).toList) (((rd_T56 x69 x71).f0).toList))=true) then ((impl_digestOf.f k ((rd_T56 x69 x71).f1)).bind fun t553=>(impl_isStore.j4 k x69 x70 x71 (((rd_T56 x69 x71).f0).toList != t553.toList) x543000 x543001 x543002 x543003)) else (impl_isStore.j4 k x69 x70 x71 true x543000 x543001 x543002 x543003)) else (none)) else (none)) else ((impl_digestOf.f k ((rd_T56 x69 x71).f1)).bind fun t554=>(impl_isStore.j4 k x69 x70 x71 (((rd_T56 x69 x71).f0).toList != t554.toList) x543000 x543001 x543002 x543003))) else (none)) else (none)) else (some true)
def impl_isStore.j4:Nat→List (S56)→Int→Int→Bool→Int→List (S56)→List (S58)→Int→Option (Bool)
 | 0,_,_,_,_,_,_,_,_=>none
 | k + 1,x69,x70,x71,x97,x543000,x543001,x543002,x543003=>if x97=true then (some false) else (impl_isStore.l1 k x69 x70 (wrap64 (x71 + 1)) x543000 x543001 x543002 x543003)
end
def impl_isStore.f (k:Nat) (a0_0:Int) (l0_1:List (S56)) (l0_2:List (S58)) (a0_3:Int):Option (Bool):=(impl_in.f a0_0 0 200000).bind fun t543=>(if t543=true then (if (l0_1.length:Int) > 60 then (impl_isStore.j0 k true a0_0 l0_1 l0_2 a0_3) else (if (l0_2.length:Int) > 10 then (impl_isStore.j0 k true a0_0 l0_1 l0_2 a0_3) else ((impl_in.f a0_3 1 1000000000000).bind fun t544=>(if t544=true then ((impl_used.f k a0_0 l0_1 l0_2 a0_3).bind fun t545=>(impl_isStore.j0 k (decide (t545 > a0_0)) a0_0 l0_1 l0_2 a0_3)) else (impl_isStore.j0 k true a0_0 l0_1 l0_2 a0_3))))) else (impl_isStore.j0 k true a0_0 l0_1 l0_2 a0_3))
theorem impl_isStore.mono_l:∀ k,(∀ y0 y1 y2 y3 y4,LeO (impl_isStore.j0 k y0 y1 y2 y3 y4) (impl_isStore.j0 (k + 1) y0 y1 y2 y3 y4))∧(∀ y0 y1 y2 y3 y4 y5 y6,LeO (impl_isStore.l0 k y0 y1 y2 y3 y4 y5 y6) (impl_isStore.l0 (k + 1) y0 y1 y2 y3 y4 y5 y6))∧(∀ y0 y1 y2 y3 y4 y5 y6 y7,LeO (impl_isStore.j2 k y0 y1 y2 y3 y4 y5 y6 y7) (impl_isStore.j2 (k + 1) y0 y1 y2 y3 y4 y5 y6 y7))∧(∀ y0 y1 y2 y3 y4 y5 y6,LeO (impl_isStore.l1 k y0 y1 y2 y3 y4 y5 y6) (impl_isStore.l1 (k + 1) y0 y1 y2 y3 y4 y5 y6))∧(∀ y0 y1 y2 y3 y4 y5 y6 y7,LeO (impl_isStore.j4 k y0 y1 y2 y3 y4 y5 y6 y7) (impl_isStore.j4 (k + 1) y0 y1 y2 y3 y4 y5 y6 y7))
 | 0=>⟨fun _ _ _ _ _ r h=>by simp [impl_isStore.j0] at h,fun _ _ _ _ _ _ _ r h=>by simp [impl_isStore.l0] at h,fun _ _ _ _ _ _ _ _ r h=>by simp [impl_isStore.j2] at h,fun _ _ _ _ _ _ _ r h=>by simp [impl_isStore.l1] at h,fun _ _ _ _ _ _ _ _ r h=>by simp [impl_isStore.j4] at h⟩
 | k + 1=>by
  obtain ⟨ih0,ih1,ih2,ih3,ih4⟩:=impl_isStore.mono_l k;refine ⟨?_,?_,?_,?_,?_⟩ <;> (intros;first | unfold impl_isStore.j0 | unfold impl_isStore.l0 | unfold impl_isStore.j2 | unfold impl_isStore.l1 | unfold impl_isStore.j4)
  all_goals with_reducible repeat' first | apply ih0 | apply ih1 | apply ih2 | apply ih3 | apply ih4 | apply impl_digestOf.mono | apply impl_used.mono | exact LeO.refl _ | exact LeO.none _ | refine LeO.ite ?_ ?_ | refine LeO.bind ?_ (fun _=>?_)
theorem impl_isStore.mono:∀ a0 a1 a2 a3 k,LeO (impl_isStore.f k a0 a1 a2 a3) (impl_isStore.f (k + 1) a0 a1 a2 a3):=by
 intro a0 a1 a2 a3 k;obtain ⟨ih0,ih1,ih2,ih3,ih4⟩:=impl_isStore.mono_l k;unfold impl_isStore.f
 with_reducible repeat' first | apply ih0 | apply ih1 | apply ih2 | apply ih3 | apply ih4 | apply impl_digestOf.mono | apply impl_used.mono | exact LeO.refl _ | exact LeO.none _ | refine LeO.ite ?_ ?_ | refine LeO.bind ?_ (fun _=>?_)
def impl_isStore.T1:Bool×List (List Nat×List Nat):=(true,[([],[]),([0],[0]),([1],[1]),([2],[2]),([3,2],[3]),([4],[4]),([5,4],[4,5]),([6,4],[4,6]),([7,4],[4,7]),([4,8],[4,8]),([9,4],[9]),([10],[10]),([11,10],[10,11]),([12,10],[10,12]),([13,10],[10,13]),([10,14],[10,14]),([15,10],[15]),([16],[16]),([17,16],[16,17]),([18,16,16],[16,18]),([19,16],[16,19]),([16,20],[16,20]),([21,19],[21]),([22],[22]),([23,22,22],[22,23]),([22],[22]),([25,22],[22,25]),([24,26,22],[22,24,26]),([22,27],[22,27])])
def impl_isStore.B1:List Nat:=[0,1,3,7,15,31,63,127,255,511,1023,2047,4095,8191,16383,32767,65535,131071,262143,524287,1048575,2097151,4194303,8388607,16777215,8388607,41943039,134217727,268435455]
theorem impl_isStore.tab1:rtab .any (opsOf Try.f31 1)=impl_isStore.T1:=by kernel_rfl
theorem impl_isStore.bits1:waitsOk impl_isStore.T1.2 impl_isStore.B1=true:=by kernel_rfl
def impl_isStore.T6:Bool×List (List Nat×List Nat):=(true,[([],[]),([0],[0]),([],[]),([2],[2]),([3],[3]),([1,4],[1,4]),([5],[5]),([6,5],[6]),([7],[7]),([8,7],[7,8]),([9,7,7],[7,9]),([10],[10]),([11,10],[10,11]),([10],[10]),([13,10],[10,13]),([12,14,10],[10,12,14]),([15,10],[10,15]),([16,10],[10,16]),([10],[10]),([18,10],[10,18]),([17,19,10],[10,17,19]),([10,20,7],[7,10,20]),([7,21],[7,21])])
def impl_isStore.B6:List Nat:=[0,1,0,4,12,31,63,127,255,511,1023,2047,4095,2047,10239,32767,65535,131071,2047,264191,1048575,2097151,4194303]
theorem impl_isStore.tab6:rtab .any (opsOf Try.f31 6)=impl_isStore.T6:=by kernel_rfl
theorem impl_isStore.bits6:waitsOk impl_isStore.T6.2 impl_isStore.B6=true:=by kernel_rfl
def impl_isStore.T12:Bool×List (List Nat×List Nat):=(true,[([],[]),([0],[0]),([1],[1]),([2],[2]),([3,2],[2,3]),([2],[2]),([5,2],[2,5]),([4,6,2],[2,4,6]),([7,2],[2,7]),([8,2],[2,8]),([2],[2]),([10,2],[2,10]),([9,11,2],[2,9,11]),([2,12],[2,12]),([13,2],[13]),([14],[14]),([15,14],[14,15]),([14],[14]),([17,14],[14,17]),([18,14,14],[14,18]),([16,19,14],[14,16,19]),([14,20],[14,20])])
def impl_isStore.B12:List Nat:=[0,1,3,7,15,7,39,127,255,511,7,1031,4095,8191,16383,32767,65535,32767,163839,425983,1048575,2097151]
theorem impl_isStore.tab12:rtab .any (opsOf Try.f31 12)=impl_isStore.T12:=by kernel_rfl
theorem impl_isStore.bits12:waitsOk impl_isStore.T12.2 impl_isStore.B12=true:=by kernel_rfl
set_option maxHeartbeats 8000000 in
set_option maxRecDepth 100000 in
theorem impl_isStore.calls (k:Nat) (a0_0:Int) (A0_1:Option Addr) (c0_1:Nat) (l0_1:List (S56)) (A0_2:Option Addr) (c0_2:Nat) (l0_2:List (S58)) (a0_3:Int) (r:Bool) (w:World) (hr0_1:Kd.C k56 w A0_1 l0_1.length l0_1) (hc0_1:l0_1.length≤c0_1) (hr0_2:Kd.C k58 w A0_2 l0_2.length l0_2) (hc0_2:l0_2.length≤c0_2) (h:impl_isStore.f k a0_0 l0_1 l0_2 a0_3=some r) :
  Calls Try.prog 31 #[.agg #[.int .i64 a0_0,.slice A0_1 l0_1.length c0_1,.slice A0_2 l0_2.length c0_2,.int .i64 a0_3]] w fun e w'=>e = .returned (.bool r)∧Below w.heap.size w w':=by
 have hu27:=Try.underlying27;have hu58:=Try.underlying58;have hu56:=Try.underlying56;have HR0_1:=aM hr0_1;have HC0_1:=aM hc0_1;clear hr0_1 hc0_1;have HR0_2:=aM hr0_2;have HC0_2:=aM hc0_2;clear hr0_2 hc0_2;have HB:=aM (Below.refl w.heap.size w);unfold impl_isStore.f at h;have H:=h;clear h;have HC2:=aM H;clear H;go_enter Try.func31,Try.ntmps31
 go_upto_region 1 with (first|((with_reducible refine gD 1 rfl ?_);(try (refine gate_guard (by rfl) ?_;dsimp only));refine box_event ?hg (N:=1) ?hd (cs:=#[.int .i64 a0_0,.slice A0_1 l0_1.length c0_1,.slice A0_2 l0_2.length c0_2,.int .i64 a0_3]) (t:=27) ?hr ?_;(case hd=>rfl);(case hg=>rfl);(case hr=>exact zq2);intro gb542 hg w3 hbox hb;have BK542:=aM hbox;have GW542:=aM (zq402:w.heap.size≤gb542);have GE542:=GW542;replace HB:=sB zq3 hb;clear hb hbox hg))
 (try simp only [Act.put,List.setIfInBounds_toArray,List.set_cons_zero,List.set_cons_succ])
 go_cut [35] (fun v35 wc=>∃ (kq:Nat) (x35_1:Bool),v35 = .bool x35_1∧Aside0 (impl_isStore.j0 kq x35_1 a0_0 l0_1 l0_2 a0_3=some r)∧Aside0 (kq≤k)∧Aside0 (wc.heap[gb542]?=some (.cells #[.int .i64 a0_0,(.slice A0_1 l0_1.length c0_1),(.slice A0_2 l0_2.length c0_2),.int .i64 a0_3] 27 (0,0)))∧Aside0 (Below w.heap.size w wc))
 case first =>
  have H:=HC2.out;clear HC2;replace H:=Option.bind_eq_some_iff.mp H;obtain ⟨t543,A40,H⟩:=H;(try dsimp only at H);have A4:=aM A40;clear A40;by_cases c5:t543=true
  ·
   subst c5;rw [if_pos rfl] at H;by_cases c6:(l0_1.length:Int) > 60
   ·
    rw [if_pos c6] at H;have c6b0:decide (60 < (l0_1.length:Int))=true:=decide_eq_true c6;have c6b1:decide (60 < l0_1.length)=true:=decide_eq_true (by omega);clear c6
    (first | rw [c6b0]|(simp only [i64_w,i32_w];rw [c6b0])|skip)
    have H':=aM H;clear H
    try go_wp2
    replace BK542:=bD BK542;replace HB:=aM (below_drew1 HB.out);refine start_ (n:=29) (S:=fun w'=>w'.cell? ⟨gb542,0,none⟩=some (.int .i64 a0_0)∧w'.cell? ⟨gb542,1,none⟩=some (.slice A0_1 l0_1.length c0_1)∧w'.cell? ⟨gb542,2,none⟩=some (.slice A0_2 l0_2.length c0_2)∧w'.cell? ⟨gb542,3,none⟩=some (.int .i64 a0_3)) (ds:=[]) (bA 29 0) (by kernel_rfl) rfl rfl ⟨(blk_cell BK542.out 0).trans rfl,(blk_cell BK542.out 1).trans rfl,(blk_cell BK542.out 2).trans rfl,(blk_cell BK542.out 3).trans rfl⟩ (fun hHeld=>?_);refine with_tabW impl_isStore.tab1 impl_isStore.bits1 (fun HT_ HW_=>?_)
    generalize w3.drew=w7 at BK542 HB hHeld ⊢;refine pV 0 7 29 1 ?_;refine tV 1 8 29 3 rfl zq508 ?_;refine oE 2 9 29 7 rfl (fun K hK=>?_);refine goes_ Try.func55 (by kernel_rfl) rfl #[.int .i64 a0_0,.int .i64 0,.int .i64 200000] (by rfl) rfl rfl zq6 ?_
    with_reducible refine (impl_in.calls a0_0 0 200000 true _ A4.out).mono ?_
    rintro e w' ⟨rfl,⟨nd,rfl⟩⟩;refine ⟨_,rfl,?_⟩;refine hK.out _ _ ⟨(blk_cell BK542.out 0).trans rfl,(blk_cell BK542.out 1).trans rfl,(blk_cell BK542.out 2).trans rfl,(blk_cell BK542.out 3).trans rfl⟩ (fun hHeld=>?_);clear hK K;refine norm_ (a':=?_) ?_ ?_;rotate_left;exact zq524;refine pV 3 10 29 15 ?_;refine pV 4 11 29 31 ?_;refine pV 5 12 29 63 ?_;refine tV 6 13 29 127 rfl zq508 ?_;refine pV 7 14 29 255 ?_;refine pV 8 15 29 511 ?_;refine pV 9 16 29 1023 ?_;refine pV 10 17 29 2047 ?_;refine pU 11 18 29 4095 ?_;refine pU 12 19 29 8191 ?_;refine pU 13 20 29 16383 ?_;refine pU 14 21 29 32767 ?_;refine pV 15 22 29 65535 ?_;refine pV 16 23 29 131071 ?_;refine pU 17 24 29 262143 ?_;refine pU 18 25 29 524287 ?_;refine pU 19 26 29 1048575 ?_;refine pU 20 27 29 2097151 ?_;refine pV 21 28 29 4194303 ?_;refine pV 22 29 29 8388607 ?_;refine pU 23 30 29 16777215 ?_;refine pU 24 31 29 33554431 ?_;refine pU 25 32 29 67108863 ?_;refine pU 26 33 29 134217727 ?_;refine pU 27 34 29 268435455 ?_;refine pV 28 35 29 536870911 ?_;refine dE ?_
    try go_wp2
    go_meet
    case rel=>exact ⟨_,(true),zq19,H',⟨zq20⟩,⟨zq117⟩,⟨zq118⟩⟩
   rw [if_neg c6] at H;have c6b0:decide (60 < (l0_1.length:Int))=false:=decide_eq_false c6;have c6b1:decide (60 < l0_1.length)=false:=decide_eq_false (by omega);clear c6
   (first | rw [c6b0]|(simp only [i64_w,i32_w];rw [c6b0])|skip)
   by_cases c8:(l0_2.length:Int) > 10
   ·
    rw [if_pos c8] at H;have c8b0:decide (10 < (l0_2.length:Int))=true:=decide_eq_true c8;have c8b1:decide (10 < l0_2.length)=true:=decide_eq_true (by omega);clear c8;have H':=aM H;clear H
    try go_wp2
    replace BK542:=bD BK542;replace HB:=aM (below_drew1 HB.out);refine start_ (n:=29) (S:=fun w'=>w'.cell? ⟨gb542,0,none⟩=some (.int .i64 a0_0)∧w'.cell? ⟨gb542,1,none⟩=some (.slice A0_1 l0_1.length c0_1)∧w'.cell? ⟨gb542,2,none⟩=some (.slice A0_2 l0_2.length c0_2)∧w'.cell? ⟨gb542,3,none⟩=some (.int .i64 a0_3)) (ds:=[]) (bA 29 0) (by kernel_rfl) rfl rfl ⟨(blk_cell BK542.out 0).trans rfl,(blk_cell BK542.out 1).trans rfl,(blk_cell BK542.out 2).trans rfl,(blk_cell BK542.out 3).trans rfl⟩ (fun hHeld=>?_);refine with_tabW impl_isStore.tab1 impl_isStore.bits1 (fun HT_ HW_=>?_)
    generalize w3.drew=w9 at BK542 HB hHeld ⊢;refine pV 0 7 29 1 ?_;refine tV 1 8 29 3 rfl zq508 ?_;refine oE 2 9 29 7 rfl (fun K hK=>?_);refine goes_ Try.func55 (by kernel_rfl) rfl #[.int .i64 a0_0,.int .i64 0,.int .i64 200000] (by rfl) rfl rfl zq6 ?_
    with_reducible refine (impl_in.calls a0_0 0 200000 true _ A4.out).mono ?_
    rintro e w' ⟨rfl,⟨nd,rfl⟩⟩;refine ⟨_,rfl,?_⟩;refine hK.out _ _ ⟨(blk_cell BK542.out 0).trans rfl,(blk_cell BK542.out 1).trans rfl,(blk_cell BK542.out 2).trans rfl,(blk_cell BK542.out 3).trans rfl⟩ (fun hHeld=>?_);clear hK K;refine norm_ (a':=?_) ?_ ?_;rotate_left;exact zq524;refine pV 3 10 29 15 ?_;refine pV 4 11 29 31 ?_;refine pV 5 12 29 63 ?_;refine tV 6 13 29 127 rfl zq508 ?_;refine pV 7 14 29 255 ?_;refine pV 8 15 29 511 ?_;refine pV 9 16 29 1023 ?_;refine pV 10 17 29 2047 ?_;refine pV 11 18 29 4095 ?_;refine tV 12 19 29 8191 rfl zq508 ?_;refine pV 13 20 29 16383 ?_;refine pV 14 21 29 32767 ?_;refine pV 15 22 29 65535 ?_;refine pV 16 23 29 131071 ?_;refine pU 17 24 29 262143 ?_;refine pU 18 25 29 524287 ?_;refine pU 19 26 29 1048575 ?_;refine pU 20 27 29 2097151 ?_;refine pV 21 28 29 4194303 ?_;refine pV 22 29 29 8388607 ?_;refine pU 23 30 29 16777215 ?_;refine pU 24 31 29 33554431 ?_;refine pU 25 32 29 67108863 ?_;refine pU 26 33 29 134217727 ?_;refine pU 27 34 29 268435455 ?_;refine pV 28 35 29 536870911 ?_;refine dE ?_
    try go_wp2
    go_meet
    case rel=>exact ⟨_,(true),zq19,H',⟨zq20⟩,⟨zq117⟩,⟨zq118⟩⟩
   rw [if_neg c8] at H;have c8b0:decide (10 < (l0_2.length:Int))=false:=decide_eq_false c8;have c8b1:decide (10 < l0_2.length)=false:=decide_eq_false (by omega);clear c8;replace H:=Option.bind_eq_some_iff.mp H;obtain ⟨t544,A100,H⟩:=H;(try dsimp only at H);have A10:=aM A100;clear A100;by_cases c11:t544=true
   ·
    subst c11;rw [if_pos rfl] at H;replace H:=Option.bind_eq_some_iff.mp H;obtain ⟨t545,A120,H⟩:=H;(try dsimp only at H);have A12:=aM A120;clear A120;have H':=aM H;clear H
    try go_wp2
    replace BK542:=bD BK542;replace HB:=aM (below_drew1 HB.out);refine start_ (n:=29) (S:=fun w'=>w'.cell? ⟨gb542,0,none⟩=some (.int .i64 a0_0)∧w'.cell? ⟨gb542,1,none⟩=some (.slice A0_1 l0_1.length c0_1)∧w'.cell? ⟨gb542,2,none⟩=some (.slice A0_2 l0_2.length c0_2)∧w'.cell? ⟨gb542,3,none⟩=some (.int .i64 a0_3)) (ds:=[]) (bA 29 0) (by kernel_rfl) rfl rfl ⟨(blk_cell BK542.out 0).trans rfl,(blk_cell BK542.out 1).trans rfl,(blk_cell BK542.out 2).trans rfl,(blk_cell BK542.out 3).trans rfl⟩ (fun hHeld=>?_);refine with_tabW impl_isStore.tab1 impl_isStore.bits1 (fun HT_ HW_=>?_)
    generalize w3.drew=w13 at BK542 HB hHeld ⊢;refine pV 0 7 29 1 ?_;refine tV 1 8 29 3 rfl zq508 ?_;refine oE 2 9 29 7 rfl (fun K hK=>?_);refine goes_ Try.func55 (by kernel_rfl) rfl #[.int .i64 a0_0,.int .i64 0,.int .i64 200000] (by rfl) rfl rfl zq6 ?_
    with_reducible refine (impl_in.calls a0_0 0 200000 true _ A4.out).mono ?_
    rintro e w' ⟨rfl,⟨nd,rfl⟩⟩;refine ⟨_,rfl,?_⟩;refine hK.out _ _ ⟨(blk_cell BK542.out 0).trans rfl,(blk_cell BK542.out 1).trans rfl,(blk_cell BK542.out 2).trans rfl,(blk_cell BK542.out 3).trans rfl⟩ (fun hHeld=>?_);clear hK K;refine norm_ (a':=?_) ?_ ?_;rotate_left;exact zq524;refine pV 3 10 29 15 ?_;refine pV 4 11 29 31 ?_;refine pV 5 12 29 63 ?_;refine tV 6 13 29 127 rfl zq508 ?_;refine pV 7 14 29 255 ?_;refine pV 8 15 29 511 ?_;refine pV 9 16 29 1023 ?_;refine pV 10 17 29 2047 ?_;refine pV 11 18 29 4095 ?_;refine tV 12 19 29 8191 rfl zq508 ?_;refine pV 13 20 29 16383 ?_;refine pV 14 21 29 32767 ?_;refine pV 15 22 29 65535 ?_;refine pV 16 23 29 131071 ?_;refine pV 17 24 29 262143 ?_;refine tV 18 25 29 524287 rfl zq508 ?_;refine oE 19 26 29 1048575 rfl (fun K hK=>?_);refine goes_ Try.func55 (by kernel_rfl) rfl #[.int .i64 a0_3,.int .i64 1,.int .i64 1000000000000] (by rfl) rfl rfl zq6 ?_
    with_reducible refine (impl_in.calls a0_3 1 1000000000000 true _ A10.out).mono ?_
    rintro e w' ⟨rfl,⟨nd,rfl⟩⟩;refine ⟨_,rfl,?_⟩;refine hK.out _ _ ⟨(blk_cell BK542.out 0).trans rfl,(blk_cell BK542.out 1).trans rfl,(blk_cell BK542.out 2).trans rfl,(blk_cell BK542.out 3).trans rfl⟩ (fun hHeld=>?_);clear hK K;refine norm_ (a':=?_) ?_ ?_;rotate_left;exact zq525;refine pV 20 27 29 2097151 ?_;refine pV 21 28 29 4194303 ?_;refine pV 22 29 29 8388607 ?_;refine pV 25 32 29 41943039 ?_;refine tV 23 30 29 50331647 rfl zq508 ?_;refine tV 26 33 29 117440511 rfl zq508 ?_;refine oE 24 31 29 134217727 rfl (fun K hK=>?_);refine goes_ Try.func39 (by kernel_rfl) rfl #[.agg #[.int .i64 a0_0,.slice A0_1 l0_1.length c0_1,.slice A0_2 l0_2.length c0_2,.int .i64 a0_3]] (by rfl) rfl rfl zq6 ?_
    with_reducible refine (impl_used.calls k a0_0 _ _ l0_1 _ _ l0_2 a0_3 t545 _ ?side1 ?side2 ?side3 ?side4 A12.out).mono ?_
    (case side1=>repeat (first | exact (Kd.C_below HR0_1.out zq118)|(with_reducible refine Kd.C_alloc ?_ _)|(with_reducible refine Kd.C_drewN ?_ _)|(with_reducible refine Kd.C_drew ?_)))
    (case side2=>exact zq8)
    (case side3=>repeat (first | exact (Kd.C_below HR0_2.out zq118)|(with_reducible refine Kd.C_alloc ?_ _)|(with_reducible refine Kd.C_drewN ?_ _)|(with_reducible refine Kd.C_drew ?_)))
    (case side4=>exact zq10)
    rintro e w14 ⟨rfl,hb⟩;refine ⟨_,rfl,?_⟩;replace BK542:=bG BK542 hb;replace HB:=sB zq118 hb;(try clear hb);refine hK.out _ _ ⟨(blk_cell BK542.out 0).trans rfl,(blk_cell BK542.out 1).trans rfl,(blk_cell BK542.out 2).trans rfl,(blk_cell BK542.out 3).trans rfl⟩ (fun hHeld=>?_);clear hK K;refine norm_ (a':=?_) ?_ ?_;rotate_left;exact zq510;refine pV 27 34 29 268435455 ?_;refine pV 28 35 29 536870911 ?_;refine dE ?_
    try go_wp2
    go_meet
    case rel=>exact ⟨_,(decide (t545 > a0_0)),zq19,H',⟨zq20⟩,⟨zq117⟩,⟨zq118⟩⟩
   replace c11:=Bool.eq_false_iff.mpr c11;subst c11;rw [if_neg (show ¬ (false=true) by decide)] at H;have H':=aM H;clear H
   try go_wp2
   replace BK542:=bD BK542;replace HB:=aM (below_drew1 HB.out);refine start_ (n:=29) (S:=fun w'=>w'.cell? ⟨gb542,0,none⟩=some (.int .i64 a0_0)∧w'.cell? ⟨gb542,1,none⟩=some (.slice A0_1 l0_1.length c0_1)∧w'.cell? ⟨gb542,2,none⟩=some (.slice A0_2 l0_2.length c0_2)∧w'.cell? ⟨gb542,3,none⟩=some (.int .i64 a0_3)) (ds:=[]) (bA 29 0) (by kernel_rfl) rfl rfl ⟨(blk_cell BK542.out 0).trans rfl,(blk_cell BK542.out 1).trans rfl,(blk_cell BK542.out 2).trans rfl,(blk_cell BK542.out 3).trans rfl⟩ (fun hHeld=>?_);refine with_tabW impl_isStore.tab1 impl_isStore.bits1 (fun HT_ HW_=>?_)
   generalize w3.drew=w15 at BK542 HB hHeld ⊢;refine pV 0 7 29 1 ?_;refine tV 1 8 29 3 rfl zq508 ?_;refine oE 2 9 29 7 rfl (fun K hK=>?_);refine goes_ Try.func55 (by kernel_rfl) rfl #[.int .i64 a0_0,.int .i64 0,.int .i64 200000] (by rfl) rfl rfl zq6 ?_
   with_reducible refine (impl_in.calls a0_0 0 200000 true _ A4.out).mono ?_
   rintro e w' ⟨rfl,⟨nd,rfl⟩⟩;refine ⟨_,rfl,?_⟩;refine hK.out _ _ ⟨(blk_cell BK542.out 0).trans rfl,(blk_cell BK542.out 1).trans rfl,(blk_cell BK542.out 2).trans rfl,(blk_cell BK542.out 3).trans rfl⟩ (fun hHeld=>?_);clear hK K;refine norm_ (a':=?_) ?_ ?_;rotate_left;exact zq524;refine pV 3 10 29 15 ?_;refine pV 4 11 29 31 ?_;refine pV 5 12 29 63 ?_;refine tV 6 13 29 127 rfl zq508 ?_;refine pV 7 14 29 255 ?_;refine pV 8 15 29 511 ?_;refine pV 9 16 29 1023 ?_;refine pV 10 17 29 2047 ?_;refine pV 11 18 29 4095 ?_;refine tV 12 19 29 8191 rfl zq508 ?_;refine pV 13 20 29 16383 ?_;refine pV 14 21 29 32767 ?_;refine pV 15 22 29 65535 ?_;refine pV 16 23 29 131071 ?_;refine pV 17 24 29 262143 ?_;refine tV 18 25 29 524287 rfl zq508 ?_;refine oE 19 26 29 1048575 rfl (fun K hK=>?_);refine goes_ Try.func55 (by kernel_rfl) rfl #[.int .i64 a0_3,.int .i64 1,.int .i64 1000000000000] (by rfl) rfl rfl zq6 ?_
   with_reducible refine (impl_in.calls a0_3 1 1000000000000 false _ A10.out).mono ?_
   rintro e w' ⟨rfl,⟨nd,rfl⟩⟩;refine ⟨_,rfl,?_⟩;refine hK.out _ _ ⟨(blk_cell BK542.out 0).trans rfl,(blk_cell BK542.out 1).trans rfl,(blk_cell BK542.out 2).trans rfl,(blk_cell BK542.out 3).trans rfl⟩ (fun hHeld=>?_);clear hK K;refine norm_ (a':=?_) ?_ ?_;rotate_left;exact zq525;refine pV 20 27 29 2097151 ?_;refine pV 21 28 29 4194303 ?_;refine pV 22 29 29 8388607 ?_;refine pU 23 30 29 16777215 ?_;refine pU 24 31 29 33554431 ?_;refine pU 25 32 29 67108863 ?_;refine pU 26 33 29 134217727 ?_;refine pU 27 34 29 268435455 ?_;refine pV 28 35 29 536870911 ?_;refine dE ?_
   try go_wp2
   go_meet
   case rel=>exact ⟨_,(true),zq19,H',⟨zq20⟩,⟨zq117⟩,⟨zq118⟩⟩
  replace c5:=Bool.eq_false_iff.mpr c5;subst c5;rw [if_neg (show ¬ (false=true) by decide)] at H;have H':=aM H;clear H
  try go_wp2
  replace BK542:=bD BK542;replace HB:=aM (below_drew1 HB.out);refine start_ (n:=29) (S:=fun w'=>w'.cell? ⟨gb542,0,none⟩=some (.int .i64 a0_0)∧w'.cell? ⟨gb542,1,none⟩=some (.slice A0_1 l0_1.length c0_1)∧w'.cell? ⟨gb542,2,none⟩=some (.slice A0_2 l0_2.length c0_2)∧w'.cell? ⟨gb542,3,none⟩=some (.int .i64 a0_3)) (ds:=[]) (bA 29 0) (by kernel_rfl) rfl rfl ⟨(blk_cell BK542.out 0).trans rfl,(blk_cell BK542.out 1).trans rfl,(blk_cell BK542.out 2).trans rfl,(blk_cell BK542.out 3).trans rfl⟩ (fun hHeld=>?_);refine with_tabW impl_isStore.tab1 impl_isStore.bits1 (fun HT_ HW_=>?_)
  generalize w3.drew=w16 at BK542 HB hHeld ⊢;refine pV 0 7 29 1 ?_;refine tV 1 8 29 3 rfl zq508 ?_;refine oE 2 9 29 7 rfl (fun K hK=>?_);refine goes_ Try.func55 (by kernel_rfl) rfl #[.int .i64 a0_0,.int .i64 0,.int .i64 200000] (by rfl) rfl rfl zq6 ?_
  with_reducible refine (impl_in.calls a0_0 0 200000 false _ A4.out).mono ?_
  rintro e w' ⟨rfl,⟨nd,rfl⟩⟩;refine ⟨_,rfl,?_⟩;refine hK.out _ _ ⟨(blk_cell BK542.out 0).trans rfl,(blk_cell BK542.out 1).trans rfl,(blk_cell BK542.out 2).trans rfl,(blk_cell BK542.out 3).trans rfl⟩ (fun hHeld=>?_);clear hK K;refine norm_ (a':=?_) ?_ ?_;rotate_left;exact zq524;refine pV 3 10 29 15 ?_;refine pV 4 11 29 31 ?_;refine pU 5 12 29 63 ?_;refine pU 6 13 29 127 ?_;refine pU 7 14 29 255 ?_;refine pU 8 15 29 511 ?_;refine pV 9 16 29 1023 ?_;refine pV 10 17 29 2047 ?_;refine pU 11 18 29 4095 ?_;refine pU 12 19 29 8191 ?_;refine pU 13 20 29 16383 ?_;refine pU 14 21 29 32767 ?_;refine pV 15 22 29 65535 ?_;refine pV 16 23 29 131071 ?_;refine pU 17 24 29 262143 ?_;refine pU 18 25 29 524287 ?_;refine pU 19 26 29 1048575 ?_;refine pU 20 27 29 2097151 ?_;refine pV 21 28 29 4194303 ?_;refine pV 22 29 29 8388607 ?_;refine pU 23 30 29 16777215 ?_;refine pU 24 31 29 33554431 ?_;refine pU 25 32 29 67108863 ?_;refine pU 26 33 29 134217727 ?_;refine pU 27 34 29 268435455 ?_;refine pV 28 35 29 536870911 ?_;refine dE ?_
  try go_wp2
  go_meet
  case rel=>exact ⟨_,(true),zq19,H',⟨zq20⟩,⟨zq117⟩,⟨zq118⟩⟩
 case rest =>
  clear HC2;obtain ⟨kq,x35_1,rfl,HA,HJ1,BK542,HB⟩:=hcut
  cases kq with
  | zero=>exact absurd HA.out (by simp [impl_isStore.j0])
  | succ kj1 =>
   have H:=HA.out;clear HA;simp only [impl_isStore.j0] at H;by_cases c17:x35_1=true
   ·
    subst c17;rw [if_pos rfl] at H;obtain rfl:=Option.some.inj H;go_wp2;go_ret;exact ⟨zq24,zq118⟩
   replace c17:=Bool.eq_false_iff.mpr c17;subst c17;rw [if_neg (show ¬ (false=true) by decide)] at H;have H':=aM H;clear H;have hcz18:=cells4_ (w:=wc) BK542;go_wp2
   go_loopg [39] kj1 (fun kq v39 w'=>∃ (x39_2:Int),v39 = .int .i64 x39_2∧Aside0 (impl_isStore.l0 kq l0_2 (l0_2.length:Int) x39_2 a0_0 l0_1 l0_2 a0_3=some r)∧Aside0 (kq≤kj1)∧Aside0 (w'.heap[gb542]?=some (.cells #[.int .i64 a0_0,(.slice A0_1 l0_1.length c0_1),(.slice A0_2 l0_2.length c0_2),.int .i64 a0_3] 27 (0,0)))∧Aside0 (Below w.heap.size w w'))
   case atStart=>exact ⟨(0),zq19,H',⟨Nat.le_refl _⟩,⟨zq117⟩,⟨zq118⟩⟩
   case round =>
    clear H';(try clear c17);(try clear hcz18);obtain ⟨x39_2,rfl,HA,HK2,BK542,HB⟩:=hrel
    cases gk with
    | zero=>exact absurd HA.out (by simp [impl_isStore.l0])
    | succ k2 =>
     have H:=HA.out;clear HA;simp only [impl_isStore.l0] at H;by_cases c19:x39_2 < (l0_2.length:Int)
     ·
      rw [if_pos c19] at H;have c19b0:=decide_eq_true c19;clear c19;by_cases c20:0≤x39_2
      ·
       rw [if_pos c20] at H;have c20b0:=decide_eq_true c20;clear c20;by_cases c21:x39_2 < (l0_2.length:Int)
       ·
        rw [if_pos c21] at H;have c21b0:=decide_eq_true c21;clear c21;have HC22:=aM H;clear H;have p546:0≤(x39_2:Int):=of_decide_eq_true zq34;have q546:x39_2 < (l0_2.length:Int):=of_decide_eq_true zq34;obtain ⟨ad546,e546,hx546_0,hx546_1⟩:=at_T58 HR0_2.out x39_2 p546 q546;cases e546;replace hx546_0:=hxB HB hx546_0;replace hx546_1:=hxB HB hx546_1;replace p546:=eq_true p546;replace q546:=eq_true q546
        go_upto_region 6 with (first|((with_reducible refine gD 4 rfl ?_);(try (refine gate_guard (by rfl) ?_;dsimp only));refine box_event ?hg (N:=4) ?hd (cs:=#[.int .i64 0,.string (⟨#[]⟩:ByteArray)]) (t:=58) ?hr ?_;(case hd=>rfl);(case hg=>rfl);(case hr=>exact zq2);intro gb547 hg w23 hbox hb;have BK547:=aM hbox;have GW547:=aM (zq430:w.heap.size≤gb547);have GE547:=GW547;replace HB:=sB zq118 hb;have NB542_547:=aM (by rw [hg];exact Nat.ne_of_lt (blk_lt (g:=gb542) (o:=.cells #[.int .i64 a0_0,.slice A0_1 l0_1.length c0_1,.slice (some ad546) l0_2.length c0_2,.int .i64 a0_3] 27 (0,0)) zq117):gb542≠gb547);have NB547_542:=aM (by rw [hg];exact Nat.ne_of_gt (blk_lt (g:=gb542) (o:=.cells #[.int .i64 a0_0,.slice A0_1 l0_1.length c0_1,.slice (some ad546) l0_2.length c0_2,.int .i64 a0_3] 27 (0,0)) zq117):gb547≠gb542);replace BK542:=bG BK542 hb;clear hb hbox hg;have hnb24:=NB547_542.out;have hnc24:=NB542_547.out;have hcz25:=cells2_ (w:=w23) BK547))
        (try simp only [Act.put,List.setIfInBounds_toArray,List.set_cons_zero,List.set_cons_succ])
        go_cut [66] (fun v66 wc=>∃ (kq:Nat) (x66_21:Bool),v66 = .bool x66_21∧Aside0 (impl_isStore.j2 kq l0_2 (l0_2.length:Int) x39_2 x66_21 a0_0 l0_1 l0_2 a0_3=some r)∧Aside0 (kq≤k2)∧Aside0 (wc.heap[gb542]?=some (.cells #[.int .i64 a0_0,(.slice A0_1 l0_1.length c0_1),(.slice (some ad546) l0_2.length c0_2),.int .i64 a0_3] 27 (0,0)))∧Aside0 (wc.heap[gb547]?=some (.cells #[.int .i64 ((rd_T58 l0_2 x39_2).f0),.string ((rd_T58 l0_2 x39_2).f1)] 58 (0,0)))∧Aside0 (Below w.heap.size w wc))
        case first =>
         have H:=HC22.out;clear HC22;replace H:=Option.bind_eq_some_iff.mp H;obtain ⟨t548,A260,H⟩:=H;(try dsimp only at H);have A26:=aM A260;clear A260;by_cases c27:t548=true
         ·
          subst c27;rw [if_pos rfl] at H;by_cases c28:x39_2 > 0
          ·
           rw [if_pos c28] at H;have c28b0:decide (0 < x39_2)=true:=decide_eq_true c28;clear c28
           (first | rw [c28b0]|(simp only [i64_w,i32_w];rw [c28b0])|skip)
           obtain ⟨ji29,hji29⟩:∃ j_:Int,(wrap64 (x39_2 - 1))=j_:=⟨_,rfl⟩;replace H:(if 0≤(ji29) then (if (ji29) < (l0_2.length:Int) then (impl_isStore.j2 k2 l0_2 (l0_2.length:Int) x39_2 (decide (((rd_T58 l0_2 (ji29)).f0)≥((rd_T58 l0_2 x39_2).f0))) a0_0 l0_1 l0_2 a0_3) else (none)) else (none))=some r:=by first|(rw [hji29] at H;exact H)|(simp only [hji29] at H ⊢;exact H)
           (try rw [hji29] at A26);have hji29w:(IntKind.i64.wrap (x39_2 - 1))=ji29:=(i64_w _).trans hji29;by_cases c30:0≤(ji29)
           ·
            rw [if_pos c30] at H;have c30b0:=decide_eq_true c30;clear c30;by_cases c31:(ji29) < (l0_2.length:Int)
            ·
             rw [if_pos c31] at H;have c31b0:=decide_eq_true c31;clear c31;have H':=aM H;clear H
             try go_wp2
             generalize hz_:((w23.setCell ⟨gb547,0,none⟩ (.int .i64 ((rd_T58 l0_2 x39_2).f0))).setCell ⟨gb547,1,none⟩ (.string ((rd_T58 l0_2 x39_2).f1)))=w32;have n0_:Aside0 (w32.heap[gb542]?=some (.cells #[.int .i64 a0_0,.slice A0_1 l0_1.length c0_1,.slice (some ad546) l0_2.length c0_2,.int .i64 a0_3] 27 (0,0))):=⟨zq119⟩;have n1_:Aside0 (w32.heap[gb547]?=some (.cells #[.int .i64 ((rd_T58 l0_2 x39_2).f0),.string ((rd_T58 l0_2 x39_2).f1)] 58 (0,0))):=⟨zq120⟩;have n2_:Aside0 (Below w.heap.size w w32):=⟨zq121⟩;clear hz_;(try clear BK542);(try clear BK547);(try clear HB);have BK542:=n0_;have BK547:=n1_;have HB:=n2_;clear n0_ n1_ n2_;replace BK542:=bD BK542;replace BK547:=bD BK547;replace HB:=aM (below_drew1 HB.out);have p549:0≤((ji29):Int):=of_decide_eq_true zq34;have q549:(ji29) < (l0_2.length:Int):=of_decide_eq_true zq34;obtain ⟨ad549,e549,hx549_0,hx549_1⟩:=at_T58 HR0_2.out (ji29) p549 q549;have hw549_1:=hx549_1;have hw549_0:=hx549_0;obtain rfl:ad546=ad549:=(by injection e549);replace hx549_0:=hxB HB hx549_0;replace hx549_1:=hxB HB hx549_1;replace p549:=eq_true p549;replace q549:=eq_true q549
             refine start_ (n:=23) (S:=fun w'=>w'.cell? ⟨gb547,0,none⟩=some (.int .i64 ((rd_T58 l0_2 x39_2).f0))∧w'.cell? ⟨gb547,1,none⟩=some (.string ((rd_T58 l0_2 x39_2).f1))∧w'.cell? ⟨gb542,0,none⟩=some (.int .i64 a0_0)∧w'.cell? ⟨gb542,1,none⟩=some (.slice A0_1 l0_1.length c0_1)∧w'.cell? ⟨gb542,2,none⟩=some (.slice (some ad546) l0_2.length c0_2)∧w'.cell? ⟨gb542,3,none⟩=some (.int .i64 a0_3)∧w'.cell? (ad546.add (((ji29)).toNat * 2))=some (.int .i64 ((rd_T58 l0_2 (ji29)).f0))∧w'.cell? ⟨(ad546.add (((ji29)).toNat * 2)).block,(ad546.add (((ji29)).toNat * 2)).off + 1,none⟩=some (.string ((rd_T58 l0_2 (ji29)).f1))) (ds:=[]) (bA 23 0) (by kernel_rfl) rfl rfl ⟨(blk_cell BK547.out 0).trans rfl,(blk_cell BK547.out 1).trans rfl,k4_ BK542 ⟨(hxB HB hw549_0:_),(hxB HB hw549_1:_)⟩⟩ (fun hHeld=>?_);refine with_tabW impl_isStore.tab6 impl_isStore.bits6 (fun HT_ HW_=>?_)
             generalize w32.drew=w33 at BK542 BK547 HB hx549_0 hx549_1 hHeld ⊢;refine pV 0 44 23 1 ?_;refine pV 2 46 23 5 ?_;refine tV 1 45 23 7 rfl zq526 ?_;refine tV 3 47 23 15 rfl zq526 ?_;refine pV 4 48 23 31 ?_;refine oE 5 49 23 63 rfl (fun K hK=>?_);refine goes_ Try.func55 (by kernel_rfl) rfl #[.int .i64 ((rd_T58 l0_2 x39_2).f0),.int .i64 1,.int .i64 (wrap64 (a0_3 - 1))] (by rfl) rfl rfl zq6 ?_
             with_reducible refine (impl_in.calls ((rd_T58 l0_2 x39_2).f0) 1 (wrap64 (a0_3 - 1)) true _ A26.out).mono ?_
             rintro e w' ⟨rfl,⟨nd,rfl⟩⟩;refine ⟨_,rfl,?_⟩;refine hK.out _ _ ⟨(blk_cell BK547.out 0).trans rfl,(blk_cell BK547.out 1).trans rfl,k4_ BK542 ⟨(hxB HB hw549_0:_),(hxB HB hw549_1:_)⟩⟩ (fun hHeld=>?_);clear hK K;refine norm_ (a':=?_) ?_ ?_;rotate_left;exact zq527;refine pV 6 50 23 127 ?_;refine pV 7 51 23 255 ?_;refine pV 8 52 23 511 ?_;refine pV 9 53 23 1023 ?_;refine pV 10 54 23 2047 ?_;refine pV 11 55 23 4095 ?_;refine pV 13 57 23 12287 ?_;refine pV 14 58 23 28671 ?_;refine pV 18 62 23 290815 ?_;refine tV 12 56 23 294911 rfl zq526 ?_;refine pV 15 59 23 327679 ?_;refine pV 16 60 23 393215 ?_;refine tV 17 61 23 524287 rfl zq526 ?_;refine tV 19 63 23 1048575 rfl zq526 ?_;refine pV 20 64 23 2097151 ?_;refine pV 21 65 23 4194303 ?_;refine pV 22 66 23 8388607 ?_;refine dE ?_
             try go_wp2
             go_meet
             case rel=>exact ⟨_,(decide (((rd_T58 l0_2 (ji29)).f0)≥((rd_T58 l0_2 x39_2).f0))),(by first | rfl|(simp;done)|(simp only [← hji29] <;> (first | rfl | simp))|(simp [*];done)),H',⟨zq122⟩,⟨zq117⟩,⟨zq123⟩,⟨zq124⟩⟩
            rw [if_neg c31] at H;exact absurd H (by simp)
           exact zq528
          rw [if_neg c28] at H;have c28b0:decide (0 < x39_2)=false:=decide_eq_false c28;clear c28
          (first | rw [c28b0]|(simp only [i64_w,i32_w];rw [c28b0])|skip)
          have H':=aM H;clear H
          try go_wp2
          generalize hz_:((w23.setCell ⟨gb547,0,none⟩ (.int .i64 ((rd_T58 l0_2 x39_2).f0))).setCell ⟨gb547,1,none⟩ (.string ((rd_T58 l0_2 x39_2).f1)))=w34;have n0_:Aside0 (w34.heap[gb542]?=some (.cells #[.int .i64 a0_0,.slice A0_1 l0_1.length c0_1,.slice (some ad546) l0_2.length c0_2,.int .i64 a0_3] 27 (0,0))):=⟨zq119⟩;have n1_:Aside0 (w34.heap[gb547]?=some (.cells #[.int .i64 ((rd_T58 l0_2 x39_2).f0),.string ((rd_T58 l0_2 x39_2).f1)] 58 (0,0))):=⟨zq120⟩;have n2_:Aside0 (Below w.heap.size w w34):=⟨zq121⟩;clear hz_;(try clear BK542);(try clear BK547);(try clear HB);have BK542:=n0_;have BK547:=n1_;have HB:=n2_;clear n0_ n1_ n2_;replace BK542:=bD BK542;replace BK547:=bD BK547;replace HB:=aM (below_drew1 HB.out)
          refine start_ (n:=23) (S:=fun w'=>w'.cell? ⟨gb547,0,none⟩=some (.int .i64 ((rd_T58 l0_2 x39_2).f0))∧w'.cell? ⟨gb547,1,none⟩=some (.string ((rd_T58 l0_2 x39_2).f1))∧w'.cell? ⟨gb542,0,none⟩=some (.int .i64 a0_0)∧w'.cell? ⟨gb542,1,none⟩=some (.slice A0_1 l0_1.length c0_1)∧w'.cell? ⟨gb542,2,none⟩=some (.slice (some ad546) l0_2.length c0_2)∧w'.cell? ⟨gb542,3,none⟩=some (.int .i64 a0_3)) (ds:=[]) (bA 23 0) (by kernel_rfl) rfl rfl ⟨(blk_cell BK547.out 0).trans rfl,(blk_cell BK547.out 1).trans rfl,(blk_cell BK542.out 0).trans rfl,(blk_cell BK542.out 1).trans rfl,(blk_cell BK542.out 2).trans rfl,(blk_cell BK542.out 3).trans rfl⟩ (fun hHeld=>?_);refine with_tabW impl_isStore.tab6 impl_isStore.bits6 (fun HT_ HW_=>?_)
          generalize w34.drew=w35 at BK542 BK547 HB hHeld ⊢;refine pV 0 44 23 1 ?_;refine pV 2 46 23 5 ?_;refine tV 1 45 23 7 rfl zq516 ?_;refine tV 3 47 23 15 rfl zq516 ?_;refine pV 4 48 23 31 ?_;refine oE 5 49 23 63 rfl (fun K hK=>?_);refine goes_ Try.func55 (by kernel_rfl) rfl #[.int .i64 ((rd_T58 l0_2 x39_2).f0),.int .i64 1,.int .i64 (wrap64 (a0_3 - 1))] (by rfl) rfl rfl zq6 ?_
          with_reducible refine (impl_in.calls ((rd_T58 l0_2 x39_2).f0) 1 (wrap64 (a0_3 - 1)) true _ A26.out).mono ?_
          rintro e w' ⟨rfl,⟨nd,rfl⟩⟩;refine ⟨_,rfl,?_⟩;refine hK.out _ _ ⟨(blk_cell BK547.out 0).trans rfl,(blk_cell BK547.out 1).trans rfl,(blk_cell BK542.out 0).trans rfl,(blk_cell BK542.out 1).trans rfl,(blk_cell BK542.out 2).trans rfl,(blk_cell BK542.out 3).trans rfl⟩ (fun hHeld=>?_);clear hK K;refine norm_ (a':=?_) ?_ ?_;rotate_left;exact zq527;refine pV 6 50 23 127 ?_;refine pV 7 51 23 255 ?_;refine pV 8 52 23 511 ?_;refine pV 9 53 23 1023 ?_;refine pV 10 54 23 2047 ?_;refine pU 11 55 23 4095 ?_;refine pU 12 56 23 8191 ?_;refine pU 13 57 23 16383 ?_;refine pU 14 58 23 32767 ?_;refine pU 15 59 23 65535 ?_;refine pU 16 60 23 131071 ?_;refine pU 17 61 23 262143 ?_;refine pU 18 62 23 524287 ?_;refine pU 19 63 23 1048575 ?_;refine pU 20 64 23 2097151 ?_;refine pV 21 65 23 4194303 ?_;refine pV 22 66 23 8388607 ?_;refine dE ?_
          try go_wp2
          go_meet
          case rel=>exact ⟨_,(false),zq19,H',⟨zq122⟩,⟨zq117⟩,⟨zq123⟩,⟨zq124⟩⟩
         replace c27:=Bool.eq_false_iff.mpr c27;subst c27;rw [if_neg (show ¬ (false=true) by decide)] at H;have H':=aM H;clear H
         try go_wp2
         generalize hz_:((w23.setCell ⟨gb547,0,none⟩ (.int .i64 ((rd_T58 l0_2 x39_2).f0))).setCell ⟨gb547,1,none⟩ (.string ((rd_T58 l0_2 x39_2).f1)))=w36;have n0_:Aside0 (w36.heap[gb542]?=some (.cells #[.int .i64 a0_0,.slice A0_1 l0_1.length c0_1,.slice (some ad546) l0_2.length c0_2,.int .i64 a0_3] 27 (0,0))):=⟨zq119⟩;have n1_:Aside0 (w36.heap[gb547]?=some (.cells #[.int .i64 ((rd_T58 l0_2 x39_2).f0),.string ((rd_T58 l0_2 x39_2).f1)] 58 (0,0))):=⟨zq120⟩;have n2_:Aside0 (Below w.heap.size w w36):=⟨zq121⟩;clear hz_;(try clear BK542);(try clear BK547);(try clear HB);have BK542:=n0_;have BK547:=n1_;have HB:=n2_;clear n0_ n1_ n2_;replace BK542:=bD BK542;replace BK547:=bD BK547;replace HB:=aM (below_drew1 HB.out)
         refine start_ (n:=23) (S:=fun w'=>w'.cell? ⟨gb547,0,none⟩=some (.int .i64 ((rd_T58 l0_2 x39_2).f0))∧w'.cell? ⟨gb547,1,none⟩=some (.string ((rd_T58 l0_2 x39_2).f1))∧w'.cell? ⟨gb542,0,none⟩=some (.int .i64 a0_0)∧w'.cell? ⟨gb542,1,none⟩=some (.slice A0_1 l0_1.length c0_1)∧w'.cell? ⟨gb542,2,none⟩=some (.slice (some ad546) l0_2.length c0_2)∧w'.cell? ⟨gb542,3,none⟩=some (.int .i64 a0_3)) (ds:=[]) (bA 23 0) (by kernel_rfl) rfl rfl ⟨(blk_cell BK547.out 0).trans rfl,(blk_cell BK547.out 1).trans rfl,(blk_cell BK542.out 0).trans rfl,(blk_cell BK542.out 1).trans rfl,(blk_cell BK542.out 2).trans rfl,(blk_cell BK542.out 3).trans rfl⟩ (fun hHeld=>?_);refine with_tabW impl_isStore.tab6 impl_isStore.bits6 (fun HT_ HW_=>?_)
         generalize w36.drew=w37 at BK542 BK547 HB hHeld ⊢;refine pV 0 44 23 1 ?_;refine pV 2 46 23 5 ?_;refine tV 1 45 23 7 rfl zq516 ?_;refine tV 3 47 23 15 rfl zq516 ?_;refine pV 4 48 23 31 ?_;refine oE 5 49 23 63 rfl (fun K hK=>?_);refine goes_ Try.func55 (by kernel_rfl) rfl #[.int .i64 ((rd_T58 l0_2 x39_2).f0),.int .i64 1,.int .i64 (wrap64 (a0_3 - 1))] (by rfl) rfl rfl zq6 ?_
         with_reducible refine (impl_in.calls ((rd_T58 l0_2 x39_2).f0) 1 (wrap64 (a0_3 - 1)) false _ A26.out).mono ?_
         rintro e w' ⟨rfl,⟨nd,rfl⟩⟩;refine ⟨_,rfl,?_⟩;refine hK.out _ _ ⟨(blk_cell BK547.out 0).trans rfl,(blk_cell BK547.out 1).trans rfl,(blk_cell BK542.out 0).trans rfl,(blk_cell BK542.out 1).trans rfl,(blk_cell BK542.out 2).trans rfl,(blk_cell BK542.out 3).trans rfl⟩ (fun hHeld=>?_);clear hK K;refine norm_ (a':=?_) ?_ ?_;rotate_left;exact zq527;refine pV 6 50 23 127 ?_;refine pV 7 51 23 255 ?_;refine pU 8 52 23 511 ?_;refine pU 9 53 23 1023 ?_;refine pU 10 54 23 2047 ?_;refine pU 11 55 23 4095 ?_;refine pU 12 56 23 8191 ?_;refine pU 13 57 23 16383 ?_;refine pU 14 58 23 32767 ?_;refine pU 15 59 23 65535 ?_;refine pU 16 60 23 131071 ?_;refine pU 17 61 23 262143 ?_;refine pU 18 62 23 524287 ?_;refine pU 19 63 23 1048575 ?_;refine pU 20 64 23 2097151 ?_;refine pU 21 65 23 4194303 ?_;refine pV 22 66 23 8388607 ?_;refine dE ?_
         try go_wp2
         go_meet
         case rel=>exact ⟨_,(true),zq19,H',⟨zq122⟩,⟨zq117⟩,⟨zq123⟩,⟨zq124⟩⟩
        case rest =>
         clear HC22;obtain ⟨kq,x66_21,rfl,HA,HJ21,BK542,BK547,HB⟩:=hcut
         cases kq with
         | zero=>exact absurd HA.out (by simp [impl_isStore.j2])
         | succ kj21 =>
          have H:=HA.out;clear HA;simp only [impl_isStore.j2] at H;by_cases c38:x66_21=true
          ·
           subst c38;rw [if_pos rfl] at H;obtain rfl:=Option.some.inj H;go_wp2;go_ret;exact ⟨zq24,zq124⟩
          replace c38:=Bool.eq_false_iff.mpr c38;subst c38;rw [if_neg (show ¬ (false=true) by decide)] at H;have H':=aM H;clear H;go_wp2
          go_roundg kj21
          case measure=>have:=HJ1.out;have:=HK2.out;have:=HJ21.out;omega
          case rel=>exact ⟨(wrap64 (x39_2 + 1)),zq19,H',⟨by have:=HJ1.out;have:=HK2.out;have:=HJ21.out;omega⟩,⟨zq117⟩,⟨zq124⟩⟩
       rw [if_neg c21] at H;exact absurd H (by simp)
      rw [if_neg c20] at H;exact absurd H (by simp)
     rw [if_neg c19] at H;have c19b0:=decide_eq_false c19;clear c19;have H':=aM H;clear H;have hcz39:=cells4_ (w:=wr) BK542;go_wp2
     go_loopg [71] k2 (fun kq v71 w'=>∃ (x71_3:Int),v71 = .int .i64 x71_3∧Aside0 (impl_isStore.l1 kq l0_1 (l0_1.length:Int) x71_3 a0_0 l0_1 l0_2 a0_3=some r)∧Aside0 (kq≤k2)∧Aside0 (w'.heap[gb542]?=some (.cells #[.int .i64 a0_0,(.slice A0_1 l0_1.length c0_1),(.slice A0_2 l0_2.length c0_2),.int .i64 a0_3] 27 (0,0)))∧Aside0 (Below w.heap.size w w'))
     case atStart=>exact ⟨(0),zq19,H',⟨Nat.le_refl _⟩,⟨zq117⟩,⟨zq118⟩⟩
     case round =>
      clear H';(try clear c19b0);(try clear hcz39);obtain ⟨x71_3,rfl,HA,HK3,BK542,HB⟩:=hrel
      cases gk with
      | zero=>exact absurd HA.out (by simp [impl_isStore.l1])
      | succ k3 =>
       have H:=HA.out;clear HA;simp only [impl_isStore.l1] at H;by_cases c40:x71_3 < (l0_1.length:Int)
       ·
        rw [if_pos c40] at H;have c40b0:=decide_eq_true c40;clear c40;by_cases c41:0≤x71_3
        ·
         rw [if_pos c41] at H;have c41b0:=decide_eq_true c41;clear c41;by_cases c42:x71_3 < (l0_1.length:Int)
         ·
          rw [if_pos c42] at H;have c42b0:=decide_eq_true c42;clear c42;have HC43:=aM H;clear H;have p550:0≤(x71_3:Int):=of_decide_eq_true zq34;have q550:x71_3 < (l0_1.length:Int):=of_decide_eq_true zq34;obtain ⟨ad550,e550,hx550_0,hx550_1⟩:=at_T56 HR0_1.out x71_3 p550 q550;cases e550;replace hx550_0:=hxB HB hx550_0;replace hx550_1:=hxB HB hx550_1;replace p550:=eq_true p550;replace q550:=eq_true q550
          go_upto_region 12 with (first|((with_reducible refine gD 6 rfl ?_);(try (refine gate_guard (by rfl) ?_;dsimp only));refine box_event ?hg (N:=6) ?hd (cs:=#[.string (⟨#[]⟩:ByteArray),.string (⟨#[]⟩:ByteArray)]) (t:=56) ?hr ?_;(case hd=>rfl);(case hg=>rfl);(case hr=>exact zq2);intro gb551 hg w44 hbox hb;have BK551:=aM hbox;have GW551:=aM (zq430:w.heap.size≤gb551);have GE551:=GW551;replace HB:=sB zq118 hb;have NB542_551:=aM (by rw [hg];exact Nat.ne_of_lt (blk_lt (g:=gb542) (o:=.cells #[.int .i64 a0_0,.slice (some ad550) l0_1.length c0_1,.slice A0_2 l0_2.length c0_2,.int .i64 a0_3] 27 (0,0)) zq117):gb542≠gb551);have NB551_542:=aM (by rw [hg];exact Nat.ne_of_gt (blk_lt (g:=gb542) (o:=.cells #[.int .i64 a0_0,.slice (some ad550) l0_1.length c0_1,.slice A0_2 l0_2.length c0_2,.int .i64 a0_3] 27 (0,0)) zq117):gb551≠gb542);replace BK542:=bG BK542 hb;clear hb hbox hg;have hnb45:=NB551_542.out;have hnc45:=NB542_551.out;have hcz46:=cells2_ (w:=w44) BK551))
          (try simp only [Act.put,List.setIfInBounds_toArray,List.set_cons_zero,List.set_cons_succ])
          go_cut [97] (fun v97 wc=>∃ (kq:Nat) (x97_42:Bool),v97 = .bool x97_42∧Aside0 (impl_isStore.j4 kq l0_1 (l0_1.length:Int) x71_3 x97_42 a0_0 l0_1 l0_2 a0_3=some r)∧Aside0 (kq≤k3)∧Aside0 (wc.heap[gb542]?=some (.cells #[.int .i64 a0_0,(.slice (some ad550) l0_1.length c0_1),(.slice A0_2 l0_2.length c0_2),.int .i64 a0_3] 27 (0,0)))∧Aside0 (wc.heap[gb551]?=some (.cells #[.string ((rd_T56 l0_1 x71_3).f0),.string ((rd_T56 l0_1 x71_3).f1)] 56 (0,0)))∧Aside0 (Below w.heap.size w wc))
          case first =>
           have H:=HC43.out;clear HC43;by_cases c47:x71_3 > 0
           ·
            rw [if_pos c47] at H;have c47b0:decide (0 < x71_3)=true:=decide_eq_true c47;clear c47
            (first | rw [c47b0]|(simp only [i64_w,i32_w];rw [c47b0])|skip)
            obtain ⟨ji48,hji48⟩:∃ j_:Int,(wrap64 (x71_3 - 1))=j_:=⟨_,rfl⟩;replace H:(if 0≤(ji48) then (if (ji48) < (l0_1.length:Int) then (if ((Op.bytesLess (((rd_T56 l0_1 (ji48)).f0).toList) (((rd_T56 l0_1 x71_3).f0).toList))=true) then ((impl_digestOf.f k3 ((rd_T56 l0_1 x71_3).f1)).bind fun t553=>(impl_isStore.j4 k3 l0_1 (l0_1.length:Int) x71_3 (((rd_T56 l0_1 x71_3).f0).toList != t553.toList) a0_0 l0_1 l0_2 a0_3)) else (impl_isStore.j4 k3 l0_1 (l0_1.length:Int) x71_3 true a0_0 l0_1 l0_2 a0_3)) else (none)) else (none))=some r:=by first|(rw [hji48] at H;exact H)|(simp only [hji48] at H ⊢;exact H)
            have hji48w:(IntKind.i64.wrap (x71_3 - 1))=ji48:=(i64_w _).trans hji48;by_cases c49:0≤(ji48)
            ·
             rw [if_pos c49] at H;have c49b0:=decide_eq_true c49;clear c49;by_cases c50:(ji48) < (l0_1.length:Int)
             ·
              rw [if_pos c50] at H;have c50b0:=decide_eq_true c50;clear c50;by_cases c51:((Op.bytesLess (((rd_T56 l0_1 (ji48)).f0).toList) (((rd_T56 l0_1 x71_3).f0).toList))=true)
              ·
               rw [if_pos c51] at H;have c51b0:(Op.bytesLess (((rd_T56 l0_1 (ji48)).f0).toList) (((rd_T56 l0_1 x71_3).f0).toList))=true:=c51;clear c51;replace H:=Option.bind_eq_some_iff.mp H;obtain ⟨t553,A520,H⟩:=H;(try dsimp only at H);have A52:=aM A520;clear A520;have H':=aM H;clear H
               try go_wp2
               generalize hz_:((w44.setCell ⟨gb551,0,none⟩ (.string ((rd_T56 l0_1 x71_3).f0))).setCell ⟨gb551,1,none⟩ (.string ((rd_T56 l0_1 x71_3).f1)))=w53;have n0_:Aside0 (w53.heap[gb542]?=some (.cells #[.int .i64 a0_0,.slice (some ad550) l0_1.length c0_1,.slice A0_2 l0_2.length c0_2,.int .i64 a0_3] 27 (0,0))):=⟨zq125⟩;have n1_:Aside0 (w53.heap[gb551]?=some (.cells #[.string ((rd_T56 l0_1 x71_3).f0),.string ((rd_T56 l0_1 x71_3).f1)] 56 (0,0))):=⟨zq126⟩;have n2_:Aside0 (Below w.heap.size w w53):=⟨zq127⟩;clear hz_;(try clear BK542);(try clear BK551);(try clear HB);have BK542:=n0_;have BK551:=n1_;have HB:=n2_;clear n0_ n1_ n2_;replace BK542:=bD BK542;replace BK551:=bD BK551;replace HB:=aM (below_drew1 HB.out);have p552:0≤((ji48):Int):=of_decide_eq_true zq34;have q552:(ji48) < (l0_1.length:Int):=of_decide_eq_true zq34;obtain ⟨ad552,e552,hx552_0,hx552_1⟩:=at_T56 HR0_1.out (ji48) p552 q552;have hw552_1:=hx552_1;have hw552_0:=hx552_0;obtain rfl:ad550=ad552:=(by injection e552);replace hx552_0:=hxB HB hx552_0;replace hx552_1:=hxB HB hx552_1;replace p552:=eq_true p552;replace q552:=eq_true q552
               refine start_ (n:=22) (S:=fun w'=>w'.cell? ⟨gb542,0,none⟩=some (.int .i64 a0_0)∧w'.cell? ⟨gb542,1,none⟩=some (.slice (some ad550) l0_1.length c0_1)∧w'.cell? ⟨gb542,2,none⟩=some (.slice A0_2 l0_2.length c0_2)∧w'.cell? ⟨gb542,3,none⟩=some (.int .i64 a0_3)∧w'.cell? ⟨gb551,0,none⟩=some (.string ((rd_T56 l0_1 x71_3).f0))∧w'.cell? ⟨gb551,1,none⟩=some (.string ((rd_T56 l0_1 x71_3).f1))∧w'.cell? (ad550.add (((ji48)).toNat * 2))=some (.string ((rd_T56 l0_1 (ji48)).f0))∧w'.cell? ⟨(ad550.add (((ji48)).toNat * 2)).block,(ad550.add (((ji48)).toNat * 2)).off + 1,none⟩=some (.string ((rd_T56 l0_1 (ji48)).f1))) (ds:=[]) (bA 22 0) (by kernel_rfl) rfl rfl (k4_ BK542 ⟨(blk_cell BK551.out 0).trans rfl,(blk_cell BK551.out 1).trans rfl,(hxB HB hw552_0:_),(hxB HB hw552_1:_)⟩) (fun hHeld=>?_);refine with_tabW impl_isStore.tab12 impl_isStore.bits12 (fun HT_ HW_=>?_)
               generalize w53.drew=w54 at BK542 BK551 HB hx552_0 hx552_1 hHeld ⊢;refine pV 0 76 22 1 ?_;refine pV 1 77 22 3 ?_;refine pV 2 78 22 7 ?_;refine pV 3 79 22 15 ?_;refine pV 5 81 22 47 ?_;refine pV 6 82 22 111 ?_;refine pV 10 86 22 1135 ?_;refine tV 4 80 22 1151 rfl zq526 ?_;refine pV 7 83 22 1279 ?_;refine pV 8 84 22 1535 ?_;refine tV 9 85 22 2047 rfl zq526 ?_;refine tV 11 87 22 4095 rfl zq526 ?_;refine pV 12 88 22 8191 ?_;refine pV 13 89 22 16383 ?_;refine pV 14 90 22 32767 ?_;refine pV 15 91 22 65535 ?_;refine pV 17 93 22 196607 ?_;refine tV 16 92 22 262143 rfl zq526 ?_;refine tV 18 94 22 524287 rfl zq526 ?_;refine oE 19 95 22 1048575 rfl (fun K hK=>?_);refine goes_ Try.func41 (by kernel_rfl) rfl #[.string ((rd_T56 l0_1 x71_3).f1)] (by rfl) rfl rfl zq6 ?_
               with_reducible refine (impl_digestOf.calls k3 ((rd_T56 l0_1 x71_3).f1) t553 _ A52.out).mono ?_
               rintro e w55 ⟨rfl,hb⟩;refine ⟨_,rfl,?_⟩;replace BK542:=bG BK542 hb;replace BK551:=bG BK551 hb;replace HB:=sB zq129 hb;(try clear hb);refine hK.out _ _ (k4_ BK542 ⟨(blk_cell BK551.out 0).trans rfl,(blk_cell BK551.out 1).trans rfl,(hxB HB hw552_0:_),(hxB HB hw552_1:_)⟩) (fun hHeld=>?_);clear hK K;refine norm_ (a':=?_) ?_ ?_;rotate_left;exact zq529;refine pV 20 96 22 2097151 ?_;refine pV 21 97 22 4194303 ?_;refine dE ?_
               try go_wp2
               go_meet
               case rel=>exact ⟨_,((((rd_T56 l0_1 x71_3).f0).toList != t553.toList)),zq19,H',⟨zq130⟩,⟨zq117⟩,⟨zq128⟩,⟨zq129⟩⟩
              rw [if_neg c51] at H;have c51b0:(Op.bytesLess (((rd_T56 l0_1 (ji48)).f0).toList) (((rd_T56 l0_1 x71_3).f0).toList))=false:=by simpa using c51
              clear c51;have H':=aM H;clear H
              try go_wp2
              generalize hz_:((w44.setCell ⟨gb551,0,none⟩ (.string ((rd_T56 l0_1 x71_3).f0))).setCell ⟨gb551,1,none⟩ (.string ((rd_T56 l0_1 x71_3).f1)))=w56;have n0_:Aside0 (w56.heap[gb542]?=some (.cells #[.int .i64 a0_0,.slice (some ad550) l0_1.length c0_1,.slice A0_2 l0_2.length c0_2,.int .i64 a0_3] 27 (0,0))):=⟨zq125⟩;have n1_:Aside0 (w56.heap[gb551]?=some (.cells #[.string ((rd_T56 l0_1 x71_3).f0),.string ((rd_T56 l0_1 x71_3).f1)] 56 (0,0))):=⟨zq126⟩;have n2_:Aside0 (Below w.heap.size w w56):=⟨zq127⟩;clear hz_;(try clear BK542);(try clear BK551);(try clear HB);have BK542:=n0_;have BK551:=n1_;have HB:=n2_;clear n0_ n1_ n2_;replace BK542:=bD BK542;replace BK551:=bD BK551;replace HB:=aM (below_drew1 HB.out);have p552:0≤((ji48):Int):=of_decide_eq_true zq34;have q552:(ji48) < (l0_1.length:Int):=of_decide_eq_true zq34;obtain ⟨ad552,e552,hx552_0,hx552_1⟩:=at_T56 HR0_1.out (ji48) p552 q552;have hw552_1:=hx552_1;have hw552_0:=hx552_0;obtain rfl:ad550=ad552:=(by injection e552);replace hx552_0:=hxB HB hx552_0;replace hx552_1:=hxB HB hx552_1;replace p552:=eq_true p552;replace q552:=eq_true q552
              refine start_ (n:=22) (S:=fun w'=>w'.cell? ⟨gb542,0,none⟩=some (.int .i64 a0_0)∧w'.cell? ⟨gb542,1,none⟩=some (.slice (some ad550) l0_1.length c0_1)∧w'.cell? ⟨gb542,2,none⟩=some (.slice A0_2 l0_2.length c0_2)∧w'.cell? ⟨gb542,3,none⟩=some (.int .i64 a0_3)∧w'.cell? ⟨gb551,0,none⟩=some (.string ((rd_T56 l0_1 x71_3).f0))∧w'.cell? ⟨gb551,1,none⟩=some (.string ((rd_T56 l0_1 x71_3).f1))∧w'.cell? (ad550.add (((ji48)).toNat * 2))=some (.string ((rd_T56 l0_1 (ji48)).f0))∧w'.cell? ⟨(ad550.add (((ji48)).toNat * 2)).block,(ad550.add (((ji48)).toNat * 2)).off + 1,none⟩=some (.string ((rd_T56 l0_1 (ji48)).f1))) (ds:=[]) (bA 22 0) (by kernel_rfl) rfl rfl (k4_ BK542 ⟨(blk_cell BK551.out 0).trans rfl,(blk_cell BK551.out 1).trans rfl,(hxB HB hw552_0:_),(hxB HB hw552_1:_)⟩) (fun hHeld=>?_);refine with_tabW impl_isStore.tab12 impl_isStore.bits12 (fun HT_ HW_=>?_)
              generalize w56.drew=w57 at BK542 BK551 HB hx552_0 hx552_1 hHeld ⊢;refine pV 0 76 22 1 ?_;refine pV 1 77 22 3 ?_;refine pV 2 78 22 7 ?_;refine pV 3 79 22 15 ?_;refine pV 5 81 22 47 ?_;refine pV 6 82 22 111 ?_;refine pV 10 86 22 1135 ?_;refine tV 4 80 22 1151 rfl zq526 ?_;refine pV 7 83 22 1279 ?_;refine pV 8 84 22 1535 ?_;refine tV 9 85 22 2047 rfl zq526 ?_;refine tV 11 87 22 4095 rfl zq526 ?_;refine pV 12 88 22 8191 ?_;refine pV 13 89 22 16383 ?_;refine pV 14 90 22 32767 ?_;refine pU 15 91 22 65535 ?_;refine pU 16 92 22 131071 ?_;refine pU 17 93 22 262143 ?_;refine pU 18 94 22 524287 ?_;refine pU 19 95 22 1048575 ?_;refine pU 20 96 22 2097151 ?_;refine pV 21 97 22 4194303 ?_;refine dE ?_
              try go_wp2
              go_meet
              case rel=>exact ⟨_,(true),zq19,H',⟨zq130⟩,⟨zq117⟩,⟨zq128⟩,⟨zq129⟩⟩
             rw [if_neg c50] at H;exact absurd H (by simp)
            rw [if_neg c49] at H;exact absurd H (by simp)
           rw [if_neg c47] at H;have c47b0:decide (0 < x71_3)=false:=decide_eq_false c47;clear c47
           (first | rw [c47b0]|(simp only [i64_w,i32_w];rw [c47b0])|skip)
           replace H:=Option.bind_eq_some_iff.mp H;obtain ⟨t554,A580,H⟩:=H;(try dsimp only at H);have A58:=aM A580;clear A580;have H':=aM H;clear H
           try go_wp2
           generalize hz_:((w44.setCell ⟨gb551,0,none⟩ (.string ((rd_T56 l0_1 x71_3).f0))).setCell ⟨gb551,1,none⟩ (.string ((rd_T56 l0_1 x71_3).f1)))=w59;have n0_:Aside0 (w59.heap[gb542]?=some (.cells #[.int .i64 a0_0,.slice (some ad550) l0_1.length c0_1,.slice A0_2 l0_2.length c0_2,.int .i64 a0_3] 27 (0,0))):=⟨zq125⟩;have n1_:Aside0 (w59.heap[gb551]?=some (.cells #[.string ((rd_T56 l0_1 x71_3).f0),.string ((rd_T56 l0_1 x71_3).f1)] 56 (0,0))):=⟨zq126⟩;have n2_:Aside0 (Below w.heap.size w w59):=⟨zq127⟩;clear hz_;(try clear BK542);(try clear BK551);(try clear HB);have BK542:=n0_;have BK551:=n1_;have HB:=n2_;clear n0_ n1_ n2_;replace BK542:=bD BK542;replace BK551:=bD BK551;replace HB:=aM (below_drew1 HB.out);refine start_ (n:=22) (S:=fun w'=>w'.cell? ⟨gb551,0,none⟩=some (.string ((rd_T56 l0_1 x71_3).f0))∧w'.cell? ⟨gb551,1,none⟩=some (.string ((rd_T56 l0_1 x71_3).f1))) (ds:=[]) (bA 22 0) (by kernel_rfl) rfl rfl ⟨(blk_cell BK551.out 0).trans rfl,(blk_cell BK551.out 1).trans rfl⟩ (fun hHeld=>?_);refine with_tabW impl_isStore.tab12 impl_isStore.bits12 (fun HT_ HW_=>?_)
           generalize w59.drew=w60 at BK542 BK551 HB hHeld ⊢;refine pV 0 76 22 1 ?_;refine pV 1 77 22 3 ?_;refine pV 2 78 22 7 ?_;refine pU 3 79 22 15 ?_;refine pU 4 80 22 31 ?_;refine pU 5 81 22 63 ?_;refine pU 6 82 22 127 ?_;refine pU 7 83 22 255 ?_;refine pU 8 84 22 511 ?_;refine pU 9 85 22 1023 ?_;refine pU 10 86 22 2047 ?_;refine pU 11 87 22 4095 ?_;refine pU 12 88 22 8191 ?_;refine pV 13 89 22 16383 ?_;refine pV 14 90 22 32767 ?_;refine pV 15 91 22 65535 ?_;refine pV 17 93 22 196607 ?_;refine tV 16 92 22 262143 rfl zq521 ?_;refine tV 18 94 22 524287 rfl zq521 ?_;refine oE 19 95 22 1048575 rfl (fun K hK=>?_);refine goes_ Try.func41 (by kernel_rfl) rfl #[.string ((rd_T56 l0_1 x71_3).f1)] (by rfl) rfl rfl zq6 ?_
           with_reducible refine (impl_digestOf.calls k3 ((rd_T56 l0_1 x71_3).f1) t554 _ A58.out).mono ?_
           rintro e w61 ⟨rfl,hb⟩;refine ⟨_,rfl,?_⟩;replace BK542:=bG BK542 hb;replace BK551:=bG BK551 hb;replace HB:=sB zq129 hb;(try clear hb);refine hK.out _ _ ⟨(blk_cell BK551.out 0).trans rfl,(blk_cell BK551.out 1).trans rfl⟩ (fun hHeld=>?_);clear hK K;refine norm_ (a':=?_) ?_ ?_;rotate_left;exact zq529;refine pV 20 96 22 2097151 ?_;refine pV 21 97 22 4194303 ?_;refine dE ?_
           try go_wp2
           go_meet
           case rel=>exact ⟨_,((((rd_T56 l0_1 x71_3).f0).toList != t554.toList)),zq19,H',⟨zq130⟩,⟨zq117⟩,⟨zq128⟩,⟨zq129⟩⟩
          case rest =>
           clear HC43;obtain ⟨kq,x97_42,rfl,HA,HJ42,BK542,BK551,HB⟩:=hcut
           cases kq with
           | zero=>exact absurd HA.out (by simp [impl_isStore.j4])
           | succ kj42 =>
            have H:=HA.out;clear HA;simp only [impl_isStore.j4] at H;by_cases c62:x97_42=true
            ·
             subst c62;rw [if_pos rfl] at H;obtain rfl:=Option.some.inj H;go_wp2;go_ret;exact ⟨zq24,zq129⟩
            replace c62:=Bool.eq_false_iff.mpr c62;subst c62;rw [if_neg (show ¬ (false=true) by decide)] at H;have H':=aM H;clear H;go_wp2
            go_roundg kj42
            case measure=>have:=HJ1.out;have:=HK2.out;have:=HK3.out;have:=HJ42.out;omega
            case rel=>exact ⟨(wrap64 (x71_3 + 1)),zq19,H',⟨zq131⟩,⟨zq117⟩,⟨zq129⟩⟩
         rw [if_neg c42] at H;exact absurd H (by simp)
        rw [if_neg c41] at H;exact absurd H (by simp)
       rw [if_neg c40] at H;have c40b0:=decide_eq_false c40;clear c40;obtain rfl:=Option.some.inj H;go_wp2;go_ret;exact ⟨zq24,zq118⟩
end Go.Proofs.Ytldpdaifajjaeaa.QFnChunked
