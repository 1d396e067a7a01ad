/- Written by wip/myprint.py of this repo (the kit's print, with additions of this session). -/
import Derived.Test.YtldpdaifajjaeaaQFnChunkedx5
set_option maxRecDepth 100000
namespace Go.Proofs.Ytldpdaifajjaeaa.QFnChunked
open Go.RowKit Go.Proofs.YtldpdaifajjaeaaW.PrintWords Go.Proofs.YtldpdaifajjaeaaW.PrintLast Go.Proofs.YtldpdaifajjaeaaW.PrintMore
attribute [local go_sem] max2_int min2_int max_two min_two max_three min_three max_four min_four
set_option linter.unusedVariables false
set_option linter.unusedSimpArgs false
attribute [local go_sem high] binOp_leqS binOp_gtrS
mutual
def spec_StoreOk.j0:Nat→Bool→Int→List (S56)→List (S58)→Int→Option (Bool)
 | 0,_,_,_,_,_=>none
 | k + 1,x34,x200000,x200001,x200002,x200003=>if x34=true then (some false) else (spec_StoreOk.l0 k 0 x200000 x200001 x200002 x200003)
def spec_StoreOk.l0:Nat→Int→Int→List (S56)→List (S58)→Int→Option (Bool)
 | 0,_,_,_,_,_=>none
 | k + 1,x3,x200000,x200001,x200002,x200003=>if x3 < (x200001.length:Int) then (if 0≤x3 then ((spec_Digest.f k ((rd_T56 x200001 x3).f1)).bind fun t205=>(if ((rd_T56 x200001 x3).f0).toList=t205.toList then (if x3 > 0 then (if 0≤(wrap64 (x3 - 1)) then (if (wrap64 (x3 - 1)) < (x200001.length:Int) then (spec_StoreOk.j2 k x3 (!(Op.bytesLess (((rd_T56 x200001 (wrap64 (x3 - 1))).f0).toList) (((rd_T56 x200001 x3).f0).toList))) x200000 x200001 x200002 x200003) else (none)) else (none)) else (spec_StoreOk.j2 k x3 false x200000 x200001 x200002 x200003)) else (spec_StoreOk.j2 k x3 true x200000 x200001 x200002 x200003))) else (none)) else (spec_StoreOk.l1 k 0 x200000 x200001 x200002 x200003)
def spec_StoreOk.j2:Nat→Int→Bool→Int→List (S56)→List (S58)→Int→Option (Bool)
 | 0,_,_,_,_,_,_=>none
 | k + 1,x3,x68,x200000,x200001,x200002,x200003=>if x68=true then (some false) else (spec_StoreOk.l0 k (wrap64 (x3 + 1)) x200000 x200001 x200002 x200003)
def spec_StoreOk.l1:Nat→Int→Int→List (S56)→List (S58)→Int→Option (Bool)
 | 0,_,_,_,_,_=>none
 | k + 1,x5,x200000,x200001,x200002,x200003=>if x5 < (x200002.length:Int) then (if 0≤x5 then ((spec_l1In.f ((rd_T58 x200002 x5).f0) 1 (wrap64 (x200003 - 1))).bind fun t208=>(if t208=true then (if x5 > 0 then (if 0≤(wrap64 (x5 - 1)) then (if (wrap64 (x5 - 1)) < (x200002.length:Int) then (spec_StoreOk.j4 k x5 (decide (((rd_T58 x200002 x5).f0)≤((rd_T58 x200002 (wrap64 (x5 - 1))).f0))) x200000 x200001 x200002 x200003) else (none)) else (none)) else (spec_StoreOk.j4 k x5 false x200000 x200001 x200002 x200003)) else (spec_StoreOk.j4 k x5 true x200000 x200001 x200002 x200003))) else (none)) else (some true)
def spec_StoreOk.j4:Nat→Int→Bool→Int→List (S56)→List (S58)→Int→Option (Bool)
 | 0,_,_,_,_,_,_=>none
 | k + 1,x5,x106,x200000,x200001,x200002,x200003=>if x106=true then (some false) else (spec_StoreOk.l1 k (wrap64 (x5 + 1)) x200000 x200001 x200002 x200003)
end
def spec_StoreOk.f (k:Nat) (a0_0:Int) (l0_1:List (S56)) (l0_2:List (S58)) (a0_3:Int):Option (Bool):=(spec_l1In.f a0_0 0 200000).bind fun t200=>(if t200=true then (if (l0_1.length:Int) > 60 then (spec_StoreOk.j0 k true a0_0 l0_1 l0_2 a0_3) else (if (l0_2.length:Int) > 10 then (spec_StoreOk.j0 k true a0_0 l0_1 l0_2 a0_3) else ((spec_l1In.f a0_3 1 1000000000000).bind fun t201=>(if t201=true then ((spec_l6Used.f k a0_0 l0_1 l0_2 a0_3).bind fun t202=>(spec_StoreOk.j0 k (decide (t202 > a0_0)) a0_0 l0_1 l0_2 a0_3)) else (spec_StoreOk.j0 k true a0_0 l0_1 l0_2 a0_3))))) else (spec_StoreOk.j0 k true a0_0 l0_1 l0_2 a0_3))
theorem spec_StoreOk.mono_l:∀ k,(∀ y0 y1 y2 y3 y4,LeO (spec_StoreOk.j0 k y0 y1 y2 y3 y4) (spec_StoreOk.j0 (k + 1) y0 y1 y2 y3 y4))∧(∀ y0 y1 y2 y3 y4,LeO (spec_StoreOk.l0 k y0 y1 y2 y3 y4) (spec_StoreOk.l0 (k + 1) y0 y1 y2 y3 y4))∧(∀ y0 y1 y2 y3 y4 y5,LeO (spec_StoreOk.j2 k y0 y1 y2 y3 y4 y5) (spec_StoreOk.j2 (k + 1) y0 y1 y2 y3 y4 y5))∧(∀ y0 y1 y2 y3 y4,LeO (spec_StoreOk.l1 k y0 y1 y2 y3 y4) (spec_StoreOk.l1 (k + 1) y0 y1 y2 y3 y4))∧(∀ y0 y1 y2 y3 y4 y5,LeO (spec_StoreOk.j4 k y0 y1 y2 y3 y4 y5) (spec_StoreOk.j4 (k + 1) y0 y1 y2 y3 y4 y5))
 | 0=>⟨fun _ _ _ _ _ r h=>by simp [spec_StoreOk.j0] at h,fun _ _ _ _ _ r h=>by simp [spec_StoreOk.l0] at h,fun _ _ _ _ _ _ r h=>by simp [spec_StoreOk.j2] at h,fun _ _ _ _ _ r h=>by simp [spec_StoreOk.l1] at h,fun _ _ _ _ _ _ r h=>by simp [spec_StoreOk.j4] at h⟩
 | k + 1=>by
  obtain ⟨ih0,ih1,ih2,ih3,ih4⟩:=spec_StoreOk.mono_l k;refine ⟨?_,?_,?_,?_,?_⟩ <;> (intros;first | unfold spec_StoreOk.j0 | unfold spec_StoreOk.l0 | unfold spec_StoreOk.j2 | unfold spec_StoreOk.l1 | unfold spec_StoreOk.j4)
  all_goals with_reducible repeat' first | apply ih0 | apply ih1 | apply ih2 | apply ih3 | apply ih4 | apply spec_Digest.mono | apply spec_l6Used.mono | exact LeO.refl _ | exact LeO.none _ | refine LeO.ite ?_ ?_ | refine LeO.bind ?_ (fun _=>?_)
theorem spec_StoreOk.mono:∀ a0 a1 a2 a3 k,LeO (spec_StoreOk.f k a0 a1 a2 a3) (spec_StoreOk.f (k + 1) a0 a1 a2 a3):=by
 intro a0 a1 a2 a3 k;obtain ⟨ih0,ih1,ih2,ih3,ih4⟩:=spec_StoreOk.mono_l k;unfold spec_StoreOk.f
 with_reducible repeat' first | apply ih0 | apply ih1 | apply ih2 | apply ih3 | apply ih4 | apply spec_Digest.mono | apply spec_l6Used.mono | exact LeO.refl _ | exact LeO.none _ | refine LeO.ite ?_ ?_ | refine LeO.bind ?_ (fun _=>?_)
def spec_StoreOk.T1:Bool×List (List Nat×List Nat):=(true,[([],[]),([0],[0]),([1],[1]),([2],[2]),([3,2],[3]),([4],[4]),([5,4],[4,5]),([6,4],[4,6]),([7,4],[4,7]),([4,8],[4,8]),([9,4],[9]),([10],[10]),([11,10],[10,11]),([12,10],[10,12]),([13,10],[10,13]),([10,14],[10,14]),([15,10],[15]),([16],[16]),([17,16],[16,17]),([18,16,16],[16,18]),([19,16],[16,19]),([16,20],[16,20]),([21,19],[21]),([22],[22]),([23,22,22],[22,23]),([22],[22]),([25,22],[22,25]),([24,26,22],[22,24,26]),([22,27],[22,27])])
def spec_StoreOk.B1:List Nat:=[0,1,3,7,15,31,63,127,255,511,1023,2047,4095,8191,16383,32767,65535,131071,262143,524287,1048575,2097151,4194303,8388607,16777215,8388607,41943039,134217727,268435455]
theorem spec_StoreOk.tab1:rtab .any (opsOf Try.f29 1)=spec_StoreOk.T1:=by kernel_rfl
theorem spec_StoreOk.bits1:waitsOk spec_StoreOk.T1.2 spec_StoreOk.B1=true:=by kernel_rfl
def spec_StoreOk.T7:Bool×List (List Nat×List Nat):=(true,[([],[]),([0],[0]),([],[]),([2],[2]),([3],[3]),([1,4],[1,4]),([5,4],[5]),([6],[6]),([7,6],[6,7]),([8,6,6],[6,8]),([9],[9]),([10,9],[9,10]),([9],[9]),([12,9],[9,12]),([9],[9]),([14,9],[9,14]),([13,15,9],[9,13,15]),([16,9],[9,16]),([17,9],[9,17]),([11,18,9],[9,11,18]),([9,19,6],[6,9,19]),([6,20],[6,20])])
def spec_StoreOk.B7:List Nat:=[0,1,0,4,12,31,63,127,255,511,1023,2047,1023,5119,1023,17407,62463,127999,259071,524287,1048575,2097151]
theorem spec_StoreOk.tab7:rtab .any (opsOf Try.f29 7)=spec_StoreOk.T7:=by kernel_rfl
theorem spec_StoreOk.bits7:waitsOk spec_StoreOk.T7.2 spec_StoreOk.B7=true:=by kernel_rfl
def spec_StoreOk.T12:Bool×List (List Nat×List Nat):=(true,[([],[]),([0],[0]),([],[]),([1,2],[1,2]),([3],[3]),([4],[4]),([],[]),([6],[6]),([7],[7]),([5,8],[5,8]),([9],[9]),([10,9],[10]),([11],[11]),([12,11],[11,12]),([13,11,11],[11,13]),([14],[14]),([15,14],[14,15]),([14],[14]),([16,17,14],[14,16,17]),([18,14],[14,18]),([19,14],[14,19]),([14],[14]),([21,14],[14,21]),([14],[14]),([23,14],[14,23]),([22,24,14],[14,22,24]),([25,14],[14,25]),([26,14],[14,26]),([20,27,14],[14,20,27]),([14,28,11],[11,14,28]),([11,29],[11,29])])
def spec_StoreOk.B12:List Nat:=[0,1,0,7,15,31,0,64,192,511,1023,2047,4095,8191,16383,32767,65535,32767,262143,524287,1048575,32767,2129919,32767,8421375,31490047,65044479,132153343,268435455,536870911,1073741823]
theorem spec_StoreOk.tab12:rtab .any (opsOf Try.f29 12)=spec_StoreOk.T12:=by kernel_rfl
theorem spec_StoreOk.bits12:waitsOk spec_StoreOk.T12.2 spec_StoreOk.B12=true:=by kernel_rfl
set_option maxHeartbeats 8000000 in
set_option maxRecDepth 100000 in
theorem spec_StoreOk.calls (k:Nat) (a0_0:Int) (A0_1:Option Addr) (c0_1:Nat) (l0_1:List (S56)) (A0_2:Option Addr) (c0_2:Nat) (l0_2:List (S58)) (a0_3:Int) (r:Bool) (w:World) (hr0_1:Kd.C k56 w A0_1 l0_1.length l0_1) (hc0_1:l0_1.length≤c0_1) (hr0_2:Kd.C k58 w A0_2 l0_2.length l0_2) (hc0_2:l0_2.length≤c0_2) (h:spec_StoreOk.f k a0_0 l0_1 l0_2 a0_3=some r) :
  Calls Try.prog 29 #[.agg #[.int .i64 a0_0,.slice A0_1 l0_1.length c0_1,.slice A0_2 l0_2.length c0_2,.int .i64 a0_3]] w fun e w'=>e = .returned (.bool r)∧Below w.heap.size w w':=by
 have hu27:=Try.underlying27;have hu56:=Try.underlying56;have HR0_1:=aM hr0_1;have HC0_1:=aM hc0_1;clear hr0_1 hc0_1;have HR0_2:=aM hr0_2;have HC0_2:=aM hc0_2;clear hr0_2 hc0_2;have HB:=aM (Below.refl w.heap.size w);unfold spec_StoreOk.f at h;have H:=h;clear h;have HC2:=aM H;clear H;go_enter Try.func29,Try.ntmps29
 go_upto_region 1 with (first|((with_reducible refine gD 1 rfl ?_);(try (refine gate_guard (by rfl) ?_;dsimp only));refine box_event ?hg (N:=1) ?hd (cs:=#[.int .i64 a0_0,.slice A0_1 l0_1.length c0_1,.slice A0_2 l0_2.length c0_2,.int .i64 a0_3]) (t:=27) ?hr ?_;(case hd=>rfl);(case hg=>rfl);(case hr=>exact zq2);intro gb199 hg w3 hbox hb;have BK199:=aM hbox;have GW199:=aM (zq402:w.heap.size≤gb199);have GE199:=GW199;replace HB:=sB zq3 hb;clear hb hbox hg))
 (try simp only [Act.put,List.setIfInBounds_toArray,List.set_cons_zero,List.set_cons_succ])
 go_cut [34] (fun v34 wc=>∃ (kq:Nat) (x34_1:Bool),v34 = .bool x34_1∧Aside0 (spec_StoreOk.j0 kq x34_1 a0_0 l0_1 l0_2 a0_3=some r)∧Aside0 (kq≤k)∧Aside0 (wc.heap[gb199]?=some (.cells #[.int .i64 a0_0,(.slice A0_1 l0_1.length c0_1),(.slice A0_2 l0_2.length c0_2),.int .i64 a0_3] 27 (0,0)))∧Aside0 (Below w.heap.size w wc))
 case first =>
  have H:=HC2.out;clear HC2;replace H:=Option.bind_eq_some_iff.mp H;obtain ⟨t200,A40,H⟩:=H;(try dsimp only at H);have A4:=aM A40;clear A40;by_cases c5:t200=true
  ·
   subst c5;rw [if_pos rfl] at H;by_cases c6:(l0_1.length:Int) > 60
   ·
    rw [if_pos c6] at H;have c6b0:decide (60 < (l0_1.length:Int))=true:=decide_eq_true c6;have c6b1:decide (60 < l0_1.length)=true:=decide_eq_true (by omega);clear c6
    (first | rw [c6b0]|(simp only [i64_w,i32_w];rw [c6b0])|skip)
    have H':=aM H;clear H
    try go_wp2
    replace BK199:=bD BK199;replace HB:=aM (below_drew1 HB.out);refine start_ (n:=29) (S:=fun w'=>w'.cell? ⟨gb199,0,none⟩=some (.int .i64 a0_0)∧w'.cell? ⟨gb199,1,none⟩=some (.slice A0_1 l0_1.length c0_1)∧w'.cell? ⟨gb199,2,none⟩=some (.slice A0_2 l0_2.length c0_2)∧w'.cell? ⟨gb199,3,none⟩=some (.int .i64 a0_3)) (ds:=[]) (bA 29 0) (by kernel_rfl) rfl rfl ⟨(blk_cell BK199.out 0).trans rfl,(blk_cell BK199.out 1).trans rfl,(blk_cell BK199.out 2).trans rfl,(blk_cell BK199.out 3).trans rfl⟩ (fun hHeld=>?_);refine with_tabW spec_StoreOk.tab1 spec_StoreOk.bits1 (fun HT_ HW_=>?_)
    generalize w3.drew=w7 at BK199 HB hHeld ⊢;refine pV 0 6 29 1 ?_;refine tV 1 7 29 3 rfl zq508 ?_;refine oE 2 8 29 7 rfl (fun K hK=>?_);refine goes_ Try.func49 (by kernel_rfl) rfl #[.int .i64 a0_0,.int .i64 0,.int .i64 200000] (by rfl) rfl rfl zq6 ?_
    with_reducible refine (spec_l1In.calls a0_0 0 200000 true _ A4.out).mono ?_
    rintro e w' ⟨rfl,⟨nd,rfl⟩⟩;refine ⟨_,rfl,?_⟩;refine hK.out _ _ ⟨(blk_cell BK199.out 0).trans rfl,(blk_cell BK199.out 1).trans rfl,(blk_cell BK199.out 2).trans rfl,(blk_cell BK199.out 3).trans rfl⟩ (fun hHeld=>?_);clear hK K;refine norm_ (a':=?_) ?_ ?_;rotate_left;exact zq538;refine pV 3 9 29 15 ?_;refine pV 4 10 29 31 ?_;refine pV 5 11 29 63 ?_;refine tV 6 12 29 127 rfl zq508 ?_;refine pV 7 13 29 255 ?_;refine pV 8 14 29 511 ?_;refine pV 9 15 29 1023 ?_;refine pV 10 16 29 2047 ?_;refine pU 11 17 29 4095 ?_;refine pU 12 18 29 8191 ?_;refine pU 13 19 29 16383 ?_;refine pU 14 20 29 32767 ?_;refine pV 15 21 29 65535 ?_;refine pV 16 22 29 131071 ?_;refine pU 17 23 29 262143 ?_;refine pU 18 24 29 524287 ?_;refine pU 19 25 29 1048575 ?_;refine pU 20 26 29 2097151 ?_;refine pV 21 27 29 4194303 ?_;refine pV 22 28 29 8388607 ?_;refine pU 23 29 29 16777215 ?_;refine pU 24 30 29 33554431 ?_;refine pU 25 31 29 67108863 ?_;refine pU 26 32 29 134217727 ?_;refine pU 27 33 29 268435455 ?_;refine pV 28 34 29 536870911 ?_;refine dE ?_
    try go_wp2
    go_meet
    case rel=>exact ⟨_,(true),zq19,H',⟨zq20⟩,⟨zq353⟩,⟨zq354⟩⟩
   rw [if_neg c6] at H;have c6b0:decide (60 < (l0_1.length:Int))=false:=decide_eq_false c6;have c6b1:decide (60 < l0_1.length)=false:=decide_eq_false (by omega);clear c6
   (first | rw [c6b0]|(simp only [i64_w,i32_w];rw [c6b0])|skip)
   by_cases c8:(l0_2.length:Int) > 10
   ·
    rw [if_pos c8] at H;have c8b0:decide (10 < (l0_2.length:Int))=true:=decide_eq_true c8;have c8b1:decide (10 < l0_2.length)=true:=decide_eq_true (by omega);clear c8;have H':=aM H;clear H
    try go_wp2
    replace BK199:=bD BK199;replace HB:=aM (below_drew1 HB.out);refine start_ (n:=29) (S:=fun w'=>w'.cell? ⟨gb199,0,none⟩=some (.int .i64 a0_0)∧w'.cell? ⟨gb199,1,none⟩=some (.slice A0_1 l0_1.length c0_1)∧w'.cell? ⟨gb199,2,none⟩=some (.slice A0_2 l0_2.length c0_2)∧w'.cell? ⟨gb199,3,none⟩=some (.int .i64 a0_3)) (ds:=[]) (bA 29 0) (by kernel_rfl) rfl rfl ⟨(blk_cell BK199.out 0).trans rfl,(blk_cell BK199.out 1).trans rfl,(blk_cell BK199.out 2).trans rfl,(blk_cell BK199.out 3).trans rfl⟩ (fun hHeld=>?_);refine with_tabW spec_StoreOk.tab1 spec_StoreOk.bits1 (fun HT_ HW_=>?_)
    generalize w3.drew=w9 at BK199 HB hHeld ⊢;refine pV 0 6 29 1 ?_;refine tV 1 7 29 3 rfl zq508 ?_;refine oE 2 8 29 7 rfl (fun K hK=>?_);refine goes_ Try.func49 (by kernel_rfl) rfl #[.int .i64 a0_0,.int .i64 0,.int .i64 200000] (by rfl) rfl rfl zq6 ?_
    with_reducible refine (spec_l1In.calls a0_0 0 200000 true _ A4.out).mono ?_
    rintro e w' ⟨rfl,⟨nd,rfl⟩⟩;refine ⟨_,rfl,?_⟩;refine hK.out _ _ ⟨(blk_cell BK199.out 0).trans rfl,(blk_cell BK199.out 1).trans rfl,(blk_cell BK199.out 2).trans rfl,(blk_cell BK199.out 3).trans rfl⟩ (fun hHeld=>?_);clear hK K;refine norm_ (a':=?_) ?_ ?_;rotate_left;exact zq538;refine pV 3 9 29 15 ?_;refine pV 4 10 29 31 ?_;refine pV 5 11 29 63 ?_;refine tV 6 12 29 127 rfl zq508 ?_;refine pV 7 13 29 255 ?_;refine pV 8 14 29 511 ?_;refine pV 9 15 29 1023 ?_;refine pV 10 16 29 2047 ?_;refine pV 11 17 29 4095 ?_;refine tV 12 18 29 8191 rfl zq508 ?_;refine pV 13 19 29 16383 ?_;refine pV 14 20 29 32767 ?_;refine pV 15 21 29 65535 ?_;refine pV 16 22 29 131071 ?_;refine pU 17 23 29 262143 ?_;refine pU 18 24 29 524287 ?_;refine pU 19 25 29 1048575 ?_;refine pU 20 26 29 2097151 ?_;refine pV 21 27 29 4194303 ?_;refine pV 22 28 29 8388607 ?_;refine pU 23 29 29 16777215 ?_;refine pU 24 30 29 33554431 ?_;refine pU 25 31 29 67108863 ?_;refine pU 26 32 29 134217727 ?_;refine pU 27 33 29 268435455 ?_;refine pV 28 34 29 536870911 ?_;refine dE ?_
    try go_wp2
    go_meet
    case rel=>exact ⟨_,(true),zq19,H',⟨zq20⟩,⟨zq353⟩,⟨zq354⟩⟩
   rw [if_neg c8] at H;have c8b0:decide (10 < (l0_2.length:Int))=false:=decide_eq_false c8;have c8b1:decide (10 < l0_2.length)=false:=decide_eq_false (by omega);clear c8;replace H:=Option.bind_eq_some_iff.mp H;obtain ⟨t201,A100,H⟩:=H;(try dsimp only at H);have A10:=aM A100;clear A100;by_cases c11:t201=true
   ·
    subst c11;rw [if_pos rfl] at H;replace H:=Option.bind_eq_some_iff.mp H;obtain ⟨t202,A120,H⟩:=H;(try dsimp only at H);have A12:=aM A120;clear A120;have H':=aM H;clear H
    try go_wp2
    replace BK199:=bD BK199;replace HB:=aM (below_drew1 HB.out);refine start_ (n:=29) (S:=fun w'=>w'.cell? ⟨gb199,0,none⟩=some (.int .i64 a0_0)∧w'.cell? ⟨gb199,1,none⟩=some (.slice A0_1 l0_1.length c0_1)∧w'.cell? ⟨gb199,2,none⟩=some (.slice A0_2 l0_2.length c0_2)∧w'.cell? ⟨gb199,3,none⟩=some (.int .i64 a0_3)) (ds:=[]) (bA 29 0) (by kernel_rfl) rfl rfl ⟨(blk_cell BK199.out 0).trans rfl,(blk_cell BK199.out 1).trans rfl,(blk_cell BK199.out 2).trans rfl,(blk_cell BK199.out 3).trans rfl⟩ (fun hHeld=>?_);refine with_tabW spec_StoreOk.tab1 spec_StoreOk.bits1 (fun HT_ HW_=>?_)
    generalize w3.drew=w13 at BK199 HB hHeld ⊢;refine pV 0 6 29 1 ?_;refine tV 1 7 29 3 rfl zq508 ?_;refine oE 2 8 29 7 rfl (fun K hK=>?_);refine goes_ Try.func49 (by kernel_rfl) rfl #[.int .i64 a0_0,.int .i64 0,.int .i64 200000] (by rfl) rfl rfl zq6 ?_
    with_reducible refine (spec_l1In.calls a0_0 0 200000 true _ A4.out).mono ?_
    rintro e w' ⟨rfl,⟨nd,rfl⟩⟩;refine ⟨_,rfl,?_⟩;refine hK.out _ _ ⟨(blk_cell BK199.out 0).trans rfl,(blk_cell BK199.out 1).trans rfl,(blk_cell BK199.out 2).trans rfl,(blk_cell BK199.out 3).trans rfl⟩ (fun hHeld=>?_);clear hK K;refine norm_ (a':=?_) ?_ ?_;rotate_left;exact zq538;refine pV 3 9 29 15 ?_;refine pV 4 10 29 31 ?_;refine pV 5 11 29 63 ?_;refine tV 6 12 29 127 rfl zq508 ?_;refine pV 7 13 29 255 ?_;refine pV 8 14 29 511 ?_;refine pV 9 15 29 1023 ?_;refine pV 10 16 29 2047 ?_;refine pV 11 17 29 4095 ?_;refine tV 12 18 29 8191 rfl zq508 ?_;refine pV 13 19 29 16383 ?_;refine pV 14 20 29 32767 ?_;refine pV 15 21 29 65535 ?_;refine pV 16 22 29 131071 ?_;refine pV 17 23 29 262143 ?_;refine tV 18 24 29 524287 rfl zq508 ?_;refine oE 19 25 29 1048575 rfl (fun K hK=>?_);refine goes_ Try.func49 (by kernel_rfl) rfl #[.int .i64 a0_3,.int .i64 1,.int .i64 1000000000000] (by rfl) rfl rfl zq6 ?_
    with_reducible refine (spec_l1In.calls a0_3 1 1000000000000 true _ A10.out).mono ?_
    rintro e w' ⟨rfl,⟨nd,rfl⟩⟩;refine ⟨_,rfl,?_⟩;refine hK.out _ _ ⟨(blk_cell BK199.out 0).trans rfl,(blk_cell BK199.out 1).trans rfl,(blk_cell BK199.out 2).trans rfl,(blk_cell BK199.out 3).trans rfl⟩ (fun hHeld=>?_);clear hK K;refine norm_ (a':=?_) ?_ ?_;rotate_left
    ·
     show Act.put _ (some 25) _=_
     simp only [Act.put,List.setIfInBounds_toArray,List.set_cons_zero,List.set_cons_succ,i64_w,i32_w]
     rfl
    refine pV 20 26 29 2097151 ?_;refine pV 21 27 29 4194303 ?_;refine pV 22 28 29 8388607 ?_;refine pV 25 31 29 41943039 ?_;refine tV 23 29 29 50331647 rfl zq508 ?_;refine tV 26 32 29 117440511 rfl zq508 ?_;refine oE 24 30 29 134217727 rfl (fun K hK=>?_);refine goes_ Try.func50 (by kernel_rfl) rfl #[.agg #[.int .i64 a0_0,.slice A0_1 l0_1.length c0_1,.slice A0_2 l0_2.length c0_2,.int .i64 a0_3]] (by rfl) rfl rfl zq6 ?_
    with_reducible refine (spec_l6Used.calls k a0_0 _ _ l0_1 _ _ l0_2 a0_3 t202 _ ?side1 ?side2 ?side3 ?side4 A12.out).mono ?_
    (case side1=>repeat (first | exact (Kd.C_below HR0_1.out zq354)|(with_reducible refine Kd.C_alloc ?_ _)|(with_reducible refine Kd.C_drewN ?_ _)|(with_reducible refine Kd.C_drew ?_)))
    (case side2=>exact zq8)
    (case side3=>repeat (first | exact (Kd.C_below HR0_2.out zq354)|(with_reducible refine Kd.C_alloc ?_ _)|(with_reducible refine Kd.C_drewN ?_ _)|(with_reducible refine Kd.C_drew ?_)))
    (case side4=>exact zq10)
    rintro e w14 ⟨rfl,hb⟩;refine ⟨_,rfl,?_⟩;replace BK199:=bG BK199 hb;replace HB:=sB zq354 hb;(try clear hb);refine hK.out _ _ ⟨(blk_cell BK199.out 0).trans rfl,(blk_cell BK199.out 1).trans rfl,(blk_cell BK199.out 2).trans rfl,(blk_cell BK199.out 3).trans rfl⟩ (fun hHeld=>?_);clear hK K;refine norm_ (a':=?_) ?_ ?_;rotate_left;exact zq509;refine pV 27 33 29 268435455 ?_;refine pV 28 34 29 536870911 ?_;refine dE ?_
    try go_wp2
    go_meet
    case rel=>exact ⟨_,(decide (t202 > a0_0)),zq19,H',⟨zq20⟩,⟨zq353⟩,⟨zq354⟩⟩
   replace c11:=Bool.eq_false_iff.mpr c11;subst c11;rw [if_neg (show ¬ (false=true) by decide)] at H;have H':=aM H;clear H
   try go_wp2
   replace BK199:=bD BK199;replace HB:=aM (below_drew1 HB.out);refine start_ (n:=29) (S:=fun w'=>w'.cell? ⟨gb199,0,none⟩=some (.int .i64 a0_0)∧w'.cell? ⟨gb199,1,none⟩=some (.slice A0_1 l0_1.length c0_1)∧w'.cell? ⟨gb199,2,none⟩=some (.slice A0_2 l0_2.length c0_2)∧w'.cell? ⟨gb199,3,none⟩=some (.int .i64 a0_3)) (ds:=[]) (bA 29 0) (by kernel_rfl) rfl rfl ⟨(blk_cell BK199.out 0).trans rfl,(blk_cell BK199.out 1).trans rfl,(blk_cell BK199.out 2).trans rfl,(blk_cell BK199.out 3).trans rfl⟩ (fun hHeld=>?_);refine with_tabW spec_StoreOk.tab1 spec_StoreOk.bits1 (fun HT_ HW_=>?_)
   generalize w3.drew=w15 at BK199 HB hHeld ⊢;refine pV 0 6 29 1 ?_;refine tV 1 7 29 3 rfl zq508 ?_;refine oE 2 8 29 7 rfl (fun K hK=>?_);refine goes_ Try.func49 (by kernel_rfl) rfl #[.int .i64 a0_0,.int .i64 0,.int .i64 200000] (by rfl) rfl rfl zq6 ?_
   with_reducible refine (spec_l1In.calls a0_0 0 200000 true _ A4.out).mono ?_
   rintro e w' ⟨rfl,⟨nd,rfl⟩⟩;refine ⟨_,rfl,?_⟩;refine hK.out _ _ ⟨(blk_cell BK199.out 0).trans rfl,(blk_cell BK199.out 1).trans rfl,(blk_cell BK199.out 2).trans rfl,(blk_cell BK199.out 3).trans rfl⟩ (fun hHeld=>?_);clear hK K;refine norm_ (a':=?_) ?_ ?_;rotate_left;exact zq538;refine pV 3 9 29 15 ?_;refine pV 4 10 29 31 ?_;refine pV 5 11 29 63 ?_;refine tV 6 12 29 127 rfl zq508 ?_;refine pV 7 13 29 255 ?_;refine pV 8 14 29 511 ?_;refine pV 9 15 29 1023 ?_;refine pV 10 16 29 2047 ?_;refine pV 11 17 29 4095 ?_;refine tV 12 18 29 8191 rfl zq508 ?_;refine pV 13 19 29 16383 ?_;refine pV 14 20 29 32767 ?_;refine pV 15 21 29 65535 ?_;refine pV 16 22 29 131071 ?_;refine pV 17 23 29 262143 ?_;refine tV 18 24 29 524287 rfl zq508 ?_;refine oE 19 25 29 1048575 rfl (fun K hK=>?_);refine goes_ Try.func49 (by kernel_rfl) rfl #[.int .i64 a0_3,.int .i64 1,.int .i64 1000000000000] (by rfl) rfl rfl zq6 ?_
   with_reducible refine (spec_l1In.calls a0_3 1 1000000000000 false _ A10.out).mono ?_
   rintro e w' ⟨rfl,⟨nd,rfl⟩⟩;refine ⟨_,rfl,?_⟩;refine hK.out _ _ ⟨(blk_cell BK199.out 0).trans rfl,(blk_cell BK199.out 1).trans rfl,(blk_cell BK199.out 2).trans rfl,(blk_cell BK199.out 3).trans rfl⟩ (fun hHeld=>?_);clear hK K;refine norm_ (a':=?_) ?_ ?_;rotate_left
   ·
    show Act.put _ (some 25) _=_
    simp only [Act.put,List.setIfInBounds_toArray,List.set_cons_zero,List.set_cons_succ,i64_w,i32_w]
    rfl
   refine pV 20 26 29 2097151 ?_;refine pV 21 27 29 4194303 ?_;refine pV 22 28 29 8388607 ?_;refine pU 23 29 29 16777215 ?_;refine pU 24 30 29 33554431 ?_;refine pU 25 31 29 67108863 ?_;refine pU 26 32 29 134217727 ?_;refine pU 27 33 29 268435455 ?_;refine pV 28 34 29 536870911 ?_;refine dE ?_
   try go_wp2
   go_meet
   case rel=>exact ⟨_,(true),zq19,H',⟨zq20⟩,⟨zq353⟩,⟨zq354⟩⟩
  replace c5:=Bool.eq_false_iff.mpr c5;subst c5;rw [if_neg (show ¬ (false=true) by decide)] at H;have H':=aM H;clear H
  try go_wp2
  replace BK199:=bD BK199;replace HB:=aM (below_drew1 HB.out);refine start_ (n:=29) (S:=fun w'=>w'.cell? ⟨gb199,0,none⟩=some (.int .i64 a0_0)∧w'.cell? ⟨gb199,1,none⟩=some (.slice A0_1 l0_1.length c0_1)∧w'.cell? ⟨gb199,2,none⟩=some (.slice A0_2 l0_2.length c0_2)∧w'.cell? ⟨gb199,3,none⟩=some (.int .i64 a0_3)) (ds:=[]) (bA 29 0) (by kernel_rfl) rfl rfl ⟨(blk_cell BK199.out 0).trans rfl,(blk_cell BK199.out 1).trans rfl,(blk_cell BK199.out 2).trans rfl,(blk_cell BK199.out 3).trans rfl⟩ (fun hHeld=>?_);refine with_tabW spec_StoreOk.tab1 spec_StoreOk.bits1 (fun HT_ HW_=>?_)
  generalize w3.drew=w16 at BK199 HB hHeld ⊢;refine pV 0 6 29 1 ?_;refine tV 1 7 29 3 rfl zq508 ?_;refine oE 2 8 29 7 rfl (fun K hK=>?_);refine goes_ Try.func49 (by kernel_rfl) rfl #[.int .i64 a0_0,.int .i64 0,.int .i64 200000] (by rfl) rfl rfl zq6 ?_
  with_reducible refine (spec_l1In.calls a0_0 0 200000 false _ A4.out).mono ?_
  rintro e w' ⟨rfl,⟨nd,rfl⟩⟩;refine ⟨_,rfl,?_⟩;refine hK.out _ _ ⟨(blk_cell BK199.out 0).trans rfl,(blk_cell BK199.out 1).trans rfl,(blk_cell BK199.out 2).trans rfl,(blk_cell BK199.out 3).trans rfl⟩ (fun hHeld=>?_);clear hK K;refine norm_ (a':=?_) ?_ ?_;rotate_left;exact zq538;refine pV 3 9 29 15 ?_;refine pV 4 10 29 31 ?_;refine pU 5 11 29 63 ?_;refine pU 6 12 29 127 ?_;refine pU 7 13 29 255 ?_;refine pU 8 14 29 511 ?_;refine pV 9 15 29 1023 ?_;refine pV 10 16 29 2047 ?_;refine pU 11 17 29 4095 ?_;refine pU 12 18 29 8191 ?_;refine pU 13 19 29 16383 ?_;refine pU 14 20 29 32767 ?_;refine pV 15 21 29 65535 ?_;refine pV 16 22 29 131071 ?_;refine pU 17 23 29 262143 ?_;refine pU 18 24 29 524287 ?_;refine pU 19 25 29 1048575 ?_;refine pU 20 26 29 2097151 ?_;refine pV 21 27 29 4194303 ?_;refine pV 22 28 29 8388607 ?_;refine pU 23 29 29 16777215 ?_;refine pU 24 30 29 33554431 ?_;refine pU 25 31 29 67108863 ?_;refine pU 26 32 29 134217727 ?_;refine pU 27 33 29 268435455 ?_;refine pV 28 34 29 536870911 ?_;refine dE ?_
  try go_wp2
  go_meet
  case rel=>exact ⟨_,(true),zq19,H',⟨zq20⟩,⟨zq353⟩,⟨zq354⟩⟩
 case rest =>
  clear HC2;obtain ⟨kq,x34_1,rfl,HA,HJ1,BK199,HB⟩:=hcut
  cases kq with
  | zero=>exact absurd HA.out (by simp [spec_StoreOk.j0])
  | succ kj1 =>
   have H:=HA.out;clear HA;simp only [spec_StoreOk.j0] at H;by_cases c17:x34_1=true
   ·
    subst c17;rw [if_pos rfl] at H;obtain rfl:=Option.some.inj H;go_wp2;go_ret;exact ⟨zq24,zq354⟩
   replace c17:=Bool.eq_false_iff.mpr c17;subst c17;rw [if_neg (show ¬ (false=true) by decide)] at H;have H':=aM H;clear H;go_wp2
   go_loopg [3] kj1 (fun kq v3 w'=>∃ (x3_2:Int),v3 = .int .i64 x3_2∧Aside0 (spec_StoreOk.l0 kq x3_2 a0_0 l0_1 l0_2 a0_3=some r)∧Aside0 (kq≤kj1)∧Aside0 (w'.heap[gb199]?=some (.cells #[.int .i64 a0_0,(.slice A0_1 l0_1.length c0_1),(.slice A0_2 l0_2.length c0_2),.int .i64 a0_3] 27 (0,0)))∧Aside0 (Below w.heap.size w w'))
   case atStart=>exact ⟨(0),zq19,H',⟨Nat.le_refl _⟩,⟨zq353⟩,⟨zq354⟩⟩
   case round =>
    clear H';(try clear c17);obtain ⟨x3_2,rfl,HA,HK2,BK199,HB⟩:=hrel
    cases gk with
    | zero=>exact absurd HA.out (by simp [spec_StoreOk.l0])
    | succ k2 =>
     have H:=HA.out;clear HA;simp only [spec_StoreOk.l0] at H;by_cases c18:x3_2 < (l0_1.length:Int)
     ·
      rw [if_pos c18] at H;have c18b0:=decide_eq_true c18;clear c18;by_cases c19:0≤x3_2
      ·
       rw [if_pos c19] at H;have c19b0:=decide_eq_true c19;clear c19;have HC20:=aM H;clear H;have hcz21:=cells4_ (w:=wr) BK199;have p203:0≤(x3_2:Int):=of_decide_eq_true zq34;have q203:x3_2 < (l0_1.length:Int):=of_decide_eq_true zq34;obtain ⟨ad203,e203,hx203_0,hx203_1⟩:=at_T56 HR0_1.out x3_2 p203 q203;cases e203;replace hx203_0:=hxB HB hx203_0;replace hx203_1:=hxB HB hx203_1;replace p203:=eq_true p203;replace q203:=eq_true q203
       go_upto_region 7 with (first|((with_reducible refine gD 4 rfl ?_);(try (refine gate_guard (by rfl) ?_;dsimp only));refine box_event ?hg (N:=4) ?hd (cs:=#[.string (⟨#[]⟩:ByteArray),.string (⟨#[]⟩:ByteArray)]) (t:=56) ?hr ?_;(case hd=>rfl);(case hg=>rfl);(case hr=>exact zq2);intro gb204 hg w22 hbox hb;have BK204:=aM hbox;have GW204:=aM (by rw [hg];exact (below_size zq354):w.heap.size≤gb204);have GE204:=GW204;replace HB:=sB zq354 hb;have NB199_204:=aM (by rw [hg];exact Nat.ne_of_lt (blk_lt (g:=gb199) (o:=.cells #[.int .i64 a0_0,.slice (some ad203) l0_1.length c0_1,.slice A0_2 l0_2.length c0_2,.int .i64 a0_3] 27 (0,0)) zq353):gb199≠gb204);have NB204_199:=aM (by rw [hg];exact Nat.ne_of_gt (blk_lt (g:=gb199) (o:=.cells #[.int .i64 a0_0,.slice (some ad203) l0_1.length c0_1,.slice A0_2 l0_2.length c0_2,.int .i64 a0_3] 27 (0,0)) zq353):gb204≠gb199);replace BK199:=bG BK199 hb;clear hb hbox hg;have hnb23:=NB204_199.out;have hnc23:=NB199_204.out;have hcz24:=cells2_ (w:=w22) BK204))
       (try simp only [Act.put,List.setIfInBounds_toArray,List.set_cons_zero,List.set_cons_succ])
       go_cut [68] (fun v68 wc=>∃ (kq:Nat) (x68_19:Bool),v68 = .bool x68_19∧Aside0 (spec_StoreOk.j2 kq x3_2 x68_19 a0_0 l0_1 l0_2 a0_3=some r)∧Aside0 (kq≤k2)∧Aside0 (wc.heap[gb199]?=some (.cells #[.int .i64 a0_0,(.slice (some ad203) l0_1.length c0_1),(.slice A0_2 l0_2.length c0_2),.int .i64 a0_3] 27 (0,0)))∧Aside0 (wc.heap[gb204]?=some (.cells #[.string ((rd_T56 l0_1 x3_2).f0),.string ((rd_T56 l0_1 x3_2).f1)] 56 (0,0)))∧Aside0 (Below w.heap.size w wc))
       case first =>
        have H:=HC20.out;clear HC20;replace H:=Option.bind_eq_some_iff.mp H;obtain ⟨t205,A250,H⟩:=H;(try dsimp only at H);have A25:=aM A250;clear A250;by_cases c26:((rd_T56 l0_1 x3_2).f0).toList=t205.toList
        ·
         rw [if_pos c26] at H;have c26b0:(((rd_T56 l0_1 x3_2).f0).toList == t205.toList)=true:=beq_iff_eq.mpr c26;have c26b1:(((rd_T56 l0_1 x3_2).f0).toList != t205.toList)=false:=bne_eq_false_iff_eq.mpr c26;clear c26
         (first | rw [c26b0]|(simp only [i64_w,i32_w];rw [c26b0])|skip)
         by_cases c27:x3_2 > 0
         ·
          rw [if_pos c27] at H;have c27b0:decide (0 < x3_2)=true:=decide_eq_true c27;clear c27;obtain ⟨ji28,hji28⟩:∃ j_:Int,(wrap64 (x3_2 - 1))=j_:=⟨_,rfl⟩;replace H:(if 0≤(ji28) then (if (ji28) < (l0_1.length:Int) then (spec_StoreOk.j2 k2 x3_2 (!(Op.bytesLess (((rd_T56 l0_1 (ji28)).f0).toList) (((rd_T56 l0_1 x3_2).f0).toList))) a0_0 l0_1 l0_2 a0_3) else (none)) else (none))=some r:=by first|(rw [hji28] at H;exact H)|(simp only [hji28] at H ⊢;exact H)
          (try rw [hji28] at A25);have hji28w:(IntKind.i64.wrap (x3_2 - 1))=ji28:=(i64_w _).trans hji28;by_cases c29:0≤(ji28)
          ·
           rw [if_pos c29] at H;have c29b0:=decide_eq_true c29;clear c29;by_cases c30:(ji28) < (l0_1.length:Int)
           ·
            rw [if_pos c30] at H;have c30b0:=decide_eq_true c30;clear c30;have H':=aM H;clear H
            try go_wp2
            generalize hz_:((w22.setCell ⟨gb204,0,none⟩ (.string ((rd_T56 l0_1 x3_2).f0))).setCell ⟨gb204,1,none⟩ (.string ((rd_T56 l0_1 x3_2).f1)))=w31;have n0_:Aside0 (w31.heap[gb199]?=some (.cells #[.int .i64 a0_0,.slice (some ad203) l0_1.length c0_1,.slice A0_2 l0_2.length c0_2,.int .i64 a0_3] 27 (0,0))):=⟨zq355⟩;have n1_:Aside0 (w31.heap[gb204]?=some (.cells #[.string ((rd_T56 l0_1 x3_2).f0),.string ((rd_T56 l0_1 x3_2).f1)] 56 (0,0))):=⟨zq356⟩;have n2_:Aside0 (Below w.heap.size w w31):=⟨zq357⟩;clear hz_;(try clear BK199);(try clear BK204);(try clear HB);have BK199:=n0_;have BK204:=n1_;have HB:=n2_;clear n0_ n1_ n2_;replace BK199:=bD BK199;replace BK204:=bD BK204;replace HB:=aM (below_drew1 HB.out);have p206:0≤((ji28):Int):=of_decide_eq_true zq34;have q206:(ji28) < (l0_1.length:Int):=of_decide_eq_true zq34;obtain ⟨ad206,e206,hx206_0,hx206_1⟩:=at_T56 HR0_1.out (ji28) p206 q206;have hw206_1:=hx206_1;have hw206_0:=hx206_0;obtain rfl:ad203=ad206:=(by injection e206);replace hx206_0:=hxB HB hx206_0;replace hx206_1:=hxB HB hx206_1;replace p206:=eq_true p206;replace q206:=eq_true q206
            refine start_ (n:=22) (S:=fun w'=>w'.cell? ⟨gb204,0,none⟩=some (.string ((rd_T56 l0_1 x3_2).f0))∧w'.cell? ⟨gb204,1,none⟩=some (.string ((rd_T56 l0_1 x3_2).f1))∧w'.cell? ⟨gb199,0,none⟩=some (.int .i64 a0_0)∧w'.cell? ⟨gb199,1,none⟩=some (.slice (some ad203) l0_1.length c0_1)∧w'.cell? ⟨gb199,2,none⟩=some (.slice A0_2 l0_2.length c0_2)∧w'.cell? ⟨gb199,3,none⟩=some (.int .i64 a0_3)∧w'.cell? (ad203.add (((ji28)).toNat * 2))=some (.string ((rd_T56 l0_1 (ji28)).f0))∧w'.cell? ⟨(ad203.add (((ji28)).toNat * 2)).block,(ad203.add (((ji28)).toNat * 2)).off + 1,none⟩=some (.string ((rd_T56 l0_1 (ji28)).f1))) (ds:=[]) (bA 22 0) (by kernel_rfl) rfl rfl ⟨(blk_cell BK204.out 0).trans rfl,(blk_cell BK204.out 1).trans rfl,k4_ BK199 ⟨(hxB HB hw206_0:_),(hxB HB hw206_1:_)⟩⟩ (fun hHeld=>?_);refine with_tabW spec_StoreOk.tab7 spec_StoreOk.bits7 (fun HT_ HW_=>?_)
            generalize w31.drew=w32 at BK199 BK204 HB hx206_0 hx206_1 hHeld ⊢;refine pV 0 47 22 1 ?_;refine pV 2 49 22 5 ?_;refine tV 1 48 22 7 rfl zq526 ?_;refine tV 3 50 22 15 rfl zq526 ?_;refine oE 4 51 22 31 rfl (fun K hK=>?_);refine goes_ Try.func10 (by kernel_rfl) rfl #[.string ((rd_T56 l0_1 x3_2).f1)] (by rfl) rfl rfl zq6 ?_
            with_reducible refine (spec_Digest.calls k2 ((rd_T56 l0_1 x3_2).f1) t205 _ A25.out).mono ?_
            rintro e w33 ⟨rfl,hb⟩;refine ⟨_,rfl,?_⟩;replace BK199:=bG BK199 hb;replace BK204:=bG BK204 hb;replace HB:=sB zq359 hb;(try clear hb);refine hK.out _ _ ⟨(blk_cell BK204.out 0).trans rfl,(blk_cell BK204.out 1).trans rfl,k4_ BK199 ⟨(hxB HB hw206_0:_),(hxB HB hw206_1:_)⟩⟩ (fun hHeld=>?_);clear hK K;refine norm_ (a':=?_) ?_ ?_;rotate_left;exact zq539;refine pV 5 52 22 63 ?_;refine pV 6 53 22 127 ?_;refine pV 7 54 22 255 ?_;refine pV 8 55 22 511 ?_;refine pV 9 56 22 1023 ?_;refine pV 10 57 22 2047 ?_;refine pV 12 59 22 6143 ?_;refine pV 14 61 22 22527 ?_;refine pV 15 62 22 55295 ?_;refine tV 11 58 22 57343 rfl zq526 ?_;refine tV 13 60 22 65535 rfl zq526 ?_;refine pV 16 63 22 131071 ?_;refine pV 17 64 22 262143 ?_;refine tV 18 65 22 524287 rfl zq526 ?_;refine pV 19 66 22 1048575 ?_;refine pV 20 67 22 2097151 ?_;refine pV 21 68 22 4194303 ?_;refine dE ?_
            try go_wp2
            go_meet
            case rel=>exact ⟨_,(!(Op.bytesLess (((rd_T56 l0_1 (ji28)).f0).toList) (((rd_T56 l0_1 x3_2).f0).toList))),(by first | rfl|(simp;done)|(simp only [← hji28] <;> (first | rfl | simp))|(simp [*];done)),H',⟨zq122⟩,⟨zq353⟩,⟨zq358⟩,⟨zq359⟩⟩
           exact zq528
          rw [if_neg c29] at H;exact absurd H (by simp)
         rw [if_neg c27] at H;have c27b0:decide (0 < x3_2)=false:=decide_eq_false c27;clear c27;have H':=aM H;clear H
         try go_wp2
         generalize hz_:((w22.setCell ⟨gb204,0,none⟩ (.string ((rd_T56 l0_1 x3_2).f0))).setCell ⟨gb204,1,none⟩ (.string ((rd_T56 l0_1 x3_2).f1)))=w34;have n0_:Aside0 (w34.heap[gb199]?=some (.cells #[.int .i64 a0_0,.slice (some ad203) l0_1.length c0_1,.slice A0_2 l0_2.length c0_2,.int .i64 a0_3] 27 (0,0))):=⟨zq355⟩;have n1_:Aside0 (w34.heap[gb204]?=some (.cells #[.string ((rd_T56 l0_1 x3_2).f0),.string ((rd_T56 l0_1 x3_2).f1)] 56 (0,0))):=⟨zq356⟩;have n2_:Aside0 (Below w.heap.size w w34):=⟨zq357⟩;clear hz_;(try clear BK199);(try clear BK204);(try clear HB);have BK199:=n0_;have BK204:=n1_;have HB:=n2_;clear n0_ n1_ n2_;replace BK199:=bD BK199;replace BK204:=bD BK204;replace HB:=aM (below_drew1 HB.out);refine start_ (n:=22) (S:=fun w'=>w'.cell? ⟨gb204,0,none⟩=some (.string ((rd_T56 l0_1 x3_2).f0))∧w'.cell? ⟨gb204,1,none⟩=some (.string ((rd_T56 l0_1 x3_2).f1))) (ds:=[]) (bA 22 0) (by kernel_rfl) rfl rfl ⟨(blk_cell BK204.out 0).trans rfl,(blk_cell BK204.out 1).trans rfl⟩ (fun hHeld=>?_);refine with_tabW spec_StoreOk.tab7 spec_StoreOk.bits7 (fun HT_ HW_=>?_)
         generalize w34.drew=w35 at BK199 BK204 HB hHeld ⊢;refine pV 0 47 22 1 ?_;refine pV 2 49 22 5 ?_;refine tV 1 48 22 7 rfl zq521 ?_;refine tV 3 50 22 15 rfl zq521 ?_;refine oE 4 51 22 31 rfl (fun K hK=>?_);refine goes_ Try.func10 (by kernel_rfl) rfl #[.string ((rd_T56 l0_1 x3_2).f1)] (by rfl) rfl rfl zq6 ?_
         with_reducible refine (spec_Digest.calls k2 ((rd_T56 l0_1 x3_2).f1) t205 _ A25.out).mono ?_
         rintro e w36 ⟨rfl,hb⟩;refine ⟨_,rfl,?_⟩;replace BK199:=bG BK199 hb;replace BK204:=bG BK204 hb;replace HB:=sB zq359 hb;(try clear hb);refine hK.out _ _ ⟨(blk_cell BK204.out 0).trans rfl,(blk_cell BK204.out 1).trans rfl⟩ (fun hHeld=>?_);clear hK K;refine norm_ (a':=?_) ?_ ?_;rotate_left;exact zq539;refine pV 5 52 22 63 ?_;refine pV 6 53 22 127 ?_;refine pV 7 54 22 255 ?_;refine pV 8 55 22 511 ?_;refine pV 9 56 22 1023 ?_;refine pU 10 57 22 2047 ?_;refine pU 11 58 22 4095 ?_;refine pU 12 59 22 8191 ?_;refine pU 13 60 22 16383 ?_;refine pU 14 61 22 32767 ?_;refine pU 15 62 22 65535 ?_;refine pU 16 63 22 131071 ?_;refine pU 17 64 22 262143 ?_;refine pU 18 65 22 524287 ?_;refine pU 19 66 22 1048575 ?_;refine pV 20 67 22 2097151 ?_;refine pV 21 68 22 4194303 ?_;refine dE ?_
         try go_wp2
         go_meet
         case rel=>exact ⟨_,(false),zq19,H',⟨zq122⟩,⟨zq353⟩,⟨zq358⟩,⟨zq359⟩⟩
        rw [if_neg c26] at H;have c26b0:(((rd_T56 l0_1 x3_2).f0).toList == t205.toList)=false:=beq_eq_false_iff_ne.mpr c26;have c26b1:(((rd_T56 l0_1 x3_2).f0).toList != t205.toList)=true:=bne_iff_ne.mpr c26
        (first | rw [c26b0]|(simp only [i64_w,i32_w];rw [c26b0])|skip)
        have H':=aM H;clear H
        try go_wp2
        generalize hz_:((w22.setCell ⟨gb204,0,none⟩ (.string ((rd_T56 l0_1 x3_2).f0))).setCell ⟨gb204,1,none⟩ (.string ((rd_T56 l0_1 x3_2).f1)))=w37;have n0_:Aside0 (w37.heap[gb199]?=some (.cells #[.int .i64 a0_0,.slice (some ad203) l0_1.length c0_1,.slice A0_2 l0_2.length c0_2,.int .i64 a0_3] 27 (0,0))):=⟨zq355⟩;have n1_:Aside0 (w37.heap[gb204]?=some (.cells #[.string ((rd_T56 l0_1 x3_2).f0),.string ((rd_T56 l0_1 x3_2).f1)] 56 (0,0))):=⟨zq356⟩;have n2_:Aside0 (Below w.heap.size w w37):=⟨zq357⟩;clear hz_;(try clear BK199);(try clear BK204);(try clear HB);have BK199:=n0_;have BK204:=n1_;have HB:=n2_;clear n0_ n1_ n2_;replace BK199:=bD BK199;replace BK204:=bD BK204;replace HB:=aM (below_drew1 HB.out);refine start_ (n:=22) (S:=fun w'=>w'.cell? ⟨gb204,0,none⟩=some (.string ((rd_T56 l0_1 x3_2).f0))∧w'.cell? ⟨gb204,1,none⟩=some (.string ((rd_T56 l0_1 x3_2).f1))) (ds:=[]) (bA 22 0) (by kernel_rfl) rfl rfl ⟨(blk_cell BK204.out 0).trans rfl,(blk_cell BK204.out 1).trans rfl⟩ (fun hHeld=>?_);refine with_tabW spec_StoreOk.tab7 spec_StoreOk.bits7 (fun HT_ HW_=>?_)
        generalize w37.drew=w38 at BK199 BK204 HB hHeld ⊢;refine pV 0 47 22 1 ?_;refine pV 2 49 22 5 ?_;refine tV 1 48 22 7 rfl zq521 ?_;refine tV 3 50 22 15 rfl zq521 ?_;refine oE 4 51 22 31 rfl (fun K hK=>?_);refine goes_ Try.func10 (by kernel_rfl) rfl #[.string ((rd_T56 l0_1 x3_2).f1)] (by rfl) rfl rfl zq6 ?_
        with_reducible refine (spec_Digest.calls k2 ((rd_T56 l0_1 x3_2).f1) t205 _ A25.out).mono ?_
        rintro e w39 ⟨rfl,hb⟩;refine ⟨_,rfl,?_⟩;replace BK199:=bG BK199 hb;replace BK204:=bG BK204 hb;replace HB:=sB zq359 hb;(try clear hb);refine hK.out _ _ ⟨(blk_cell BK204.out 0).trans rfl,(blk_cell BK204.out 1).trans rfl⟩ (fun hHeld=>?_);clear hK K;refine norm_ (a':=?_) ?_ ?_;rotate_left;exact zq539;refine pV 5 52 22 63 ?_;refine pV 6 53 22 127 ?_;refine pU 7 54 22 255 ?_;refine pU 8 55 22 511 ?_;refine pU 9 56 22 1023 ?_;refine pU 10 57 22 2047 ?_;refine pU 11 58 22 4095 ?_;refine pU 12 59 22 8191 ?_;refine pU 13 60 22 16383 ?_;refine pU 14 61 22 32767 ?_;refine pU 15 62 22 65535 ?_;refine pU 16 63 22 131071 ?_;refine pU 17 64 22 262143 ?_;refine pU 18 65 22 524287 ?_;refine pU 19 66 22 1048575 ?_;refine pU 20 67 22 2097151 ?_;refine pV 21 68 22 4194303 ?_;refine dE ?_
        try go_wp2
        go_meet
        case rel=>exact ⟨_,(true),zq19,H',⟨zq122⟩,⟨zq353⟩,⟨zq358⟩,⟨zq359⟩⟩
       case rest =>
        clear HC20;obtain ⟨kq,x68_19,rfl,HA,HJ19,BK199,BK204,HB⟩:=hcut
        cases kq with
        | zero=>exact absurd HA.out (by simp [spec_StoreOk.j2])
        | succ kj19 =>
         have H:=HA.out;clear HA;simp only [spec_StoreOk.j2] at H;by_cases c40:x68_19=true
         ·
          subst c40;rw [if_pos rfl] at H;obtain rfl:=Option.some.inj H;go_wp2;go_ret;exact ⟨zq24,zq359⟩
         replace c40:=Bool.eq_false_iff.mpr c40;subst c40;rw [if_neg (show ¬ (false=true) by decide)] at H;have H':=aM H;clear H;go_wp2
         go_roundg kj19
         case measure=>have:=HJ1.out;have:=HK2.out;have:=HJ19.out;omega
         case rel=>exact ⟨(wrap64 (x3_2 + 1)),zq19,H',⟨by have:=HJ1.out;have:=HK2.out;have:=HJ19.out;omega⟩,⟨zq353⟩,⟨zq359⟩⟩
      rw [if_neg c19] at H;exact absurd H (by simp)
     rw [if_neg c18] at H;have c18b0:=decide_eq_false c18;clear c18;have H':=aM H;clear H;have hcz41:=cells4_ (w:=wr) BK199;go_wp2
     go_loopg [5] k2 (fun kq v5 w'=>∃ (x5_3:Int),v5 = .int .i64 x5_3∧Aside0 (spec_StoreOk.l1 kq x5_3 a0_0 l0_1 l0_2 a0_3=some r)∧Aside0 (kq≤k2)∧Aside0 (w'.heap[gb199]?=some (.cells #[.int .i64 a0_0,(.slice A0_1 l0_1.length c0_1),(.slice A0_2 l0_2.length c0_2),.int .i64 a0_3] 27 (0,0)))∧Aside0 (Below w.heap.size w w'))
     case atStart=>exact ⟨(0),zq19,H',⟨Nat.le_refl _⟩,⟨zq353⟩,⟨zq354⟩⟩
     case round =>
      clear H';(try clear c18b0);(try clear hcz41);obtain ⟨x5_3,rfl,HA,HK3,BK199,HB⟩:=hrel
      cases gk with
      | zero=>exact absurd HA.out (by simp [spec_StoreOk.l1])
      | succ k3 =>
       have H:=HA.out;clear HA;simp only [spec_StoreOk.l1] at H;by_cases c42:x5_3 < (l0_2.length:Int)
       ·
        rw [if_pos c42] at H;have c42b0:=decide_eq_true c42;clear c42;have HC43:=aM H;clear H;have hcz44:=cells4_ (w:=wr) BK199
        go_upto_region 12 with (fail)
        go_cut [106] (fun v106 wc=>∃ (kq:Nat) (x106_42:Bool),v106 = .bool x106_42∧Aside0 (spec_StoreOk.j4 kq x5_3 x106_42 a0_0 l0_1 l0_2 a0_3=some r)∧Aside0 (kq≤k3)∧Aside0 (wc.heap[gb199]?=some (.cells #[.int .i64 a0_0,(.slice A0_1 l0_1.length c0_1),(.slice A0_2 l0_2.length c0_2),.int .i64 a0_3] 27 (0,0)))∧Aside0 (Below w.heap.size w wc))
        case first =>
         have H:=HC43.out;clear HC43;by_cases c45:0≤x5_3
         ·
          rw [if_pos c45] at H;have c45b0:=decide_eq_true c45;clear c45
          (first | rw [c45b0]|(simp only [i64_w,i32_w];rw [c45b0])|skip)
          replace H:=Option.bind_eq_some_iff.mp H;obtain ⟨t208,A460,H⟩:=H;(try dsimp only at H);have A46:=aM A460;clear A460;by_cases c47:t208=true
          ·
           subst c47;rw [if_pos rfl] at H;by_cases c48:x5_3 > 0
           ·
            rw [if_pos c48] at H;have c48b0:decide (0 < x5_3)=true:=decide_eq_true c48;clear c48;obtain ⟨ji49,hji49⟩:∃ j_:Int,(wrap64 (x5_3 - 1))=j_:=⟨_,rfl⟩;replace H:(if 0≤(ji49) then (if (ji49) < (l0_2.length:Int) then (spec_StoreOk.j4 k3 x5_3 (decide (((rd_T58 l0_2 x5_3).f0)≤((rd_T58 l0_2 (ji49)).f0))) a0_0 l0_1 l0_2 a0_3) else (none)) else (none))=some r:=by first|(rw [hji49] at H;exact H)|(simp only [hji49] at H ⊢;exact H)
            (try rw [hji49] at A46);have hji49w:(IntKind.i64.wrap (x5_3 - 1))=ji49:=(i64_w _).trans hji49;by_cases c50:0≤(ji49)
            ·
             rw [if_pos c50] at H;have c50b0:=decide_eq_true c50;clear c50;by_cases c51:(ji49) < (l0_2.length:Int)
             ·
              rw [if_pos c51] at H;have c51b0:=decide_eq_true c51;clear c51;have H':=aM H;clear H
              try go_wp2
              replace BK199:=bD BK199;replace HB:=aM (below_drew1 HB.out);have p207:0≤(x5_3:Int):=of_decide_eq_true zq34;have q207:x5_3 < (l0_2.length:Int):=of_decide_eq_true zq34;obtain ⟨ad207,e207,hx207_0,hx207_1⟩:=at_T58 HR0_2.out x5_3 p207 q207;have hw207_1:=hx207_1;have hw207_0:=hx207_0;cases e207;replace hx207_0:=hxB HB hx207_0;replace hx207_1:=hxB HB hx207_1;replace p207:=eq_true p207;replace q207:=eq_true q207;have p209:0≤(x5_3:Int):=of_decide_eq_true zq34;have q209:x5_3 < (l0_2.length:Int):=of_decide_eq_true zq34;obtain ⟨ad209,e209,hx209_0,hx209_1⟩:=at_T58 HR0_2.out x5_3 p209 q209;have hw209_1:=hx209_1;have hw209_0:=hx209_0;obtain rfl:ad207=ad209:=(by injection e209);replace hx209_0:=hxB HB hx209_0;replace hx209_1:=hxB HB hx209_1;replace p209:=eq_true p209;replace q209:=eq_true q209;have p210:0≤((ji49):Int):=of_decide_eq_true zq34;have q210:(ji49) < (l0_2.length:Int):=of_decide_eq_true zq34;obtain ⟨ad210,e210,hx210_0,hx210_1⟩:=at_T58 HR0_2.out (ji49) p210 q210;have hw210_1:=hx210_1;have hw210_0:=hx210_0;obtain rfl:ad207=ad210:=(by injection e210)
              replace hx210_0:=hxB HB hx210_0;replace hx210_1:=hxB HB hx210_1;replace p210:=eq_true p210;replace q210:=eq_true q210
              refine start_ (n:=31) (S:=fun w'=>w'.cell? ⟨gb199,0,none⟩=some (.int .i64 a0_0)∧w'.cell? ⟨gb199,1,none⟩=some (.slice A0_1 l0_1.length c0_1)∧w'.cell? ⟨gb199,2,none⟩=some (.slice (some ad207) l0_2.length c0_2)∧w'.cell? ⟨gb199,3,none⟩=some (.int .i64 a0_3)∧w'.cell? (ad207.add ((x5_3).toNat * 2))=some (.int .i64 ((rd_T58 l0_2 x5_3).f0))∧w'.cell? ⟨(ad207.add ((x5_3).toNat * 2)).block,(ad207.add ((x5_3).toNat * 2)).off + 1,none⟩=some (.string ((rd_T58 l0_2 x5_3).f1))∧w'.cell? (ad207.add ((x5_3).toNat * 2))=some (.int .i64 ((rd_T58 l0_2 x5_3).f0))∧w'.cell? ⟨(ad207.add ((x5_3).toNat * 2)).block,(ad207.add ((x5_3).toNat * 2)).off + 1,none⟩=some (.string ((rd_T58 l0_2 x5_3).f1))∧w'.cell? (ad207.add (((ji49)).toNat * 2))=some (.int .i64 ((rd_T58 l0_2 (ji49)).f0))∧w'.cell? ⟨(ad207.add (((ji49)).toNat * 2)).block,(ad207.add (((ji49)).toNat * 2)).off + 1,none⟩=some (.string ((rd_T58 l0_2 (ji49)).f1))) (ds:=[]) (bA 31 0) (by kernel_rfl) rfl rfl (k4_ BK199 ⟨(hxB HB hw207_0:_),(hxB HB hw207_1:_),(hxB HB hw209_0:_),(hxB HB hw209_1:_),(hxB HB hw210_0:_),(hxB HB hw210_1:_)⟩) (fun hHeld=>?_);refine with_tabW spec_StoreOk.tab12 spec_StoreOk.bits12 (fun HT_ HW_=>?_)
              generalize wr.drew=w52 at BK199 HB hx207_0 hx207_1 hx209_0 hx209_1 hx210_0 hx210_1 hHeld ⊢;refine pV 0 76 31 1 ?_;refine pV 2 78 31 5 ?_;refine pV 6 82 31 69 ?_;refine tV 1 77 31 71 rfl zq540 ?_;refine pV 3 79 31 79 ?_;refine pV 4 80 31 95 ?_;refine tV 5 81 31 127 rfl zq540 ?_;refine tV 7 83 31 255 rfl zq540 ?_;refine pV 8 84 31 511 ?_;refine oE 9 85 31 1023 rfl (fun K hK=>?_);refine goes_ Try.func49 (by kernel_rfl) rfl #[.int .i64 ((rd_T58 l0_2 x5_3).f0),.int .i64 1,.int .i64 (wrap64 (a0_3 - 1))] (by rfl) rfl rfl zq6 ?_
              with_reducible refine (spec_l1In.calls ((rd_T58 l0_2 x5_3).f0) 1 (wrap64 (a0_3 - 1)) true _ A46.out).mono ?_
              rintro e w' ⟨rfl,⟨nd,rfl⟩⟩;refine ⟨_,rfl,?_⟩;refine hK.out _ _ (k4_ BK199 ⟨(hxB HB hw207_0:_),(hxB HB hw207_1:_),(hxB HB hw209_0:_),(hxB HB hw209_1:_),(hxB HB hw210_0:_),(hxB HB hw210_1:_)⟩) (fun hHeld=>?_);clear hK K;refine norm_ (a':=?_) ?_ ?_;rotate_left;exact zq541;refine pV 10 86 31 2047 ?_;refine pV 11 87 31 4095 ?_;refine pV 12 88 31 8191 ?_;refine pV 13 89 31 16383 ?_;refine pV 14 90 31 32767 ?_;refine pV 15 91 31 65535 ?_;refine pV 17 93 31 196607 ?_;refine pV 21 97 31 2293759 ?_;refine pV 23 99 31 10682367 ?_;refine pV 24 100 31 27459583 ?_;refine tV 16 92 31 27525119 rfl zq540 ?_;refine pV 18 94 31 27787263 ?_;refine pV 19 95 31 28311551 ?_;refine tV 20 96 31 29360127 rfl zq540 ?_;refine tV 22 98 31 33554431 rfl zq540 ?_;refine pV 25 101 31 67108863 ?_;refine pV 26 102 31 134217727 ?_;refine tV 27 103 31 268435455 rfl zq540 ?_;refine pV 28 104 31 536870911 ?_;refine pV 29 105 31 1073741823 ?_;refine pV 30 106 31 2147483647 ?_;refine dE ?_
              try go_wp2
              go_meet
              case rel=>exact ⟨_,(decide (((rd_T58 l0_2 x5_3).f0)≤((rd_T58 l0_2 (ji49)).f0))),(by first | rfl|(simp;done)|(simp only [← hji49] <;> (first | rfl | simp))|(simp [*];done)),H',⟨zq130⟩,⟨zq353⟩,⟨zq354⟩⟩
             rw [if_neg c51] at H;exact absurd H (by simp)
            rw [if_neg c50] at H;exact absurd H (by simp)
           rw [if_neg c48] at H;have c48b0:decide (0 < x5_3)=false:=decide_eq_false c48;clear c48;have H':=aM H;clear H
           try go_wp2
           replace BK199:=bD BK199;replace HB:=aM (below_drew1 HB.out);have p207:0≤(x5_3:Int):=of_decide_eq_true zq34;have q207:x5_3 < (l0_2.length:Int):=of_decide_eq_true zq34;obtain ⟨ad207,e207,hx207_0,hx207_1⟩:=at_T58 HR0_2.out x5_3 p207 q207;have hw207_1:=hx207_1;have hw207_0:=hx207_0;cases e207;replace hx207_0:=hxB HB hx207_0;replace hx207_1:=hxB HB hx207_1;replace p207:=eq_true p207;replace q207:=eq_true q207
           refine start_ (n:=31) (S:=fun w'=>w'.cell? ⟨gb199,0,none⟩=some (.int .i64 a0_0)∧w'.cell? ⟨gb199,1,none⟩=some (.slice A0_1 l0_1.length c0_1)∧w'.cell? ⟨gb199,2,none⟩=some (.slice (some ad207) l0_2.length c0_2)∧w'.cell? ⟨gb199,3,none⟩=some (.int .i64 a0_3)∧w'.cell? (ad207.add ((x5_3).toNat * 2))=some (.int .i64 ((rd_T58 l0_2 x5_3).f0))∧w'.cell? ⟨(ad207.add ((x5_3).toNat * 2)).block,(ad207.add ((x5_3).toNat * 2)).off + 1,none⟩=some (.string ((rd_T58 l0_2 x5_3).f1))) (ds:=[]) (bA 31 0) (by kernel_rfl) rfl rfl (k4_ BK199 ⟨(hxB HB hw207_0:_),(hxB HB hw207_1:_)⟩) (fun hHeld=>?_);refine with_tabW spec_StoreOk.tab12 spec_StoreOk.bits12 (fun HT_ HW_=>?_)
           generalize wr.drew=w53 at BK199 HB hx207_0 hx207_1 hHeld ⊢;refine pV 0 76 31 1 ?_;refine pV 2 78 31 5 ?_;refine pV 6 82 31 69 ?_;refine tV 1 77 31 71 rfl zq516 ?_;refine pV 3 79 31 79 ?_;refine pV 4 80 31 95 ?_;refine tV 5 81 31 127 rfl zq516 ?_;refine tV 7 83 31 255 rfl zq516 ?_;refine pV 8 84 31 511 ?_;refine oE 9 85 31 1023 rfl (fun K hK=>?_);refine goes_ Try.func49 (by kernel_rfl) rfl #[.int .i64 ((rd_T58 l0_2 x5_3).f0),.int .i64 1,.int .i64 (wrap64 (a0_3 - 1))] (by rfl) rfl rfl zq6 ?_
           with_reducible refine (spec_l1In.calls ((rd_T58 l0_2 x5_3).f0) 1 (wrap64 (a0_3 - 1)) true _ A46.out).mono ?_
           rintro e w' ⟨rfl,⟨nd,rfl⟩⟩;refine ⟨_,rfl,?_⟩;refine hK.out _ _ (k4_ BK199 ⟨(hxB HB hw207_0:_),(hxB HB hw207_1:_)⟩) (fun hHeld=>?_);clear hK K;refine norm_ (a':=?_) ?_ ?_;rotate_left;exact zq541;refine pV 10 86 31 2047 ?_;refine pV 11 87 31 4095 ?_;refine pV 12 88 31 8191 ?_;refine pV 13 89 31 16383 ?_;refine pV 14 90 31 32767 ?_;refine pU 15 91 31 65535 ?_;refine pU 16 92 31 131071 ?_;refine pU 17 93 31 262143 ?_;refine pU 18 94 31 524287 ?_;refine pU 19 95 31 1048575 ?_;refine pU 20 96 31 2097151 ?_;refine pU 21 97 31 4194303 ?_;refine pU 22 98 31 8388607 ?_;refine pU 23 99 31 16777215 ?_;refine pU 24 100 31 33554431 ?_;refine pU 25 101 31 67108863 ?_;refine pU 26 102 31 134217727 ?_;refine pU 27 103 31 268435455 ?_;refine pU 28 104 31 536870911 ?_;refine pV 29 105 31 1073741823 ?_;refine pV 30 106 31 2147483647 ?_;refine dE ?_
           try go_wp2
           go_meet
           case rel=>exact ⟨_,(false),zq19,H',⟨zq130⟩,⟨zq353⟩,⟨zq354⟩⟩
          replace c47:=Bool.eq_false_iff.mpr c47;subst c47;rw [if_neg (show ¬ (false=true) by decide)] at H;have H':=aM H;clear H
          try go_wp2
          replace BK199:=bD BK199;replace HB:=aM (below_drew1 HB.out);have p207:0≤(x5_3:Int):=of_decide_eq_true zq34;have q207:x5_3 < (l0_2.length:Int):=of_decide_eq_true zq34;obtain ⟨ad207,e207,hx207_0,hx207_1⟩:=at_T58 HR0_2.out x5_3 p207 q207;have hw207_1:=hx207_1;have hw207_0:=hx207_0;cases e207;replace hx207_0:=hxB HB hx207_0;replace hx207_1:=hxB HB hx207_1;replace p207:=eq_true p207;replace q207:=eq_true q207
          refine start_ (n:=31) (S:=fun w'=>w'.cell? ⟨gb199,0,none⟩=some (.int .i64 a0_0)∧w'.cell? ⟨gb199,1,none⟩=some (.slice A0_1 l0_1.length c0_1)∧w'.cell? ⟨gb199,2,none⟩=some (.slice (some ad207) l0_2.length c0_2)∧w'.cell? ⟨gb199,3,none⟩=some (.int .i64 a0_3)∧w'.cell? (ad207.add ((x5_3).toNat * 2))=some (.int .i64 ((rd_T58 l0_2 x5_3).f0))∧w'.cell? ⟨(ad207.add ((x5_3).toNat * 2)).block,(ad207.add ((x5_3).toNat * 2)).off + 1,none⟩=some (.string ((rd_T58 l0_2 x5_3).f1))) (ds:=[]) (bA 31 0) (by kernel_rfl) rfl rfl (k4_ BK199 ⟨(hxB HB hw207_0:_),(hxB HB hw207_1:_)⟩) (fun hHeld=>?_);refine with_tabW spec_StoreOk.tab12 spec_StoreOk.bits12 (fun HT_ HW_=>?_)
          generalize wr.drew=w54 at BK199 HB hx207_0 hx207_1 hHeld ⊢;refine pV 0 76 31 1 ?_;refine pV 2 78 31 5 ?_;refine pV 6 82 31 69 ?_;refine tV 1 77 31 71 rfl zq516 ?_;refine pV 3 79 31 79 ?_;refine pV 4 80 31 95 ?_;refine tV 5 81 31 127 rfl zq516 ?_;refine tV 7 83 31 255 rfl zq516 ?_;refine pV 8 84 31 511 ?_;refine oE 9 85 31 1023 rfl (fun K hK=>?_);refine goes_ Try.func49 (by kernel_rfl) rfl #[.int .i64 ((rd_T58 l0_2 x5_3).f0),.int .i64 1,.int .i64 (wrap64 (a0_3 - 1))] (by rfl) rfl rfl zq6 ?_
          with_reducible refine (spec_l1In.calls ((rd_T58 l0_2 x5_3).f0) 1 (wrap64 (a0_3 - 1)) false _ A46.out).mono ?_
          rintro e w' ⟨rfl,⟨nd,rfl⟩⟩;refine ⟨_,rfl,?_⟩;refine hK.out _ _ (k4_ BK199 ⟨(hxB HB hw207_0:_),(hxB HB hw207_1:_)⟩) (fun hHeld=>?_);clear hK K;refine norm_ (a':=?_) ?_ ?_;rotate_left;exact zq541;refine pV 10 86 31 2047 ?_;refine pV 11 87 31 4095 ?_;refine pU 12 88 31 8191 ?_;refine pU 13 89 31 16383 ?_;refine pU 14 90 31 32767 ?_;refine pU 15 91 31 65535 ?_;refine pU 16 92 31 131071 ?_;refine pU 17 93 31 262143 ?_;refine pU 18 94 31 524287 ?_;refine pU 19 95 31 1048575 ?_;refine pU 20 96 31 2097151 ?_;refine pU 21 97 31 4194303 ?_;refine pU 22 98 31 8388607 ?_;refine pU 23 99 31 16777215 ?_;refine pU 24 100 31 33554431 ?_;refine pU 25 101 31 67108863 ?_;refine pU 26 102 31 134217727 ?_;refine pU 27 103 31 268435455 ?_;refine pU 28 104 31 536870911 ?_;refine pU 29 105 31 1073741823 ?_;refine pV 30 106 31 2147483647 ?_;refine dE ?_
          try go_wp2
          go_meet
          case rel=>exact ⟨_,(true),zq19,H',⟨zq130⟩,⟨zq353⟩,⟨zq354⟩⟩
         rw [if_neg c45] at H;exact absurd H (by simp)
        case rest =>
         clear HC43;obtain ⟨kq,x106_42,rfl,HA,HJ42,BK199,HB⟩:=hcut
         cases kq with
         | zero=>exact absurd HA.out (by simp [spec_StoreOk.j4])
         | succ kj42 =>
          have H:=HA.out;clear HA;simp only [spec_StoreOk.j4] at H;by_cases c55:x106_42=true
          ·
           subst c55;rw [if_pos rfl] at H;obtain rfl:=Option.some.inj H;go_wp2;go_ret;exact ⟨zq24,zq354⟩
          replace c55:=Bool.eq_false_iff.mpr c55;subst c55;rw [if_neg (show ¬ (false=true) by decide)] at H;have H':=aM H;clear H;go_wp2
          go_roundg kj42
          case measure=>have:=HJ1.out;have:=HK2.out;have:=HK3.out;have:=HJ42.out;omega
          case rel=>exact ⟨(wrap64 (x5_3 + 1)),zq19,H',⟨zq131⟩,⟨zq353⟩,⟨zq354⟩⟩
       rw [if_neg c42] at H;have c42b0:=decide_eq_false c42;clear c42;obtain rfl:=Option.some.inj H;have hcz56:=cells4_ (w:=wr) BK199;go_wp2;go_ret;exact ⟨zq24,zq354⟩
end Go.Proofs.Ytldpdaifajjaeaa.QFnChunked
