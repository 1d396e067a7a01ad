/- Written by wip/myprint.py of this repo (the kit's print, with additions of this session). -/
import Derived.Test.YtldpdaifajjaeaaQFnChunkedx12
set_option maxRecDepth 100000
namespace Go.Proofs.Ytldpdaifajjaeaa.QFnChunked
set_option maxHeartbeats 8000000
set_option maxRecDepth 100000
open Go.RowKit Go.Proofs.YtldpdaifajjaeaaW.PrintWords Go.Proofs.YtldpdaifajjaeaaW.PrintLast Go.Proofs.YtldpdaifajjaeaaW.PrintMore
attribute [local go_sem] max2_int min2_int max_two min_two max_three min_three max_four min_four
set_option linter.unusedVariables false
set_option linter.unusedSimpArgs false
def spec_l1Dec.l0:Nat→Int→ByteArray→Option (ByteArray)
 | 0,_,_=>none
 | k + 1,x0,x3=>if x0 > 0 then ((some (([(wrap64 (48 + (Int.tmod x0 10))) % 256]:List Int):List Int)).bind fun y475=>(if (strOfNums y475).size + x3.size≤9223372036854775807 then (spec_l1Dec.l0 k (wrap64 (Int.tdiv x0 10)) ((strOfNums y475) ++ x3)) else (none))) else (some x3)
def spec_l1Dec.f (k:Nat) (a0:Int):Option (ByteArray):=if a0=0 then (some (⟨#[48]⟩:ByteArray)) else (spec_l1Dec.l0 k a0 (⟨#[]⟩:ByteArray))
theorem spec_l1Dec.mono_l:∀ k,(∀ y0 y1,LeO (spec_l1Dec.l0 k y0 y1) (spec_l1Dec.l0 (k + 1) y0 y1))
 | 0=>fun _ _ r h=>by simp [spec_l1Dec.l0] at h
 | k + 1=>by
  have ih0:=spec_l1Dec.mono_l k
  ·
   intro y0 y1;unfold spec_l1Dec.l0
   with_reducible repeat' first | apply ih0 | exact LeO.refl _ | exact LeO.none _ | refine LeO.ite ?_ ?_ | refine LeO.bind ?_ (fun _=>?_)
theorem spec_l1Dec.mono:∀ a0 k,LeO (spec_l1Dec.f k a0) (spec_l1Dec.f (k + 1) a0):=by
 intro a0 k;have ih0:=spec_l1Dec.mono_l k;unfold spec_l1Dec.f
 with_reducible repeat' first | apply ih0 | exact LeO.refl _ | exact LeO.none _ | refine LeO.ite ?_ ?_ | refine LeO.bind ?_ (fun _=>?_)
theorem spec_l1Dec.calls (k:Nat) (a0:Int) (r:ByteArray) (w:World) (h:spec_l1Dec.f k a0=some r) :
  Calls Try.prog 27 #[.int .i64 a0] w fun e w'=>e = .returned (.string r)∧Below w.heap.size w w':=by
 have HB:=aM (Below.refl w.heap.size w);unfold spec_l1Dec.f at h;have H:=h;clear h;by_cases c2:a0=0
 ·
  rw [if_pos c2] at H;have c2b0:(a0 == 0)=true:=beq_iff_eq.mpr c2;have c2b1:(a0 != 0)=false:=bne_eq_false_iff_eq.mpr c2;clear c2;obtain rfl:=Option.some.inj H;go_enter Try.func27,Try.ntmps27;go_wp2;go_ret;exact ⟨zq24,zq3⟩
 rw [if_neg c2] at H;have c2b0:(a0 == 0)=false:=beq_eq_false_iff_ne.mpr c2;have c2b1:(a0 != 0)=true:=bne_iff_ne.mpr c2;have H':=aM H;clear H;go_enter Try.func27,Try.ntmps27;go_wp2
 go_loopg [0,3] k (fun kq v0 v3 w'=>∃ (x0_1:Int) (x3_1:ByteArray),v0 = .int .i64 x0_1∧v3 = .string x3_1∧Aside0 (spec_l1Dec.l0 kq x0_1 x3_1=some r)∧Aside0 (kq≤k)∧Aside0 (Below w.heap.size w w'))
 case atStart=>exact ⟨(a0),((⟨#[]⟩:ByteArray)),zq19,zq19,H',⟨Nat.le_refl _⟩,⟨zq3⟩⟩
 case round =>
  clear H';(try clear c2);(try clear c2b0);(try clear c2b1);obtain ⟨x0_1,x3_1,rfl,rfl,HA,HK1,HB⟩:=hrel
  cases gk with
  | zero=>exact absurd HA.out (by simp [spec_l1Dec.l0])
  | succ k1 =>
   have H:=HA.out;clear HA;simp only [spec_l1Dec.l0] at H;by_cases c3:x0_1 > 0
   ·
    rw [if_pos c3] at H;have c3b0:decide (0 < x0_1)=true:=decide_eq_true c3;clear c3;obtain ⟨y475,hy475⟩:∃ y_:List Int,y_=(([(wrap64 (48 + (Int.tmod x0_1 10))) % 256]:List Int)):=⟨_,rfl⟩;have hy_:=hy475;replace H:(if (strOfNums y475).size + x3_1.size≤9223372036854775807 then (spec_l1Dec.l0 k1 (wrap64 (Int.tdiv x0_1 10)) ((strOfNums y475) ++ x3_1)) else (none))=some r:=hyE;clear hy_;have Ny475:=aM hy475;clear hy475;by_cases c4:(strOfNums y475).size + x3_1.size≤9223372036854775807
    ·
     rw [if_pos c4] at H;have c4b0:=eq_true c4;have c4b1:=decide_eq_true c4
     try have c4b2:(9223372036854775807 < (strOfNums y475).size + x3_1.size)=False:=eq_false (Nat.not_lt.2 c4)
     have H':=aM H;clear H
     go_wp2_with (first|((with_reducible refine gD 12 rfl ?_);refine Kd.R_lit (Kd.int .u8) _ 5 ?hg (N:=12) ?hd (xs:=([(wrap64 (48 + (Int.tmod x0_1 10))) % 256]:List Int)) (inner:=[.int .u8 ((wrap64 (48 + (Int.tmod x0_1 10))) % 256)]) (ok:=fun _=>True) (okp:=fun _=>True) ?hr ?hp (fun _ hk=>hk) trivial (Below.refl _ _) (Nat.le_refl _) (by simp) ?_;(case hd=>rfl);(case hg=>rfl);(case hr=>exact zq2);(case hp=>exact (Reps.one (show Kd.M (Kd.int .u8) _ _ _ ((wrap64 (48 + (Int.tmod x0_1 10))) % 256) [.int .u8 ((wrap64 (48 + (Int.tmod x0_1 10))) % 256)] from rfl) (Reps.none _ _)));intro v476 w5 ho6 hb hg_ hnew_;clear hg_ hnew_;(first | rw [← Ny475.out] at ho6|(simp only [Int.reduceToNat] at ho6;rw [← Ny475.out] at ho6));have HO477:=aM (Kd.R_lower ho6 (below_size zq3));replace HB:=sB zq3 hb;clear hb ho6;have hcv7:=own_string (P:=Try.prog) Try.underlying22 Try.underlying5 Try.underlying9 (Kd.own_of_R HO477.out)))
     go_roundg k1
     case measure=>have:=HK1.out;omega
     case rel=>exact ⟨(wrap64 (Int.tdiv x0_1 10)),((strOfNums y475) ++ x3_1),zq19,zq19,H',⟨zq43⟩,⟨zq3⟩⟩
    exact zq513
   rw [if_neg c3] at H;have c3b0:decide (0 < x0_1)=false:=decide_eq_false c3;clear c3;obtain rfl:=Option.some.inj H;go_wp2;go_ret;exact ⟨zq24,zq3⟩
mutual
def spec_DrawKeep.j1:Nat→List Int→Int→Int→List (S56)→List (S58)→Int→Option (Int×(List (S56))×(List (S58))×Int×ByteArray)
 | 0,_,_,_,_,_,_=>none
 | k + 1,x482000,x482001,x492000,x492001,x492002,x492003=>(spec_l1Rd_data.f x482000 x482001).bind fun bt504=>(some (x492000,x492001,x492002,x492003,bt504.1))
def spec_DrawKeep.l0:Nat→Int→List Int→Int→Int→List (S56)→List (S58)→Int→Option (Int×(List (S56))×(List (S58))×Int×ByteArray)
 | 0,_,_,_,_,_,_,_=>none
 | k + 1,x6,x482000,x482001,x492000,x492001,x492002,x492003=>if x6 < 60 then ((spec_l1Dec.f k x6).bind fun t494=>(if 4 + t494.size≤9223372036854775807 then ((spec_Keep.f k x492000 x492001 x492002 x492003 ((⟨#[98,108,111,98]⟩:ByteArray) ++ t494)).bind fun bt495=>(spec_DrawKeep.l0 k (wrap64 (x6 + 1)) x482000 x482001 bt495.1 bt495.2.1 bt495.2.2.1 bt495.2.2.2.1)) else (none))) else (spec_DrawKeep.j1 k x482000 x482001 x492000 x492001 x492002 x492003)
end
def spec_DrawKeep.f (k:Nat) (l0:List Int):Option (Int×(List (S56))×(List (S58))×Int×ByteArray):=(spec_l1Open.f l0).bind fun bt479=>((spec_l1Rd_store.f k bt479.1 bt479.2).bind fun bt482=>((spec_l1Rd_once.f bt479.1 bt482.2.2.2.2 40).bind fun bt492=>(if bt492.1=true then (spec_DrawKeep.l0 k 0 bt479.1 bt492.2 1000 ([]:List (S56)) ([]:List (S58)) 1) else (spec_DrawKeep.j1 k bt479.1 bt492.2 bt482.1 bt482.2.1 bt482.2.2.1 bt482.2.2.2.1))))
theorem spec_DrawKeep.mono_l:∀ k,(∀ y0 y1 y2 y3 y4 y5,LeO (spec_DrawKeep.j1 k y0 y1 y2 y3 y4 y5) (spec_DrawKeep.j1 (k + 1) y0 y1 y2 y3 y4 y5))∧(∀ y0 y1 y2 y3 y4 y5 y6,LeO (spec_DrawKeep.l0 k y0 y1 y2 y3 y4 y5 y6) (spec_DrawKeep.l0 (k + 1) y0 y1 y2 y3 y4 y5 y6))
 | 0=>⟨fun _ _ _ _ _ _ r h=>by simp [spec_DrawKeep.j1] at h,fun _ _ _ _ _ _ _ r h=>by simp [spec_DrawKeep.l0] at h⟩
 | k + 1=>by
  obtain ⟨ih0,ih1⟩:=spec_DrawKeep.mono_l k;refine ⟨?_,?_⟩ <;> (intros;first | unfold spec_DrawKeep.j1 | unfold spec_DrawKeep.l0)
  all_goals with_reducible repeat' first | apply ih0 | apply ih1 | apply spec_Keep.mono | apply spec_l1Dec.mono | apply spec_l1Rd_store.mono | exact LeO.refl _ | exact LeO.none _ | refine LeO.ite ?_ ?_ | refine LeO.bind ?_ (fun _=>?_)
theorem spec_DrawKeep.mono:∀ a0 k,LeO (spec_DrawKeep.f k a0) (spec_DrawKeep.f (k + 1) a0):=by
 intro a0 k;obtain ⟨ih0,ih1⟩:=spec_DrawKeep.mono_l k;unfold spec_DrawKeep.f
 with_reducible repeat' first | apply ih0 | apply ih1 | apply spec_Keep.mono | apply spec_l1Dec.mono | apply spec_l1Rd_store.mono | exact LeO.refl _ | exact LeO.none _ | refine LeO.ite ?_ ?_ | refine LeO.bind ?_ (fun _=>?_)
def spec_DrawKeep.T8:Bool×List (List Nat×List Nat):=(true,[([],[]),([],[]),([1],[1]),([2],[2]),([0,3,2],[0,3]),([4],[4]),([5],[5]),([5],[5]),([6,4,0,1,2,3,4,5,6],[6])])
def spec_DrawKeep.B8:List Nat:=[0,0,2,6,15,31,63,63,127]
theorem spec_DrawKeep.tab8:rtab .any (opsOf Try.f6 8)=spec_DrawKeep.T8:=by kernel_rfl
theorem spec_DrawKeep.bits8:waitsOk spec_DrawKeep.T8.2 spec_DrawKeep.B8=true:=by kernel_rfl
theorem spec_DrawKeep.calls (k:Nat) (A0:Option Addr) (c0:Nat) (l0:List Int) (r1:Int) (r2:List (S56)) (r3:List (S58)) (r4:Int) (r5:ByteArray) (w:World) (hr0:Kd.C (Kd.int .u8) w A0 l0.length l0) (hc0:l0.length≤c0) (h:spec_DrawKeep.f k l0=some (r1,r2,r3,r4,r5)) :
  Calls Try.prog 6 #[.slice A0 l0.length c0] w fun e w'=>∃ v1_ v2_:Value,e = .returned (.tuple #[.agg #[.int .i64 r1,v1_,v2_,.int .i64 r4],.string r5])∧Kd.R k56 56 w' w.heap.size (fun _=>True) v1_ r2∧Kd.R k58 58 w' w.heap.size (fun _=>True) v2_ r3∧Below w.heap.size w w':=by
 have hu27:=Try.underlying27;have HR0:=aM hr0;have HC0:=aM hc0;clear hr0 hc0;have HB:=aM (Below.refl w.heap.size w);unfold spec_DrawKeep.f at h;have H:=h;clear h;replace H:=Option.bind_eq_some_iff.mp H;obtain ⟨⟨t479,t480⟩,A20,H⟩:=H;(try dsimp only at H);have A2:=aM A20;clear A20;replace H:=Option.bind_eq_some_iff.mp H;obtain ⟨⟨t482,t483,t486,t489,t490⟩,A30,H⟩:=H;(try dsimp only at H);have A3:=aM A30;clear A30;replace H:=Option.bind_eq_some_iff.mp H;obtain ⟨⟨t492,t493⟩,A40,H⟩:=H;(try dsimp only at H);have A4:=aM A40;clear A40;have HC5:=aM H;clear H;go_enter Try.func6,Try.ntmps6
 go_upto_if 12 with (first|((with_reducible refine gD 2 rfl ?_);refine bE 2 #[.int .i64 0,.slice none 0 0,.slice none 0 0,.int .i64 0] 27 ?_;intro gb478 hg w6 hbox hb;have BK478:=aM hbox;have GW478:=aM (zq402:w.heap.size≤gb478);have GE478:=GW478;replace HB:=sB zq3 hb;clear hb hbox hg)|((with_reducible refine gC 24 rfl ?_);refine gL 8 Try.func24 #[.slice A0 l0.length c0] ?_;(with_reducible refine (spec_l1Open.calls _ _ l0 t479 t480 w _ ?side1 ?_ ?_ A2.out).mono ?_);(case side1=>repeat (first|(with_reducible first | exact HB.out | apply below_alloc | apply pw_below_drewN | apply below_drew1 | refine below_set ?_ GE478.out)|exact HB.out));exact HR0.out;exact HC0.out;rintro e w7 ⟨g481,rfl,hi,hb,hb2⟩;refine ⟨_,rfl,?_⟩;replace HB:=aM hb;have HI481:=aM hi;have NB481_478:=aM (IsS72.ne_blk hi (blk_below (g:=gb478) (o:=.cells #[.int .i64 0,.slice none 0 0,.slice none 0 0,.int .i64 0] 27 (0,0)) zq81 hb2) (by decide));have NB478_481:=aM (Ne.symm (IsS72.ne_blk hi (blk_below (g:=gb478) (o:=.cells #[.int .i64 0,.slice none 0 0,.slice none 0 0,.int .i64 0] 27 (0,0)) zq81 hb2) (by decide)));replace BK478:=aM (blk_below (g:=gb478) (o:=.cells #[.int .i64 0,.slice none 0 0,.slice none 0 0,.int .i64 0] 27 (0,0)) zq81 hb2);clear hb;(try clear hb2);(try clear hi))|((with_reducible refine gC 25 rfl ?_);refine gL 10 Try.func25 #[.pointer (some ⟨g481,0,none⟩)] ?_;(with_reducible refine (spec_l1Rd_store.calls k g481 t479 t480 t482 t483 t486 t489 t490 w _ ?_ ?_ A3.out).mono ?_);exact zq82;exact zq83;rintro e w8 ⟨v484,v487,rfl,ho0,ho1,hi,hb,hk⟩;refine ⟨_,rfl,?_⟩;replace BK478:=aM (KeepBut.blk hk (g':=gb478) (o:=.cells #[.int .i64 0,.slice none 0 0,.slice none 0 0,.int .i64 0] 27 (0,0)) zq81 NB478_481.out (by simp));have HO485:=aM (Kd.R_lower ho0 (below_size zq83));have HO488:=aM (Kd.R_lower ho1 (below_size zq83));replace HB:=aM hb;replace HI481:=aM hi;clear hb;(try clear hk);(try clear ho0);(try clear ho1))|((with_reducible refine gD 5 rfl ?_);refine bE 5 #[.int .i64 0,.slice none 0 0,.slice none 0 0,.int .i64 0] 27 ?_;intro gb491 hg w9 hbox hb;replace HO485:=rG HO485 hb;replace HO488:=rG HO488 hb;have BK491:=aM hbox;have GW491:=aM (by rw [hg];exact (below_size zq83):w.heap.size≤gb491);have GE491:=GW491;replace HB:=sB zq83 hb;have NB478_491:=aM (by rw [hg];exact Nat.ne_of_lt (blk_lt (g:=gb478) (o:=.cells #[.int .i64 0,.slice none 0 0,.slice none 0 0,.int .i64 0] 27 (0,0)) zq81):gb478≠gb491);have NB491_478:=aM (by rw [hg];exact Nat.ne_of_gt (blk_lt (g:=gb478) (o:=.cells #[.int .i64 0,.slice none 0 0,.slice none 0 0,.int .i64 0] 27 (0,0)) zq81):gb491≠gb478);replace BK478:=bG BK478 hb;have NB481_491:=aM (by rw [hg];exact Nat.ne_of_lt (IsS72.lt (show IsS72 w _ g481 t479 t490 from by repeat (first|(with_reducible first | exact HI481.out | apply IsS72.alloc | apply IsS72.drewN | apply IsS72.drew | apply IsS72.set_1 | refine IsS72.far ?_ NB481_478.out _)|exact HI481.out))):g481≠gb491);have NB491_481:=aM (by rw [hg];exact Nat.ne_of_gt (IsS72.lt (show IsS72 w _ g481 t479 t490 from by repeat (first|(with_reducible first | exact HI481.out | apply IsS72.alloc | apply IsS72.drewN | apply IsS72.drew | apply IsS72.set_1 | refine IsS72.far ?_ NB481_478.out _)|exact HI481.out))):gb491≠g481);replace HI481:=aM (IsS72.below zq82 hb);clear hb hbox hg;have hnb10:=NB491_478.out;have hnc10:=NB478_491.out;have hnb11:=NB491_481.out;have hnc11:=NB481_491.out;have hcz12:=cells4_ (w:=w9) BK491;obtain ⟨Ao13,co13,eo13⟩:=Kd.R_slice HO485.out;subst eo13;obtain ⟨Ao14,co14,eo14⟩:=Kd.R_slice HO488.out;subst eo14)|((with_reducible refine gC 26 rfl ?_);refine gL 12 Try.func26 #[.pointer (some ⟨g481,0,none⟩),.int .i64 40] ?_;(with_reducible refine (spec_l1Rd_once.calls g481 t479 t490 40 t492 t493 w _ ?_ ?_ A4.out).mono ?_);exact zq86;exact zq87;rintro e w15 ⟨rfl,hi,hb,hk⟩;refine ⟨_,rfl,?_⟩;replace BK478:=aM (KeepBut.blk hk (g':=gb478) (o:=.cells #[.int .i64 0,.slice none 0 0,.slice none 0 0,.int .i64 0] 27 (0,0)) zq88 NB478_481.out (by simp));replace HO485:=aM (Kd.R_mono (Kd.R_keep (IsS72.apart (show IsS72 w _ g481 t479 t490 from by repeat (first|(with_reducible first | exact HI481.out | apply IsS72.alloc | apply IsS72.drewN | apply IsS72.drew | apply IsS72.set_1 | refine IsS72.far ?_ NB481_478.out _ | refine IsS72.far ?_ NB481_491.out _)|exact HI481.out)) (by refine dR ?_;exact (Kd.R_mono (far4 gb491 (Kd.R_types HO485.out BK491.out (by decide)) (fun _ hk=>hk.2) (.int .i64 t482) (.slice Ao13 t483.length co13) (.slice Ao14 t486.length co14) (.int .i64 t489)) (fun _ h_=>h_.1))) (by decide)) hk (fun _ h=>h.2)) (fun _ h=>h.1));replace HO488:=aM (Kd.R_mono (Kd.R_keep (IsS72.apart (show IsS72 w _ g481 t479 t490 from by repeat (first|(with_reducible first | exact HI481.out | apply IsS72.alloc | apply IsS72.drewN | apply IsS72.drew | apply IsS72.set_1 | refine IsS72.far ?_ NB481_478.out _ | refine IsS72.far ?_ NB481_491.out _)|exact HI481.out)) (by refine dR ?_;exact (Kd.R_mono (far4 gb491 (Kd.R_types HO488.out BK491.out (by decide)) (fun _ hk=>hk.2) (.int .i64 t482) (.slice Ao13 t483.length co13) (.slice Ao14 t486.length co14) (.int .i64 t489)) (fun _ h_=>h_.1))) (by decide)) hk (fun _ h=>h.2)) (fun _ h=>h.1));replace BK491:=aM (KeepBut.blk hk (g':=gb491) (o:=.cells #[.int .i64 t482,.slice Ao13 t483.length co13,.slice Ao14 t486.length co14,.int .i64 t489] 27 (0,0)) (by refine dW ?_;refine blk_put (cs:=#[.int .i64 t482,.slice Ao13 t483.length co13,.slice Ao14 t486.length co14,.int .i64 0]) ?_ 3 _ rfl;refine dW ?_;refine blk_put (cs:=#[.int .i64 t482,.slice Ao13 t483.length co13,.slice none 0 0,.int .i64 0]) ?_ 2 _ rfl;refine dW ?_;refine blk_put (cs:=#[.int .i64 t482,.slice none 0 0,.slice none 0 0,.int .i64 0]) ?_ 1 _ rfl;refine dW ?_;refine blk_put (cs:=#[.int .i64 0,.slice none 0 0,.slice none 0 0,.int .i64 0]) ?_ 0 _ rfl;refine dW ?_;exact BK491.out) NB491_481.out (by simp));replace HB:=aM hb;replace HI481:=aM hi;clear hb;))
 (try simp only [Act.put,List.setIfInBounds_toArray,List.set_cons_zero,List.set_cons_succ])
 go_cut [] (fun wc=>∃ (kq:Nat) (x492000_4:Int) (x492001_4:List (S56)) (x492002_4:List (S58)) (x492003_4:Int) (u492001:Value) (u492002:Value),Aside0 (spec_DrawKeep.j1 kq t479 t493 x492000_4 x492001_4 x492002_4 x492003_4=some (r1,r2,r3,r4,r5))∧Aside0 (kq≤k)∧Aside0 (Kd.R k56 56 wc w.heap.size (fun _=>True) u492001 x492001_4)∧Aside0 (Kd.R k58 58 wc w.heap.size (fun _=>True) u492002 x492002_4)∧Aside0 (wc.heap[gb478]?=some (.cells #[.int .i64 0,(.slice none 0 0),(.slice none 0 0),.int .i64 0] 27 (0,0)))∧Aside0 (wc.heap[gb491]?=some (.cells #[.int .i64 x492000_4,u492001,u492002,.int .i64 x492003_4] 27 (0,0)))∧Aside0 (IsS72 w wc g481 t479 t493)∧Aside0 (Below w.heap.size w wc))
 case first =>
  have H:=HC5.out;clear HC5;by_cases c16:t492=true
  ·
   subst c16;rw [if_pos rfl] at H;have H':=aM H;clear H;have hnb17:=NB491_478.out;have hnc17:=NB478_491.out;have hnb18:=NB491_481.out;have hnc18:=NB481_491.out;have hcz19:=cells4_ (w:=w15) BK491;go_wp2
   go_loopg [6] k (fun kq v6 w'=>∃ (x6_1:Int) (x492000_1:Int) (x492001_1:List (S56)) (x492002_1:List (S58)) (x492003_1:Int) (u492001:Value) (u492002:Value),v6 = .int .i64 x6_1∧Aside0 (spec_DrawKeep.l0 kq x6_1 t479 t493 x492000_1 x492001_1 x492002_1 x492003_1=some (r1,r2,r3,r4,r5))∧Aside0 (kq≤k)∧Aside0 (Kd.R k56 56 w' w.heap.size (fun _=>True) u492001 x492001_1)∧Aside0 (Kd.R k58 58 w' w.heap.size (fun _=>True) u492002 x492002_1)∧Aside0 (w'.heap[gb478]?=some (.cells #[.int .i64 0,(.slice none 0 0),(.slice none 0 0),.int .i64 0] 27 (0,0)))∧Aside0 (w'.heap[gb491]?=some (.cells #[.int .i64 x492000_1,u492001,u492002,.int .i64 x492003_1] 27 (0,0)))∧Aside0 (IsS72 w w' g481 t479 t493)∧Aside0 (Below w.heap.size w w'))
   case atStart=>exact ⟨(0),(1000),(([]:List (S56))),(([]:List (S58))),(1),(.slice none 0 0),(.slice none 0 0),zq19,H',⟨Nat.le_refl _⟩,⟨zq29⟩,⟨zq29⟩,⟨zq88⟩,⟨by refine dW ?_;refine blk_put (cs:=#[.int .i64 1000,.slice none 0 0,.slice none 0 0,.int .i64 t489]) ?_ 3 _ rfl;refine dW ?_;refine blk_put (cs:=#[.int .i64 1000,.slice none 0 0,.slice Ao14 t486.length co14,.int .i64 t489]) ?_ 2 _ rfl;refine dW ?_;refine blk_put (cs:=#[.int .i64 1000,.slice Ao13 t483.length co13,.slice Ao14 t486.length co14,.int .i64 t489]) ?_ 1 _ rfl;refine dW ?_;refine blk_put (cs:=#[.int .i64 t482,.slice Ao13 t483.length co13,.slice Ao14 t486.length co14,.int .i64 t489]) ?_ 0 _ rfl;refine dW ?_;exact BK491.out⟩,⟨zq86⟩,⟨zq87⟩⟩
   case round =>
    clear H';(try clear c16);(try clear hcz12);(try clear hcz19);obtain ⟨x6_1,x492000_1,x492001_1,x492002_1,x492003_1,u492001,u492002,rfl,HA,HK1,HO_492001,HO_492002,BK478,BK491,HI481,HB⟩:=hrel
    cases gk with
    | zero=>exact absurd HA.out (by simp [spec_DrawKeep.l0])
    | succ k1 =>
     have H:=HA.out;clear HA;simp only [spec_DrawKeep.l0] at H;by_cases c20:x6_1 < 60
     ·
      rw [if_pos c20] at H;have c20b0:=decide_eq_true c20;clear c20
      (first | rw [c20b0]|(simp only [i64_w,i32_w];rw [c20b0])|skip)
      replace H:=Option.bind_eq_some_iff.mp H;obtain ⟨t494,A210,H⟩:=H;(try dsimp only at H);have A21:=aM A210;clear A210;by_cases c22:4 + t494.size≤9223372036854775807
      ·
       rw [if_pos c22] at H;have c22b0:=eq_true c22;have c22b1:=decide_eq_true c22
       try have c22b2:(9223372036854775807 < 4 + t494.size)=False:=eq_false (Nat.not_lt.2 c22)
       replace H:=Option.bind_eq_some_iff.mp H;obtain ⟨⟨t495,t496,t499,t502,t503⟩,A230,H⟩:=H;(try dsimp only at H);have A23:=aM A230;clear A230;have H':=aM H;clear H
       try go_wp2
       replace HO_492001:=rD HO_492001;replace HO_492002:=rD HO_492002;replace BK478:=bD BK478;replace BK491:=bD BK491;replace HI481:=aM (IsS72.drew HI481.out);replace HB:=aM (below_drew1 HB.out);refine start_ (n:=9) (S:=fun w'=>w'.cell? ⟨gb491,0,none⟩=some (.int .i64 x492000_1)∧w'.cell? ⟨gb491,1,none⟩=some (u492001)∧w'.cell? ⟨gb491,2,none⟩=some (u492002)∧w'.cell? ⟨gb491,3,none⟩=some (.int .i64 x492003_1)) (ds:=[8]) (bA 9 0) (by kernel_rfl) rfl rfl ⟨(blk_cell BK491.out 0).trans rfl,(blk_cell BK491.out 1).trans rfl,(blk_cell BK491.out 2).trans rfl,(blk_cell BK491.out 3).trans rfl⟩ (fun hHeld=>?_);refine with_tabW spec_DrawKeep.tab8 spec_DrawKeep.bits8 (fun HT_ HW_=>?_)
       generalize wr.drew=w24 at HO_492001 HO_492002 BK478 BK491 HI481 HB hHeld ⊢;refine pV 1 20 9 2 ?_;refine tV 0 19 9 3 rfl zq508 ?_;refine oE 2 21 9 7 rfl (fun K hK=>?_);refine goes_ Try.func27 (by kernel_rfl) rfl #[.int .i64 x6_1] (by rfl) rfl rfl zq6 ?_
       with_reducible refine (spec_l1Dec.calls k1 x6_1 t494 _ A21.out).mono ?_
       rintro e w25 ⟨rfl,hb⟩;refine ⟨_,rfl,?_⟩;replace HO_492001:=rG HO_492001 hb;replace HO_492002:=rG HO_492002 hb;replace BK478:=bG BK478 hb;replace BK491:=bG BK491 hb;replace HB:=sB zq87 hb;replace HI481:=aM (IsS72.below zq86 hb);(try clear hb);(try clear hb2);(try clear hk);(try clear hi);obtain ⟨Ao26,co26,eo26⟩:=Kd.R_slice HO_492001.out
       (first | subst eo26|(injection eo26 with f1_ f2_ f3_;have f4_:=f1_.symm;have f5_:=f3_.symm;clear f1_ f2_ f3_;subst f4_;subst f5_))
       obtain ⟨Ao27,co27,eo27⟩:=Kd.R_slice HO_492002.out
       (first | subst eo27|(injection eo27 with f1_ f2_ f3_;have f4_:=f1_.symm;have f5_:=f3_.symm;clear f1_ f2_ f3_;subst f4_;subst f5_))
       refine hK.out _ _ ⟨(blk_cell BK491.out 0).trans rfl,(blk_cell BK491.out 1).trans rfl,(blk_cell BK491.out 2).trans rfl,(blk_cell BK491.out 3).trans rfl⟩ (fun hHeld=>?_);clear hK K;refine norm_ (a':=?_) ?_ ?_;rotate_left
       ·
        show Act.put _ (some 21) _=_
        simp only [Act.put,List.setIfInBounds_toArray,List.set_cons_zero,List.set_cons_succ,i64_w,i32_w]
        rfl
       refine pV 3 22 9 15 ?_;refine oE 4 23 9 31 rfl (fun K hK=>?_);refine goes_ Try.func7 (by kernel_rfl) rfl #[.agg #[.int .i64 x492000_1,.slice Ao26 x492001_1.length co26,.slice Ao27 x492002_1.length co27,.int .i64 x492003_1],.string ((⟨#[98,108,111,98]⟩:ByteArray) ++ t494)] (by rfl) rfl rfl zq6 ?_
       with_reducible refine (spec_Keep.calls k1 x492000_1 _ _ x492001_1 _ _ x492002_1 x492003_1 ((⟨#[98,108,111,98]⟩:ByteArray) ++ t494) t495 t496 t499 t502 t503 _ ?side1 ?side2 ?side3 ?side4 A23.out).mono ?_
       (case side1=>repeat (first | exact (Kd.R_reads' HO_492001.out).2.2|(with_reducible refine Kd.C_alloc ?_ _)|(with_reducible refine Kd.C_drewN ?_ _)|(with_reducible refine Kd.C_drew ?_)))
       (case side2=>exact (Kd.R_reads' HO_492001.out).2.1)
       (case side3=>repeat (first | exact (Kd.R_reads' HO_492002.out).2.2|(with_reducible refine Kd.C_alloc ?_ _)|(with_reducible refine Kd.C_drewN ?_ _)|(with_reducible refine Kd.C_drew ?_)))
       (case side4=>exact (Kd.R_reads' HO_492002.out).2.1)
       rintro e w28 ⟨v497,v500,rfl,ho0,ho1,hb⟩;refine ⟨_,rfl,?_⟩;have HO498:=aM (Kd.R_lower (Kd.R_new' ho0 (Kd.R_lt zq89)) (below_size zq87));replace HO_492001:=aM (Kd.R_elder' zq89 (Kd.R_base ho0) hb);have HO501:=aM (Kd.R_lower (Kd.R_new' ho1 (Kd.R_lt zq90)) (below_size zq87));replace HO_492002:=aM (Kd.R_elder' zq90 (Kd.R_base ho1) hb);replace BK478:=bG BK478 hb;replace BK491:=bG BK491 hb;replace HB:=sB zq87 hb;replace HI481:=aM (IsS72.below zq86 hb);(try clear hb);(try clear hb2);(try clear hk);(try clear hi);(try clear ho0);(try clear ho1);obtain ⟨Ao30,co30,eo30⟩:=Kd.R_slice HO498.out
       (first | subst eo30|(injection eo30 with f1_ f2_ f3_;have f4_:=f1_.symm;have f5_:=f3_.symm;clear f1_ f2_ f3_;subst f4_;subst f5_))
       obtain ⟨Ao32,co32,eo32⟩:=Kd.R_slice HO501.out
       (first | subst eo32|(injection eo32 with f1_ f2_ f3_;have f4_:=f1_.symm;have f5_:=f3_.symm;clear f1_ f2_ f3_;subst f4_;subst f5_))
       refine hK.out _ _ ⟨(blk_cell BK491.out 0).trans rfl,(blk_cell BK491.out 1).trans rfl,(blk_cell BK491.out 2).trans rfl,(blk_cell BK491.out 3).trans rfl⟩ (fun hHeld=>?_);clear hK K;refine norm_ (a':=?_) ?_ ?_;rotate_left
       ·
        show Act.put _ (some 23) _=_
        simp only [Act.put,List.setIfInBounds_toArray,List.set_cons_zero,List.set_cons_succ,i64_w,i32_w]
        rfl
       refine pV 5 18 9 63 ?_;refine pV 6 24 9 127 ?_;refine pV 7 25 9 255 ?_;refine last_ (i:=8) (N:=none) (bA 9 511) rfl rfl (one_of HT_.out (by kernel_rfl)) (by decide) (fun K hK=>?_);have hs29:w28.cell? ⟨gb491,0,none⟩=some (.int .i64 x492000_1):=(blk_cell BK491.out 0).trans rfl;have hfs29:=blk_frozen BK491.out 0;have hns29_0:=NB478_491.out;have hms29_0:=NB491_478.out;have hs31:w28.cell? ⟨gb491,1,none⟩=some (.slice Ao26 x492001_1.length co26):=(blk_cell BK491.out 1).trans rfl;have hfs31:=blk_frozen BK491.out 1;have hns31_0:=NB478_491.out;have hms31_0:=NB491_478.out;have hs33:w28.cell? ⟨gb491,2,none⟩=some (.slice Ao27 x492002_1.length co27):=(blk_cell BK491.out 2).trans rfl;have hfs33:=blk_frozen BK491.out 2;have hns33_0:=NB478_491.out;have hms33_0:=NB491_478.out;have hs34:w28.cell? ⟨gb491,3,none⟩=some (.int .i64 x492003_1):=(blk_cell BK491.out 3).trans rfl;have hfs34:=blk_frozen BK491.out 3;have hns34_0:=NB478_491.out;have hms34_0:=NB491_478.out;refine skip_ (w1:=?_) (by rfl) rfl ?_ ?_;rotate_left
       ·
        go_simp
        rfl
       refine hK.out _ _ ?_;clear hK K;refine dE ?_
       try go_wp2
       go_roundg k1
       case measure=>have:=HK1.out;omega
       case rel=>exact ⟨(wrap64 (x6_1 + 1)),(t495),(t496),(t499),(t502),(.slice Ao30 t496.length co30),(.slice Ao32 t499.length co32),zq19,H',⟨zq43⟩,⟨by refine dR ?_;exact Kd.R_mono (far4 gb491 (Kd.R_types HO498.out BK491.out (by decide)) (fun _ hk=>hk.2) (.int .i64 t495) (.slice Ao30 t496.length co30) (.slice Ao32 t499.length co32) (.int .i64 t502)) (fun _ hk=>trivial)⟩,⟨by refine dR ?_;exact Kd.R_mono (far4 gb491 (Kd.R_types HO501.out BK491.out (by decide)) (fun _ hk=>hk.2) (.int .i64 t495) (.slice Ao30 t496.length co30) (.slice Ao32 t499.length co32) (.int .i64 t502)) (fun _ hk=>trivial)⟩,⟨zq88⟩,⟨by refine dW ?_;refine blk_put (cs:=#[.int .i64 t495,.slice Ao30 t496.length co30,.slice Ao32 t499.length co32,.int .i64 x492003_1]) ?_ 3 _ rfl;refine dW ?_;refine blk_put (cs:=#[.int .i64 t495,.slice Ao30 t496.length co30,.slice Ao27 x492002_1.length co27,.int .i64 x492003_1]) ?_ 2 _ rfl;refine dW ?_;refine blk_put (cs:=#[.int .i64 t495,.slice Ao26 x492001_1.length co26,.slice Ao27 x492002_1.length co27,.int .i64 x492003_1]) ?_ 1 _ rfl;refine dW ?_;refine blk_put (cs:=#[.int .i64 x492000_1,.slice Ao26 x492001_1.length co26,.slice Ao27 x492002_1.length co27,.int .i64 x492003_1]) ?_ 0 _ rfl;refine dW ?_;exact BK491.out⟩,⟨zq86⟩,⟨zq87⟩⟩
      exact zq519
     rw [if_neg c20] at H;have c20b0:=decide_eq_false c20;clear c20
     (first | rw [c20b0]|(simp only [i64_w,i32_w];rw [c20b0])|skip)
     have H':=aM H;clear H;go_wp2
     go_meet
     case rel=>exact ⟨_,(x492000_1),(x492001_1),(x492002_1),(x492003_1),(u492001),(u492002),H',⟨zq61⟩,⟨zq89⟩,⟨zq90⟩,⟨zq81⟩,⟨zq91⟩,⟨zq86⟩,⟨zq87⟩⟩
  replace c16:=Bool.eq_false_iff.mpr c16;subst c16;rw [if_neg (show ¬ (false=true) by decide)] at H;have H':=aM H;clear H;go_wp2
  go_meet
  case rel=>exact ⟨_,(t482),(t483),(t486),(t489),(.slice Ao13 t483.length co13),(.slice Ao14 t486.length co14),H',⟨zq20⟩,⟨zq84⟩,⟨zq85⟩,⟨zq81⟩,⟨zq91⟩,⟨zq86⟩,⟨zq87⟩⟩
 case rest =>
  clear HC5;(try clear hcz12);obtain ⟨kq,x492000_4,x492001_4,x492002_4,x492003_4,u492001,u492002,HA,HJ4,HO_492001,HO_492002,BK478,BK491,HI481,HB⟩:=hcut
  cases kq with
  | zero=>exact absurd HA.out (by simp [spec_DrawKeep.j1])
  | succ kj4 =>
   have H:=HA.out;clear HA;simp only [spec_DrawKeep.j1] at H;replace H:=Option.bind_eq_some_iff.mp H;obtain ⟨⟨t504,t505⟩,A350,H⟩:=H;(try dsimp only at H);have A35:=aM A350;clear A350;simp only [Option.some.injEq,Prod.mk.injEq] at H;obtain ⟨rfl,rfl,rfl,rfl,rfl⟩:=H
   try go_wp2
   replace HO_492001:=rD HO_492001;replace HO_492002:=rD HO_492002;replace BK478:=bD BK478;replace BK491:=bD BK491;replace HI481:=aM (IsS72.drew HI481.out);replace HB:=aM (below_drew1 HB.out);refine start_ (n:=5) (S:=fun w'=>w'.cell? ⟨gb491,0,none⟩=some (.int .i64 x492000_4)∧w'.cell? ⟨gb491,1,none⟩=some (u492001)∧w'.cell? ⟨gb491,2,none⟩=some (u492002)∧w'.cell? ⟨gb491,3,none⟩=some (.int .i64 x492003_4)) (ds:=[]) #[false,false,false,false,false] (by kernel_rfl) rfl rfl ⟨(blk_cell BK491.out 0).trans rfl,(blk_cell BK491.out 1).trans rfl,(blk_cell BK491.out 2).trans rfl,(blk_cell BK491.out 3).trans rfl⟩ (fun hHeld=>?_);generalize wc.drew=w36 at HO_492001 HO_492002 BK478 BK491 HI481 HB hHeld ⊢;refine pure_ (i:=1) (N:=some 27) (v:=?_) (a':=?_) #[false,true,false,false,false] rfl rfl (by kernel_rfl) (fun _ _ _ h=>h) (Or.inl ⟨by rfl,?_⟩) ?_ ?_;rotate_left;exact zq506;rotate_left;exact zq507;refine take_ (i:=0) (N:=some 26) (v:=?_) (a':=?_) #[true,true,false,false,false] rfl rfl (by kernel_rfl) (fun _ _ _ h=>h) (Or.inl ⟨by rfl,?_⟩) hHeld ?_ ?_;rotate_left;exact zq508;rotate_left;exact zq507;refine one_ (i:=2) (N:=some 28) #[true,true,true,false,false] rfl rfl (by kernel_rfl) (by decide) (fun K hK=>?_)
   refine goes_ Try.func28 (by kernel_rfl) rfl #[.pointer (some ⟨g481,0,none⟩)] (by rfl) rfl rfl zq6 ?_
   with_reducible refine (spec_l1Rd_data.calls g481 t479 t493 t504 t505 w _ ?side1 ?side2 A35.out).mono ?_
   (case side1=>exact zq86)
   (case side2=>exact zq87)
   rintro e w37 ⟨rfl,hi,hb,hk⟩;refine ⟨_,rfl,?_⟩;replace HO_492001:=aM (Kd.R_mono (Kd.R_keep (IsS72.apart (show IsS72 w _ g481 t479 t493 from by repeat (first|(with_reducible first | exact HI481.out | apply IsS72.alloc | apply IsS72.drewN | apply IsS72.drew | apply IsS72.set_1 | refine IsS72.far ?_ NB481_478.out _ | refine IsS72.far ?_ NB481_491.out _)|exact HI481.out)) zq89 (by decide)) hk (fun _ h=>h.2)) (fun _ h=>h.1));replace HO_492002:=aM (Kd.R_mono (Kd.R_keep (IsS72.apart (show IsS72 w _ g481 t479 t493 from by repeat (first|(with_reducible first | exact HI481.out | apply IsS72.alloc | apply IsS72.drewN | apply IsS72.drew | apply IsS72.set_1 | refine IsS72.far ?_ NB481_478.out _ | refine IsS72.far ?_ NB481_491.out _)|exact HI481.out)) zq90 (by decide)) hk (fun _ h=>h.2)) (fun _ h=>h.1));replace BK478:=aM (KeepBut.blk hk (g':=gb478) (o:=.cells #[.int .i64 0,.slice none 0 0,.slice none 0 0,.int .i64 0] 27 (0,0)) zq81 NB478_481.out (by simp));replace BK491:=aM (KeepBut.blk hk (g':=gb491) (o:=.cells #[.int .i64 x492000_4,u492001,u492002,.int .i64 x492003_4] 27 (0,0)) zq91 NB491_481.out (by simp));replace HB:=aM hb;replace HI481:=aM hi;(try clear hb);(try clear hb2);(try clear hk);(try clear hi);obtain ⟨Ao39,co39,eo39⟩:=Kd.R_slice HO_492001.out
   (first | subst eo39|(injection eo39 with f1_ f2_ f3_;have f4_:=f1_.symm;have f5_:=f3_.symm;clear f1_ f2_ f3_;subst f4_;subst f5_))
   obtain ⟨Ao41,co41,eo41⟩:=Kd.R_slice HO_492002.out
   (first | subst eo41|(injection eo41 with f1_ f2_ f3_;have f4_:=f1_.symm;have f5_:=f3_.symm;clear f1_ f2_ f3_;subst f4_;subst f5_))
   refine hK.out _ _ ⟨(blk_cell BK491.out 0).trans rfl,(blk_cell BK491.out 1).trans rfl,(blk_cell BK491.out 2).trans rfl,(blk_cell BK491.out 3).trans rfl⟩ (fun hHeld=>?_);clear hK K;refine norm_ (a':=?_) ?_ ?_;rotate_left
   ·
    show Act.put _ (some 28) _=_
    simp only [Act.put,List.setIfInBounds_toArray,List.set_cons_zero,List.set_cons_succ,i64_w,i32_w]
    rfl
   refine one_ (i:=3) (N:=none) #[true,true,true,true,false] rfl rfl (by kernel_rfl) (by decide) (fun K hK=>?_);have hs38:w37.cell? ⟨gb478,0,none⟩=some (.int .i64 0):=(blk_cell BK478.out 0).trans rfl;have hfs38:=blk_frozen BK478.out 0;have hns38_1:=NB491_478.out;have hms38_1:=NB478_491.out;have hs40:w37.cell? ⟨gb478,1,none⟩=some (.slice none 0 0):=(blk_cell BK478.out 1).trans rfl;have hfs40:=blk_frozen BK478.out 1;have hns40_1:=NB491_478.out;have hms40_1:=NB478_491.out;have hs42:w37.cell? ⟨gb478,2,none⟩=some (.slice none 0 0):=(blk_cell BK478.out 2).trans rfl;have hfs42:=blk_frozen BK478.out 2;have hns42_1:=NB491_478.out;have hms42_1:=NB478_491.out;have hs43:w37.cell? ⟨gb478,3,none⟩=some (.int .i64 0):=(blk_cell BK478.out 3).trans rfl;have hfs43:=blk_frozen BK478.out 3;have hns43_1:=NB491_478.out;have hms43_1:=NB478_491.out;refine skip_ (w1:=?_) (by rfl) rfl ?_ ?_;rotate_left
   ·
    go_simp
    rfl
   refine hK.out _ _ ⟨((cell_far (p:=⟨gb478,_,none⟩) NB491_478.out _).trans (((cell_far (p:=⟨gb478,_,none⟩) NB491_478.out _).trans (((cell_far (p:=⟨gb478,_,none⟩) NB491_478.out _).trans (((cell_far (p:=⟨gb478,_,none⟩) NB491_478.out _).trans (hHeld.1)))))))),((cell_far (p:=⟨gb478,_,none⟩) NB491_478.out _).trans (((cell_far (p:=⟨gb478,_,none⟩) NB491_478.out _).trans (((cell_far (p:=⟨gb478,_,none⟩) NB491_478.out _).trans (((cell_far (p:=⟨gb478,_,none⟩) NB491_478.out _).trans (hHeld.2.1)))))))),((cell_far (p:=⟨gb478,_,none⟩) NB491_478.out _).trans (((cell_far (p:=⟨gb478,_,none⟩) NB491_478.out _).trans (((cell_far (p:=⟨gb478,_,none⟩) NB491_478.out _).trans (((cell_far (p:=⟨gb478,_,none⟩) NB491_478.out _).trans (hHeld.2.2.1)))))))),((cell_far (p:=⟨gb478,_,none⟩) NB491_478.out _).trans (((cell_far (p:=⟨gb478,_,none⟩) NB491_478.out _).trans (((cell_far (p:=⟨gb478,_,none⟩) NB491_478.out _).trans (((cell_far (p:=⟨gb478,_,none⟩) NB491_478.out _).trans (hHeld.2.2.2))))))))⟩ (fun hHeld=>?_);clear hK K;refine pure_ (i:=4) (N:=some 3) (v:=?_) (a':=?_) #[true,true,true,true,true] rfl rfl (by kernel_rfl) (fun _ _ _ h=>h) (Or.inl ⟨by rfl,?_⟩) ?_ ?_;rotate_left;exact zq506;rotate_left;exact zq507;refine done_ (by kernel_rfl) ?_
   try go_wp2
   refine bodyPost_ret (results_ct rfl _ _ gb478 27 #[.int .i64 x492000_4,.slice Ao39 x492001_4.length co39,.slice Ao41 x492002_4.length co41,.int .i64 x492003_4] (0,0) _ rfl (by refine dW ?_;refine blk_put (cs:=#[.int .i64 x492000_4,.slice Ao39 x492001_4.length co39,.slice Ao41 x492002_4.length co41,.int .i64 0]) ?_ 3 _ rfl;refine dW ?_;refine blk_put (cs:=#[.int .i64 x492000_4,.slice Ao39 x492001_4.length co39,.slice none 0 0,.int .i64 0]) ?_ 2 _ rfl;refine dW ?_;refine blk_put (cs:=#[.int .i64 x492000_4,.slice none 0 0,.slice none 0 0,.int .i64 0]) ?_ 1 _ rfl;refine dW ?_;refine blk_put (cs:=#[.int .i64 0,.slice none 0 0,.slice none 0 0,.int .i64 0]) ?_ 0 _ rfl;refine dW ?_;exact BK478.out) Try.underlying27 rfl (by kernel_rfl)) rfl ?_
   exact ⟨_,_,zq24,by refine dR ?_;exact Kd.R_mono (far4 gb478 (Kd.R_types HO_492001.out BK478.out (by decide)) (fun _ hk=>hk.2) (.int .i64 x492000_4) (.slice Ao39 x492001_4.length co39) (.slice Ao41 x492002_4.length co41) (.int .i64 x492003_4)) (fun _ hk=>trivial),by refine dR ?_;exact Kd.R_mono (far4 gb478 (Kd.R_types HO_492002.out BK478.out (by decide)) (fun _ hk=>hk.2) (.int .i64 x492000_4) (.slice Ao39 x492001_4.length co39) (.slice Ao41 x492002_4.length co41) (.int .i64 x492003_4)) (fun _ hk=>trivial),zq87⟩
end Go.Proofs.Ytldpdaifajjaeaa.QFnChunked
