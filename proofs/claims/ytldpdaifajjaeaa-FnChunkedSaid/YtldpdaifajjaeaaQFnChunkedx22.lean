/- Written by wip/myprint.py of this repo (the kit's print, with additions of this session). -/
import Derived.Test.YtldpdaifajjaeaaQFnChunkedx6
set_option maxRecDepth 100000
namespace Go.Proofs.Ytldpdaifajjaeaa.QFnChunked
open Go.RowKit Go.Proofs.YtldpdaifajjaeaaW.PrintWords Go.Proofs.YtldpdaifajjaeaaW.PrintLast Go.Proofs.YtldpdaifajjaeaaW.PrintMore
attribute [local go_sem] max2_int min2_int max_two min_two max_three min_three max_four min_four
set_option linter.unusedVariables false
set_option linter.unusedSimpArgs false
def spec_DigestsOf.l0:Nat→List ByteArray→Int→Int→List (S56)→List (S58)→Int→Option (List ByteArray)
 | 0,_,_,_,_,_,_=>none
 | k + 1,x3,x4,x656000,x656001,x656002,x656003=>if x4 < (x656001.length:Int) then (if 0≤x4 then (if x3.length < 8796093022208 then (spec_DigestsOf.l0 k (x3 ++ [(rd_T56 x656001 x4).f0]) (wrap64 (x4 + 1)) x656000 x656001 x656002 x656003) else (none)) else (none)) else (some x3)
def spec_DigestsOf.f (k:Nat) (a0_0:Int) (l0_1:List (S56)) (l0_2:List (S58)) (a0_3:Int):Option (List ByteArray):=(some (([]:List ByteArray):List ByteArray)).bind fun y656=>((spec_StoreOk.f k a0_0 l0_1 l0_2 a0_3).bind fun t659=>(if t659=true then (spec_DigestsOf.l0 k y656 0 a0_0 l0_1 l0_2 a0_3) else (some y656)))
theorem spec_DigestsOf.mono_l:∀ k,(∀ y0 y1 y2 y3 y4 y5,LeO (spec_DigestsOf.l0 k y0 y1 y2 y3 y4 y5) (spec_DigestsOf.l0 (k + 1) y0 y1 y2 y3 y4 y5))
 | 0=>fun _ _ _ _ _ _ r h=>by simp [spec_DigestsOf.l0] at h
 | k + 1=>by
  have ih0:=spec_DigestsOf.mono_l k
  ·
   intro y0 y1 y2 y3 y4 y5;unfold spec_DigestsOf.l0
   with_reducible repeat' first | apply ih0 | apply spec_StoreOk.mono | exact LeO.refl _ | exact LeO.none _ | refine LeO.ite ?_ ?_ | refine LeO.bind ?_ (fun _=>?_)
theorem spec_DigestsOf.mono:∀ a0 a1 a2 a3 k,LeO (spec_DigestsOf.f k a0 a1 a2 a3) (spec_DigestsOf.f (k + 1) a0 a1 a2 a3):=by
 intro a0 a1 a2 a3 k;have ih0:=spec_DigestsOf.mono_l k;unfold spec_DigestsOf.f
 with_reducible repeat' first | apply ih0 | apply spec_StoreOk.mono | exact LeO.refl _ | exact LeO.none _ | refine LeO.ite ?_ ?_ | refine LeO.bind ?_ (fun _=>?_)
set_option maxHeartbeats 8000000 in
set_option maxRecDepth 100000 in
theorem spec_DigestsOf.calls (k:Nat) (a0_0:Int) (A0_1:Option Addr) (c0_1:Nat) (l0_1:List (S56)) (A0_2:Option Addr) (c0_2:Nat) (l0_2:List (S58)) (a0_3:Int) (r:List ByteArray) (w:World) (hr0_1:Kd.C k56 w A0_1 l0_1.length l0_1) (hc0_1:l0_1.length≤c0_1) (hr0_2:Kd.C k58 w A0_2 l0_2.length l0_2) (hc0_2:l0_2.length≤c0_2) (h:spec_DigestsOf.f k a0_0 l0_1 l0_2 a0_3=some r) :
  Calls Try.prog 23 #[.agg #[.int .i64 a0_0,.slice A0_1 l0_1.length c0_1,.slice A0_2 l0_2.length c0_2,.int .i64 a0_3]] w fun e w'=>∃ v0_:Value,e = .returned (v0_)∧Kd.R Kd.string 9 w' w.heap.size (fun _=>True) v0_ r∧Below w.heap.size w w':=by
 have hu27:=Try.underlying27;have HR0_1:=aM hr0_1;have HC0_1:=aM hc0_1;clear hr0_1 hc0_1;have HR0_2:=aM hr0_2;have HC0_2:=aM hc0_2;clear hr0_2 hc0_2;have HB:=aM (Below.refl w.heap.size w);unfold spec_DigestsOf.f at h;have H:=h;clear h;obtain ⟨y656,hy656⟩:∃ y_:List ByteArray,y_=(([]:List ByteArray)):=⟨_,rfl⟩;have hy_:=hy656;replace H:((spec_StoreOk.f k a0_0 l0_1 l0_2 a0_3).bind fun t659=>(if t659=true then (spec_DigestsOf.l0 k y656 0 a0_0 l0_1 l0_2 a0_3) else (some y656)))=some r:=hyE;clear hy_;have Ny656:=aM hy656;clear hy656;replace H:=Option.bind_eq_some_iff.mp H;obtain ⟨t659,A20,H⟩:=H;(try dsimp only at H);have A2:=aM A20;clear A20;by_cases c3:t659=true
 ·
  subst c3;rw [if_pos rfl] at H;have H':=aM H;clear H;go_enter Try.func23,Try.ntmps23
  go_wp2_with (first|((with_reducible refine gD 1 rfl ?_);refine bE 1 #[.int .i64 a0_0,.slice A0_1 l0_1.length c0_1,.slice A0_2 l0_2.length c0_2,.int .i64 a0_3] 27 ?_;intro gb655 hg w4 hbox hb;have BK655:=aM hbox;have GW655:=aM (zq402:w.heap.size≤gb655);have GE655:=GW655;replace HB:=sB zq3 hb;clear hb hbox hg)|((with_reducible refine gD 5 rfl ?_);refine Kd.R_lit Kd.string _ 9 ?hg (N:=5) ?hd (xs:=([]:List ByteArray)) (inner:=[]) (ok:=fun _=>True) (okp:=fun _=>True) ?hr ?hp (fun _ hk=>hk) trivial (Below.refl _ _) (Nat.le_refl _) (by simp) ?_;(case hd=>rfl);(case hg=>rfl);(case hr=>exact zq2);(case hp=>exact zq108);intro v657 w5 ho6 hb hg_ hnew_;clear hg_ hnew_;(first | rw [← Ny656.out] at ho6|(simp only [Int.reduceToNat] at ho6;rw [← Ny656.out] at ho6));have HO658:=aM (Kd.R_lower ho6 (below_size zq184));replace BK655:=bG BK655 hb;replace HB:=sB zq184 hb;clear hb ho6;have hcz7:=cells4_ (w:=w5) BK655)|((with_reducible refine gC 29 rfl ?_);refine gL 7 Try.func29 #[.agg #[.int .i64 a0_0,.slice A0_1 l0_1.length c0_1,.slice A0_2 l0_2.length c0_2,.int .i64 a0_3]] ?_;(with_reducible refine (spec_StoreOk.calls k a0_0 _ _ l0_1 _ _ l0_2 a0_3 true _ ?_ ?_ ?_ ?_ A2.out).mono ?_);exact zq7;exact zq8;exact zq9;exact zq10;rintro e w8 ⟨rfl,hb⟩;refine ⟨_,rfl,?_⟩;replace HO658:=rG HO658 hb;replace BK655:=bG BK655 hb;replace HB:=sB zq184 hb;clear hb))
  go_loopg [3,4] k (fun kq v3 v4 w'=>∃ (x3_1:List ByteArray) (x4_1:Int),v4 = .int .i64 x4_1∧Aside0 (spec_DigestsOf.l0 kq x3_1 x4_1 a0_0 l0_1 l0_2 a0_3=some r)∧Aside0 (kq≤k)∧Aside0 (Kd.R Kd.string 9 w' w.heap.size (fun _=>True) v3 x3_1)∧Aside0 (w'.heap[gb655]?=some (.cells #[.int .i64 a0_0,(.slice A0_1 l0_1.length c0_1),(.slice A0_2 l0_2.length c0_2),.int .i64 a0_3] 27 (0,0)))∧Aside0 (Below w.heap.size w w'))
  case atStart=>exact ⟨(y656),(0),zq19,H',⟨Nat.le_refl _⟩,⟨zq186⟩,⟨zq185⟩,⟨zq184⟩⟩
  case round =>
   clear H';(try clear c3);(try clear hcz7);obtain ⟨x3_1,x4_1,rfl,HA,HK1,HO_3,BK655,HB⟩:=hrel
   cases gk with
   | zero=>exact absurd HA.out (by simp [spec_DigestsOf.l0])
   | succ k1 =>
    have H:=HA.out;clear HA;simp only [spec_DigestsOf.l0] at H;by_cases c9:x4_1 < (l0_1.length:Int)
    ·
     rw [if_pos c9] at H;have c9b0:=decide_eq_true c9;clear c9;by_cases c10:0≤x4_1
     ·
      rw [if_pos c10] at H;have c10b0:=decide_eq_true c10;clear c10;by_cases c11:x3_1.length < 8796093022208
      ·
       rw [if_pos c11] at H;have LMc11:=aM c11;clear c11;obtain ⟨y661,hy661⟩:∃ y_:List ByteArray,y_=(x3_1 ++ [(rd_T56 l0_1 x4_1).f0]):=⟨_,rfl⟩;have hy_:=hy661;replace H:(spec_DigestsOf.l0 k1 y661 (wrap64 (x4_1 + 1)) a0_0 l0_1 l0_2 a0_3)=some r:=hyE;clear hy_;have Ny661:=aM hy661;clear hy661;have H':=aM H;clear H;have hcz12:=cells4_ (w:=wr) BK655;have p660:0≤(x4_1:Int):=of_decide_eq_true zq34;have q660:x4_1 < (l0_1.length:Int):=of_decide_eq_true zq34;obtain ⟨ad660,e660,hx660_0,hx660_1⟩:=at_T56 HR0_1.out x4_1 p660 q660;cases e660;replace hx660_0:=hxB HB hx660_0;replace hx660_1:=hxB HB hx660_1;replace p660:=eq_true p660;replace q660:=eq_true q660
       go_wp2_with (first|((with_reducible refine gate_builtin (b:=.append) (xs:=#[.tmp 17,.tmp 24]) rfl ?_);at_builtin;refine Kd.R_append Kd.string (w0:=w) w.heap.size rfl (.tmp 17) (.tmp 24) 39 9 (.string ⟨#[]⟩) 16 rfl Try.underlying39 info9 rfl (by decide) (by omega) u3 x3_1 ((rd_T56 l0_1 x4_1).f0) [.string ((rd_T56 l0_1 x4_1).f0)] (fun _=>True) (fun _=>False) rfl rfl ?aP (fun _ hk=>hk.elim) ?aF ?aO ?aB ?aS ?aL ?_;(case aP=>exact rfl);(case aB=>exact zq184);(case aF=>exact zq79);(case aO=>exact zq107);(case aS=>exact (below_size zq184));(case aL=>have:=LMc11.out;omega);intro v662 w13 ho hb hg hat;rw [← Ny661.out] at ho;have n0_:=aM (blk_grown (g:=gb655) (o:=.cells #[.int .i64 a0_0,.slice (some ad660) l0_1.length c0_1,.slice A0_2 l0_2.length c0_2,.int .i64 a0_3] 27 (0,0)) zq185 hg (Kd.R_ne HO_3.out BK655.out (by decide)));have n1_:=aM (hb);have n2_:=aM (ho);clear BK655;clear HB;clear HO_3;have BK655:=n0_;have HB:=n1_;have HO663:=n2_;clear n0_ n1_ n2_;clear ho hb hg hat))
       go_roundg k1
       case measure=>have:=HK1.out;omega
       case rel=>exact ⟨(y661),(wrap64 (x4_1 + 1)),zq19,H',⟨zq43⟩,⟨by refine dR ?_;exact HO663.out⟩,⟨zq185⟩,⟨zq184⟩⟩
      exact zq523
     rw [if_neg c10] at H;exact absurd H (by simp)
    rw [if_neg c9] at H;have c9b0:=decide_eq_false c9;clear c9;obtain rfl:=Option.some.inj H;have hcz14:=cells4_ (w:=wr) BK655;go_wp2;go_ret;exact ⟨_,zq24,zq107,zq184⟩
 replace c3:=Bool.eq_false_iff.mpr c3;subst c3;rw [if_neg (show ¬ (false=true) by decide)] at H;obtain rfl:=Option.some.inj H;go_enter Try.func23,Try.ntmps23
 go_wp2_with (first|((with_reducible refine gD 1 rfl ?_);refine bE 1 #[.int .i64 a0_0,.slice A0_1 l0_1.length c0_1,.slice A0_2 l0_2.length c0_2,.int .i64 a0_3] 27 ?_;intro gb655 hg w15 hbox hb;have BK655:=aM hbox;have GW655:=aM (zq402:w.heap.size≤gb655);have GE655:=GW655;replace HB:=sB zq3 hb;clear hb hbox hg)|((with_reducible refine gD 5 rfl ?_);refine Kd.R_lit Kd.string _ 9 ?hg (N:=5) ?hd (xs:=([]:List ByteArray)) (inner:=[]) (ok:=fun _=>True) (okp:=fun _=>True) ?hr ?hp (fun _ hk=>hk) trivial (Below.refl _ _) (Nat.le_refl _) (by simp) ?_;(case hd=>rfl);(case hg=>rfl);(case hr=>exact zq2);(case hp=>exact zq108);intro v657 w16 ho17 hb hg_ hnew_;clear hg_ hnew_;(first | rw [← Ny656.out] at ho17|(simp only [Int.reduceToNat] at ho17;rw [← Ny656.out] at ho17));have HO658:=aM (Kd.R_lower ho17 (below_size zq184));replace BK655:=bG BK655 hb;replace HB:=sB zq184 hb;clear hb ho17;have hcz18:=cells4_ (w:=w16) BK655)|((with_reducible refine gC 29 rfl ?_);refine gL 7 Try.func29 #[.agg #[.int .i64 a0_0,.slice A0_1 l0_1.length c0_1,.slice A0_2 l0_2.length c0_2,.int .i64 a0_3]] ?_;(with_reducible refine (spec_StoreOk.calls k a0_0 _ _ l0_1 _ _ l0_2 a0_3 false _ ?_ ?_ ?_ ?_ A2.out).mono ?_);exact zq7;exact zq8;exact zq9;exact zq10;rintro e w19 ⟨rfl,hb⟩;refine ⟨_,rfl,?_⟩;replace HO658:=rG HO658 hb;replace BK655:=bG BK655 hb;replace HB:=sB zq184 hb;clear hb))
 go_ret;exact ⟨_,zq24,zq186,zq184⟩
end Go.Proofs.Ytldpdaifajjaeaa.QFnChunked
