/- Written by wip/myprint.py of this repo (the kit's print, with additions of this session). -/
import Derived.Test.YtldpdaifajjaeaaQFnChunkedx3
set_option maxRecDepth 100000
namespace Go.Proofs.Ytldpdaifajjaeaa.QFnChunked
open Go.RowKit Go.Proofs.YtldpdaifajjaeaaW.PrintWords Go.Proofs.YtldpdaifajjaeaaW.PrintLast Go.Proofs.YtldpdaifajjaeaaW.PrintMore
attribute [local go_sem] max2_int min2_int max_two min_two max_three min_three max_four min_four
set_option linter.unusedVariables false
set_option linter.unusedSimpArgs false
mutual
def spec_l1Block.l0:Nat→List Int→List Int→List Int→List Int→Int→Option (List Int)
 | 0,_,_,_,_,_=>none
 | k + 1,x0,x1,x2,x7,x8=>if x8 < 64 then (if x8 < 16 then (if 0≤(wrap64 (4 * x8)) then (if (wrap64 (4 * x8)) < (x2.length:Int) then (if 0≤(wrap64 ((wrap64 (4 * x8)) + 1)) then (if (wrap64 ((wrap64 (4 * x8)) + 1)) < (x2.length:Int) then (if 0≤(wrap64 ((wrap64 (4 * x8)) + 2)) then (if (wrap64 ((wrap64 (4 * x8)) + 2)) < (x2.length:Int) then (if 0≤(wrap64 ((wrap64 (4 * x8)) + 3)) then (if (wrap64 ((wrap64 (4 * x8)) + 3)) < (x2.length:Int) then (if 0≤x8 then (if x8 < (x7.length:Int) then (spec_l1Block.l0 k x0 x1 x2 (x7.set (x8:Int).toNat (Go.bits .or .u32 (Go.bits .or .u32 (Go.bits .or .u32 ((((rd x2 (wrap64 (4 * x8))) % 4294967296) * 16777216) % 4294967296) ((((rd x2 (wrap64 ((wrap64 (4 * x8)) + 1))) % 4294967296) * 65536) % 4294967296)) ((((rd x2 (wrap64 ((wrap64 (4 * x8)) + 2))) % 4294967296) * 256) % 4294967296)) ((rd x2 (wrap64 ((wrap64 (4 * x8)) + 3))) % 4294967296))) (wrap64 (x8 + 1))) else (none)) else (none)) else (none)) else (none)) else (none)) else (none)) else (none)) else (none)) else (none)) else (none)) else (if 0≤(wrap64 (x8 - 15)) then (if (wrap64 (x8 - 15)) < (x7.length:Int) then (if 0≤(wrap64 (x8 - 2)) then (if (wrap64 (x8 - 2)) < (x7.length:Int) then ((spec_Rotate.f (rd x7 (wrap64 (x8 - 15))) 7).bind fun t114=>((spec_Rotate.f (rd x7 (wrap64 (x8 - 15))) 18).bind fun t115=>((spec_Rotate.f (rd x7 (wrap64 (x8 - 2))) 17).bind fun t116=>((spec_Rotate.f (rd x7 (wrap64 (x8 - 2))) 19).bind fun t117=>(if 0≤(wrap64 (x8 - 7)) then (if (wrap64 (x8 - 7)) < (x7.length:Int) then (if 0≤(wrap64 (x8 - 16)) then (if (wrap64 (x8 - 16)) < (x7.length:Int) then (if 0≤x8 then (if x8 < (x7.length:Int) then (spec_l1Block.l0 k x0 x1 x2 (x7.set (x8:Int).toNat (((((((Go.bits .xor .u32 (Go.bits .xor .u32 t116 t117) ((rd x7 (wrap64 (x8 - 2))) / 1024)) + (rd x7 (wrap64 (x8 - 7)))) % 4294967296) + (Go.bits .xor .u32 (Go.bits .xor .u32 t114 t115) ((rd x7 (wrap64 (x8 - 15))) / 8))) % 4294967296) + (rd x7 (wrap64 (x8 - 16)))) % 4294967296)) (wrap64 (x8 + 1))) else (none)) else (none)) else (none)) else (none)) else (none)) else (none)))))) else (none)) else (none)) else (none)) else (none))) else ((some (([]:List Int):List Int)).bind fun y121=>(if y121.length + x0.length < 35184372088832 then (spec_l1Block.l1 k x0 x1 x7 (y121 ++ x0) 0) else (none)))
def spec_l1Block.l1:Nat→List Int→List Int→List Int→List Int→Int→Option (List Int)
 | 0,_,_,_,_,_=>none
 | k + 1,x0,x1,x7,x13,x14=>if x14 < 64 then (if 0 < (x13.length:Int) then (if 4 < (x13.length:Int) then (if 7 < (x13.length:Int) then ((spec_Rotate.f (rd x13 4) 6).bind fun t130=>((spec_Rotate.f (rd x13 4) 11).bind fun t131=>((spec_Rotate.f (rd x13 4) 25).bind fun t132=>(if 5 < (x13.length:Int) then (if 6 < (x13.length:Int) then (if 0≤x14 then (if x14 < (x1.length:Int) then (if x14 < (x7.length:Int) then ((spec_Rotate.f (rd x13 0) 2).bind fun t137=>((spec_Rotate.f (rd x13 0) 13).bind fun t138=>((spec_Rotate.f (rd x13 0) 22).bind fun t139=>(if 1 < (x13.length:Int) then (if 2 < (x13.length:Int) then (if 3 < (x13.length:Int) then (spec_l1Block.l1 k x0 x1 x7 (([((((((((((rd x13 7) + (Go.bits .xor .u32 (Go.bits .xor .u32 t130 t131) t132)) % 4294967296) + (Go.bits .xor .u32 (Go.bits .and .u32 (rd x13 4) (rd x13 5)) (Go.bits .and .u32 (Go.bits .xor .u32 4294967295 (rd x13 4)) (rd x13 6)))) % 4294967296) + (rd x1 x14)) % 4294967296) + (rd x7 x14)) % 4294967296) + (((Go.bits .xor .u32 (Go.bits .xor .u32 t137 t138) t139) + (Go.bits .xor .u32 (Go.bits .xor .u32 (Go.bits .and .u32 (rd x13 0) (rd x13 1)) (Go.bits .and .u32 (rd x13 0) (rd x13 2))) (Go.bits .and .u32 (rd x13 1) (rd x13 2)))) % 4294967296)) % 4294967296,rd x13 0,rd x13 1,rd x13 2,((rd x13 3) + (((((((((rd x13 7) + (Go.bits .xor .u32 (Go.bits .xor .u32 t130 t131) t132)) % 4294967296) + (Go.bits .xor .u32 (Go.bits .and .u32 (rd x13 4) (rd x13 5)) (Go.bits .and .u32 (Go.bits .xor .u32 4294967295 (rd x13 4)) (rd x13 6)))) % 4294967296) + (rd x1 x14)) % 4294967296) + (rd x7 x14)) % 4294967296)) % 4294967296,rd x13 4,rd x13 5,rd x13 6]:List Int)) (wrap64 (x14 + 1))) else (none)) else (none)) else (none))))) else (none)) else (none)) else (none)) else (none)) else (none))))) else (none)) else (none)) else (none)) else (spec_l1Block.l2 k x0 x13 (([]:List Int)) 0)
def spec_l1Block.l2:Nat→List Int→List Int→List Int→Int→Option (List Int)
 | 0,_,_,_,_=>none
 | k + 1,x0,x13,x19,x20=>if x20 < 8 then (if 0≤x20 then (if x20 < (x0.length:Int) then (if x20 < (x13.length:Int) then (if x19.length < 35184372088832 then (spec_l1Block.l2 k x0 x13 (x19 ++ [((rd x0 x20) + (rd x13 x20)) % 4294967296]) (wrap64 (x20 + 1))) else (none)) else (none)) else (none)) else (none)) else (some x19)
end
def spec_l1Block.f (k:Nat) (l0:List Int) (l1:List Int) (l2:List Int):Option (List Int):=if 64≤70368744177664 then (spec_l1Block.l0 k l0 l1 l2 (List.replicate 64 0) 0) else (none)
theorem spec_l1Block.mono_l:∀ k,(∀ y0 y1 y2 y3 y4,LeO (spec_l1Block.l0 k y0 y1 y2 y3 y4) (spec_l1Block.l0 (k + 1) y0 y1 y2 y3 y4))∧(∀ y0 y1 y2 y3 y4,LeO (spec_l1Block.l1 k y0 y1 y2 y3 y4) (spec_l1Block.l1 (k + 1) y0 y1 y2 y3 y4))∧(∀ y0 y1 y2 y3,LeO (spec_l1Block.l2 k y0 y1 y2 y3) (spec_l1Block.l2 (k + 1) y0 y1 y2 y3))
 | 0=>⟨fun _ _ _ _ _ r h=>by simp [spec_l1Block.l0] at h,fun _ _ _ _ _ r h=>by simp [spec_l1Block.l1] at h,fun _ _ _ _ r h=>by simp [spec_l1Block.l2] at h⟩
 | k + 1=>by
  obtain ⟨ih0,ih1,ih2⟩:=spec_l1Block.mono_l k;refine ⟨?_,?_,?_⟩ <;> (intros;first | unfold spec_l1Block.l0 | unfold spec_l1Block.l1 | unfold spec_l1Block.l2)
  all_goals with_reducible repeat' first | apply ih0 | apply ih1 | apply ih2 | exact LeO.refl _ | exact LeO.none _ | refine LeO.ite ?_ ?_ | refine LeO.bind ?_ (fun _=>?_)
theorem spec_l1Block.mono:∀ a0 a1 a2 k,LeO (spec_l1Block.f k a0 a1 a2) (spec_l1Block.f (k + 1) a0 a1 a2):=by
 intro a0 a1 a2 k;obtain ⟨ih0,ih1,ih2⟩:=spec_l1Block.mono_l k;unfold spec_l1Block.f
 with_reducible repeat' first | apply ih0 | apply ih1 | apply ih2 | exact LeO.refl _ | exact LeO.none _ | refine LeO.ite ?_ ?_ | refine LeO.bind ?_ (fun _=>?_)
def spec_l1Block.T6:Bool×List (List Nat×List Nat):=(true,[([],[]),([],[]),([],[]),([],[]),([3],[3]),([2,4],[2,4]),([5],[5]),([6],[6]),([7],[7]),([],[]),([],[]),([10],[10]),([11],[11]),([9,12],[9,12]),([13],[13]),([14],[14]),([15],[15]),([8,16],[8,16]),([],[]),([],[]),([19],[19]),([20],[20]),([18,21],[18,21]),([22],[22]),([23],[23]),([24],[24]),([17,25],[17,25]),([],[]),([],[]),([28],[28]),([29],[29]),([27,30],[27,30]),([31],[31]),([32],[32]),([26,33],[26,33]),([0,1,0,1,2,3,4,5,6,7,8,9,10,11,12,13,14,15,16,17,18,19,20,21,22,23,24,25,26,27,28,29,30,31,32,33,34],[0,1]),([35,34,0,1,2,3,4,5,6,7,8,9,10,11,12,13,14,15,16,17,18,19,20,21,22,23,24,25,26,27,28,29,30,31,32,33,34],[34,35])])
def spec_l1Block.B6:List Nat:=[0,0,0,0,8,28,60,124,252,0,0,1024,3072,7680,15872,32256,65024,131068,0,0,524288,1572864,3932160,8126464,16515072,33292288,67108860,0,0,268435456,805306368,2013265920,4160749568,8455716864,17179869180,34359738367,68719476735]
theorem spec_l1Block.tab6:rtab .any (opsOf Try.f57 6)=spec_l1Block.T6:=by kernel_rfl
theorem spec_l1Block.bits6:waitsOk spec_l1Block.T6.2 spec_l1Block.B6=true:=by kernel_rfl
def spec_l1Block.T11:Bool×List (List Nat×List Nat):=(true,[([],[]),([],[]),([],[]),([],[]),([],[]),([4],[4]),([3,5],[3,5]),([6],[6]),([2,7],[2,7]),([],[]),([8,9],[8,9]),([],[]),([],[]),([12],[12]),([11,13],[11,13]),([14],[14]),([10,15],[10,15]),([0,1,0,1,2,3,4,5,6,7,8,9,10,11,12,13,14,15,16],[0,1]),([17,16,0,1,2,3,4,5,6,7,8,9,10,11,12,13,14,15,16],[16,17])])
def spec_l1Block.B11:List Nat:=[0,0,0,0,0,16,56,120,252,0,1020,0,0,4096,14336,30720,65532,131071,262143]
theorem spec_l1Block.tab11:rtab .any (opsOf Try.f57 11)=spec_l1Block.T11:=by kernel_rfl
theorem spec_l1Block.bits11:waitsOk spec_l1Block.T11.2 spec_l1Block.B11=true:=by kernel_rfl
def spec_l1Block.T18:Bool×List (List Nat×List Nat):=(true,[([],[]),([0],[0]),([1],[1]),([],[]),([3],[3]),([],[]),([5,4],[5]),([4,6],[4,6]),([],[]),([8,6],[8]),([7,9],[7,9]),([2,10],[2,10]),([],[]),([],[]),([13],[13]),([14],[14]),([12,15],[12,15]),([],[]),([17],[17]),([],[]),([19],[19]),([20],[20]),([18,21],[18,21]),([16,22],[16,22]),([11,23],[11,23]),([],[]),([],[]),([25,26],[25,26]),([27],[27]),([24,28],[24,28]),([],[]),([],[]),([30,31],[30,31]),([32],[32]),([29,33],[29,33]),([34,9,0,1,2,3,4,5,6,7,8,9,10,11,12,13,14,15,16,17,18,19,20,21,22,23,24,25,26,27,28,29,30,31,32,33,34],[34])])
def spec_l1Block.B18:List Nat:=[0,1,3,0,8,0,56,120,0,376,1016,2047,0,0,8192,24576,61440,0,131072,0,524288,1572864,4063232,8384512,16777215,0,0,100663296,234881024,536870911,0,0,3221225472,7516192768,17179869183,34359738367]
theorem spec_l1Block.tab18:rtab .any (opsOf Try.f57 18)=spec_l1Block.T18:=by kernel_rfl
theorem spec_l1Block.bits18:waitsOk spec_l1Block.T18.2 spec_l1Block.B18=true:=by kernel_rfl
def spec_l1Block.T19:Bool×List (List Nat×List Nat):=(true,[([],[]),([0],[0]),([],[]),([2,1],[2]),([1,3],[1,3]),([],[]),([5,3],[5]),([4,6],[4,6]),([],[]),([],[]),([9],[9]),([10],[10]),([8,11],[8,11]),([],[]),([],[]),([14],[14]),([15],[15]),([13,16],[13,16]),([12,17],[12,17]),([],[]),([19],[19]),([20],[20]),([],[]),([22],[22]),([23],[23]),([21,24],[21,24]),([18,25],[18,25]),([7,26],[7,26]),([27,6,0,1,2,3,4,5,6,7,8,9,10,11,12,13,14,15,16,17,18,19,20,21,22,23,24,25,26,27],[27])])
def spec_l1Block.B19:List Nat:=[0,1,0,7,15,0,47,127,0,0,512,1536,3840,0,0,16384,49152,122880,261888,0,524288,1572864,0,4194304,12582912,33030144,67108608,134217727,268435455]
theorem spec_l1Block.tab19:rtab .any (opsOf Try.f57 19)=spec_l1Block.T19:=by kernel_rfl
theorem spec_l1Block.bits19:waitsOk spec_l1Block.T19.2 spec_l1Block.B19=true:=by kernel_rfl
def spec_l1Block.T20:Bool×List (List Nat×List Nat):=(true,[([],[]),([],[]),([0,1],[0,1]),([],[]),([],[]),([4],[4]),([5],[5]),([],[]),([7],[7]),([8],[8]),([],[]),([10],[10]),([11],[11]),([],[]),([12,13],[12,13]),([],[]),([],[]),([16],[16]),([17],[17]),([],[]),([19],[19]),([20],[20]),([2,3,6,9,14,15,18,21],[2,3,6,9,14,15,18,21]),([22,0,1,2,3,4,5,6,7,8,9,10,11,12,13,14,15,16,17,18,19,20,21,22],[4,7,10,16,19,22])])
def spec_l1Block.B20:List Nat:=[0,0,3,0,0,16,48,0,128,384,0,1024,3072,0,15360,0,0,65536,196608,0,524288,1572864,4194303,8388607]
theorem spec_l1Block.tab20:rtab .any (opsOf Try.f57 20)=spec_l1Block.T20:=by kernel_rfl
theorem spec_l1Block.bits20:waitsOk spec_l1Block.T20.2 spec_l1Block.B20=true:=by kernel_rfl
def spec_l1Block.T25:Bool×List (List Nat×List Nat):=(true,[([],[]),([],[]),([],[]),([1,2],[1,2]),([3],[3]),([],[]),([],[]),([5,6],[5,6]),([7],[7]),([4,8],[4,8]),([9],[9]),([0,10],[0,10]),([11,11,0,1,2,3,4,5,6,7,8,9,10,11],[0,11])])
def spec_l1Block.B25:List Nat:=[0,0,0,6,14,0,0,96,224,510,1022,2047,4095]
theorem spec_l1Block.tab25:rtab .any (opsOf Try.f57 25)=spec_l1Block.T25:=by kernel_rfl
theorem spec_l1Block.bits25:waitsOk spec_l1Block.T25.2 spec_l1Block.B25=true:=by kernel_rfl
set_option maxHeartbeats 8000000 in
set_option maxRecDepth 100000 in
theorem spec_l1Block.calls (k:Nat) (A0:Option Addr) (c0:Nat) (l0:List Int) (A1:Option Addr) (c1:Nat) (l1:List Int) (A2:Option Addr) (c2:Nat) (l2:List Int) (r:List Int) (w:World) (hr0:Kd.C (Kd.int .u32) w A0 l0.length l0) (hc0:l0.length≤c0) (hr1:Kd.C (Kd.int .u32) w A1 l1.length l1) (hc1:l1.length≤c1) (hr2:Kd.C (Kd.int .u8) w A2 l2.length l2) (hc2:l2.length≤c2) (h:spec_l1Block.f k l0 l1 l2=some r) :
  Calls Try.prog 57 #[.slice A0 l0.length c0,.slice A1 l1.length c1,.slice A2 l2.length c2] w fun e w'=>∃ v0_:Value,e = .returned (v0_)∧Kd.R (Kd.int .u32) 62 w' w.heap.size (fun _=>True) v0_ r∧Below w.heap.size w w':=by
 have HR0:=aM hr0;have HC0:=aM hc0;clear hr0 hc0;have HR1:=aM hr1;have HC1:=aM hc1;clear hr1 hc1;have HR2:=aM hr2;have HC2:=aM hc2;clear hr2 hc2;have HB:=aM (Below.refl w.heap.size w);unfold spec_l1Block.f at h;have H:=h;clear h;by_cases c4:64≤70368744177664
 ·
  rw [if_pos c4] at H;have c4b0:=eq_true c4;have c4b1:=decide_eq_true c4;clear c4;obtain ⟨y104,hy104⟩:∃ y_:List Int,y_=(List.replicate 64 0):=⟨_,rfl⟩;have hy_:=hy104;replace H:(spec_l1Block.l0 k l0 l1 l2 y104 0)=some r:=hyE;clear hy_;have Ny104:=aM hy104;clear hy104;have H':=aM H;clear H;go_enter Try.func57,Try.ntmps57
  go_wp2_with (first|((with_reducible refine gD 21 rfl ?_);refine Kd.R_make (Kd.int .u32) _ 62 rfl (N:=21) rfl 59 _ _ rfl 64 rfl rfl Try.underlying59 (.int .u32 0) 4 info62 rfl (by decide) (by omega) 0 (ok:=fun _=>True) (okp:=fun _=>True) rfl (fun _ hk=>hk) trivial (by omega) (by omega) (Below.refl _ _) (Nat.le_refl _) ?_;intro v105 w5 ho6 hb hg_ hnew_;clear hg_ hnew_;(first | rw [← Ny104.out] at ho6|(simp only [Int.reduceToNat] at ho6;rw [← Ny104.out] at ho6));have HO106:=aM (Kd.R_lower ho6 (below_size zq3));replace HB:=sB zq3 hb;clear hb ho6))
  go_loopg [8] k (fun kq v8 w'=>∃ (x7_1:List Int) (x8_1:Int),v8 = .int .i64 x8_1∧Aside0 (spec_l1Block.l0 kq l0 l1 l2 x7_1 x8_1=some r)∧Aside0 (kq≤k)∧Aside0 (Kd.R (Kd.int .u32) 62 w' w.heap.size (fun _=>True) v105 x7_1)∧Aside0 (Below w.heap.size w w'))
  case atStart=>exact ⟨(y104),(0),zq19,H',⟨Nat.le_refl _⟩,⟨by refine dR ?_;first | exact HO106.out|(have h_:=HO106.out;simp only [Int.emod_add_emod,Int.add_emod_emod] at h_ ⊢;exact h_)⟩,⟨zq3⟩⟩
  case round =>
   clear H';(try clear c1);(try clear c2);(try clear c4b0);(try clear c4b1);obtain ⟨x7_1,x8_1,rfl,HA,HK1,HO_7,HB⟩:=hrel
   cases gk with
   | zero=>exact absurd HA.out (by simp [spec_l1Block.l0])
   | succ k1 =>
    have H:=HA.out;clear HA;simp only [spec_l1Block.l0] at H;by_cases c7:x8_1 < 64
    ·
     rw [if_pos c7] at H;have c7b0:=decide_eq_true c7;clear c7;by_cases c8:x8_1 < 16
     ·
      rw [if_pos c8] at H;have c8b0:=decide_eq_true c8;clear c8;obtain ⟨ji9,hji9⟩:∃ j_:Int,(wrap64 (4 * x8_1))=j_:=⟨_,rfl⟩;replace H:(if 0≤(ji9) then (if (ji9) < (l2.length:Int) then (if 0≤(wrap64 ((ji9) + 1)) then (if (wrap64 ((ji9) + 1)) < (l2.length:Int) then (if 0≤(wrap64 ((ji9) + 2)) then (if (wrap64 ((ji9) + 2)) < (l2.length:Int) then (if 0≤(wrap64 ((ji9) + 3)) then (if (wrap64 ((ji9) + 3)) < (l2.length:Int) then (if 0≤x8_1 then (if x8_1 < (x7_1.length:Int) then (spec_l1Block.l0 k1 l0 l1 l2 (x7_1.set (x8_1:Int).toNat (Go.bits .or .u32 (Go.bits .or .u32 (Go.bits .or .u32 ((((rd l2 (ji9)) % 4294967296) * 16777216) % 4294967296) ((((rd l2 (wrap64 ((ji9) + 1))) % 4294967296) * 65536) % 4294967296)) ((((rd l2 (wrap64 ((ji9) + 2))) % 4294967296) * 256) % 4294967296)) ((rd l2 (wrap64 ((ji9) + 3))) % 4294967296))) (wrap64 (x8_1 + 1))) else (none)) else (none)) else (none)) else (none)) else (none)) else (none)) else (none)) else (none)) else (none)) else (none))=some r:=by first|(rw [hji9] at H;exact H)|(simp only [hji9] at H ⊢;exact H)
      have hji9w:(IntKind.i64.wrap (4 * x8_1))=ji9:=(i64_w _).trans hji9;by_cases c10:0≤(ji9)
      ·
       rw [if_pos c10] at H;have c10b0:=decide_eq_true c10;clear c10;by_cases c11:(ji9) < (l2.length:Int)
       ·
        rw [if_pos c11] at H;have c11b0:=decide_eq_true c11;clear c11;obtain ⟨ji12,hji12⟩:∃ j_:Int,(wrap64 ((ji9) + 1))=j_:=⟨_,rfl⟩;replace H:(if 0≤(ji12) then (if (ji12) < (l2.length:Int) then (if 0≤(wrap64 ((ji9) + 2)) then (if (wrap64 ((ji9) + 2)) < (l2.length:Int) then (if 0≤(wrap64 ((ji9) + 3)) then (if (wrap64 ((ji9) + 3)) < (l2.length:Int) then (if 0≤x8_1 then (if x8_1 < (x7_1.length:Int) then (spec_l1Block.l0 k1 l0 l1 l2 (x7_1.set (x8_1:Int).toNat (Go.bits .or .u32 (Go.bits .or .u32 (Go.bits .or .u32 ((((rd l2 (ji9)) % 4294967296) * 16777216) % 4294967296) ((((rd l2 (ji12)) % 4294967296) * 65536) % 4294967296)) ((((rd l2 (wrap64 ((ji9) + 2))) % 4294967296) * 256) % 4294967296)) ((rd l2 (wrap64 ((ji9) + 3))) % 4294967296))) (wrap64 (x8_1 + 1))) else (none)) else (none)) else (none)) else (none)) else (none)) else (none)) else (none)) else (none))=some r:=by first|(rw [hji12] at H;exact H)|(simp only [hji12] at H ⊢;exact H)
        have hji12w:(IntKind.i64.wrap ((ji9) + 1))=ji12:=(i64_w _).trans hji12;by_cases c13:0≤(ji12)
        ·
         rw [if_pos c13] at H;have c13b0:=decide_eq_true c13;clear c13;by_cases c14:(ji12) < (l2.length:Int)
         ·
          rw [if_pos c14] at H;have c14b0:=decide_eq_true c14;clear c14;obtain ⟨ji15,hji15⟩:∃ j_:Int,(wrap64 ((ji9) + 2))=j_:=⟨_,rfl⟩;replace H:(if 0≤(ji15) then (if (ji15) < (l2.length:Int) then (if 0≤(wrap64 ((ji9) + 3)) then (if (wrap64 ((ji9) + 3)) < (l2.length:Int) then (if 0≤x8_1 then (if x8_1 < (x7_1.length:Int) then (spec_l1Block.l0 k1 l0 l1 l2 (x7_1.set (x8_1:Int).toNat (Go.bits .or .u32 (Go.bits .or .u32 (Go.bits .or .u32 ((((rd l2 (ji9)) % 4294967296) * 16777216) % 4294967296) ((((rd l2 (ji12)) % 4294967296) * 65536) % 4294967296)) ((((rd l2 (ji15)) % 4294967296) * 256) % 4294967296)) ((rd l2 (wrap64 ((ji9) + 3))) % 4294967296))) (wrap64 (x8_1 + 1))) else (none)) else (none)) else (none)) else (none)) else (none)) else (none))=some r:=by first|(rw [hji15] at H;exact H)|(simp only [hji15] at H ⊢;exact H)
          have hji15w:(IntKind.i64.wrap ((ji9) + 2))=ji15:=(i64_w _).trans hji15;by_cases c16:0≤(ji15)
          ·
           rw [if_pos c16] at H;have c16b0:=decide_eq_true c16;clear c16;by_cases c17:(ji15) < (l2.length:Int)
           ·
            rw [if_pos c17] at H;have c17b0:=decide_eq_true c17;clear c17;obtain ⟨ji18,hji18⟩:∃ j_:Int,(wrap64 ((ji9) + 3))=j_:=⟨_,rfl⟩;replace H:(if 0≤(ji18) then (if (ji18) < (l2.length:Int) then (if 0≤x8_1 then (if x8_1 < (x7_1.length:Int) then (spec_l1Block.l0 k1 l0 l1 l2 (x7_1.set (x8_1:Int).toNat (Go.bits .or .u32 (Go.bits .or .u32 (Go.bits .or .u32 ((((rd l2 (ji9)) % 4294967296) * 16777216) % 4294967296) ((((rd l2 (ji12)) % 4294967296) * 65536) % 4294967296)) ((((rd l2 (ji15)) % 4294967296) * 256) % 4294967296)) ((rd l2 (ji18)) % 4294967296))) (wrap64 (x8_1 + 1))) else (none)) else (none)) else (none)) else (none))=some r:=by first|(rw [hji18] at H;exact H)|(simp only [hji18] at H ⊢;exact H)
            have hji18w:(IntKind.i64.wrap ((ji9) + 3))=ji18:=(i64_w _).trans hji18;by_cases c19:0≤(ji18)
            ·
             rw [if_pos c19] at H;have c19b0:=decide_eq_true c19;clear c19;by_cases c20:(ji18) < (l2.length:Int)
             ·
              rw [if_pos c20] at H;have c20b0:=decide_eq_true c20;clear c20;by_cases c21:0≤x8_1
              ·
               rw [if_pos c21] at H;have c21b0:=decide_eq_true c21;clear c21;by_cases c22:x8_1 < (x7_1.length:Int)
               ·
                rw [if_pos c22] at H;have c22b0:=decide_eq_true c22;clear c22;obtain ⟨y111,hy111⟩:∃ y_:List Int,y_=(x7_1.set (x8_1:Int).toNat (Go.bits .or .u32 (Go.bits .or .u32 (Go.bits .or .u32 ((((rd l2 (ji9)) % 4294967296) * 16777216) % 4294967296) ((((rd l2 (ji12)) % 4294967296) * 65536) % 4294967296)) ((((rd l2 (ji15)) % 4294967296) * 256) % 4294967296)) ((rd l2 (ji18)) % 4294967296))):=⟨_,rfl⟩;have hy_:=hy111;replace H:(spec_l1Block.l0 k1 l0 l1 l2 y111 (wrap64 (x8_1 + 1)))=some r:=hyE;clear hy_;have Ny111:=aM hy111;clear hy111;have H':=aM H;clear H
                try go_wp2
                replace HO_7:=rD HO_7;replace HB:=aM (below_drew1 HB.out);have p107:0≤((ji9):Int):=of_decide_eq_true zq34;have q107:(ji9) < (l2.length:Int):=of_decide_eq_true zq34;obtain ⟨ad107,e107,hx107_0⟩:=Kd.at_int HR2.out (ji9) p107 q107;have hw107_0:=hx107_0;cases e107;replace hx107_0:=hxB HB hx107_0;replace p107:=eq_true p107;replace q107:=eq_true q107;have p108:0≤((ji12):Int):=of_decide_eq_true zq34;have q108:(ji12) < (l2.length:Int):=of_decide_eq_true zq34;obtain ⟨ad108,e108,hx108_0⟩:=Kd.at_int HR2.out (ji12) p108 q108;have hw108_0:=hx108_0;obtain rfl:ad107=ad108:=(by injection e108);replace hx108_0:=hxB HB hx108_0;replace p108:=eq_true p108;replace q108:=eq_true q108;have p109:0≤((ji15):Int):=of_decide_eq_true zq34;have q109:(ji15) < (l2.length:Int):=of_decide_eq_true zq34;obtain ⟨ad109,e109,hx109_0⟩:=Kd.at_int HR2.out (ji15) p109 q109;have hw109_0:=hx109_0;obtain rfl:ad107=ad109:=(by injection e109);replace hx109_0:=hxB HB hx109_0;replace p109:=eq_true p109;replace q109:=eq_true q109;have p110:0≤((ji18):Int):=of_decide_eq_true zq34;have q110:(ji18) < (l2.length:Int):=of_decide_eq_true zq34
                obtain ⟨ad110,e110,hx110_0⟩:=Kd.at_int HR2.out (ji18) p110 q110;have hw110_0:=hx110_0;obtain rfl:ad107=ad110:=(by injection e110);replace hx110_0:=hxB HB hx110_0;replace p110:=eq_true p110;replace q110:=eq_true q110;have p23:0≤(x8_1:Int):=of_decide_eq_true zq34;have q23:(x8_1:Int) < ((x7_1.length:Int):Int):=of_decide_eq_true zq34;obtain ⟨go23,co23,eo23,gb23,gl23,cl23,HG23⟩:=Kd.R_form HO_7.out (by omega)
                (first | cases eo23|(injection eo23 with ea_ en_ ec_;(first | subst ea_|(injection ea_ with ea_;subst ea_));subst ec_;clear en_))
                have GB23:=aM gb23;have GG23:=aM HG23;clear gb23 gl23 HG23;obtain ⟨hx23_0,hf23_0⟩:=Kd.R_celln 0 HO_7.out (x8_1:Int) p23 q23;replace p23:=eq_true p23;replace q23:=eq_true q23;have HP25:=Kd.R_putn HO_7.out (x8_1:Int) (Go.bits .or .u32 (Go.bits .or .u32 (Go.bits .or .u32 ((((rd l2 (ji9)) % 4294967296) * 16777216) % 4294967296) ((((rd l2 (ji12)) % 4294967296) * 65536) % 4294967296)) ((((rd l2 (ji15)) % 4294967296) * 256) % 4294967296)) ((rd l2 (ji18)) % 4294967296));rw [← Ny111.out] at HP25;have HQ25:=aM HP25;clear HP25;refine start_ (n:=37) (S:=fun w'=>w'.cell? (ad107.add ((ji9)).toNat)=some (.int .u8 (rd l2 (ji9)))∧w'.cell? (ad107.add ((ji12)).toNat)=some (.int .u8 (rd l2 (ji12)))∧w'.cell? (ad107.add ((ji15)).toNat)=some (.int .u8 (rd l2 (ji15)))∧w'.cell? (ad107.add ((ji18)).toNat)=some (.int .u8 (rd l2 (ji18)))) (ds:=[36]) (bA 37 0) (by kernel_rfl) rfl rfl ⟨(hxB HB hw107_0:_),(hxB HB hw108_0:_),(hxB HB hw109_0:_),(hxB HB hw110_0:_)⟩ (fun hHeld=>?_);refine with_tabW spec_l1Block.tab6 spec_l1Block.bits6 (fun HT_ HW_=>?_)
                generalize wr.drew=w24 at HO_7 HB GG23 HQ25 hf23_0 hx107_0 hx108_0 hx109_0 hx110_0 hx23_0 hHeld ⊢;refine pV 0 28 37 1 ?_;refine pV 1 29 37 3 ?_;refine pV 2 30 37 7 ?_;refine pV 3 31 37 15 ?_;refine pV 4 32 37 31 ?_;refine pV 5 33 37 63 ?_;refine pV 9 37 37 575 ?_;refine pV 10 38 37 1599 ?_;refine pV 11 39 37 3647 ?_;refine pV 12 40 37 7743 ?_;refine pV 13 41 37 15935 ?_;refine pV 18 46 37 278079 ?_;refine pV 19 47 37 802367 ?_;refine pV 20 48 37 1850943 ?_;refine pV 21 49 37 3948095 ?_;refine pV 22 50 37 8142399 ?_;refine pV 27 55 37 142360127 ?_;refine pV 28 56 37 410795583 ?_;refine pV 29 57 37 947666495 ?_;refine pV 30 58 37 2021408319 ?_;refine pV 31 59 37 4168891967 ?_;refine tV 6 34 37 4168892031 rfl zq508 ?_;refine pV 7 35 37 4168892159 ?_;refine pV 8 36 37 4168892415 ?_;refine tV 14 42 37 4168908799 rfl zq508 ?_;refine pV 15 43 37 4168941567 ?_;refine pV 16 44 37 4169007103 ?_;refine pV 17 45 37 4169138175 ?_;refine tV 23 51 37 4177526783 rfl zq508 ?_;refine pV 24 52 37 4194303999 ?_;refine pV 25 53 37 4227858431 ?_;refine pV 26 54 37 4294967295 ?_;refine tV 32 60 37 8589934591 rfl zq508 ?_;refine pV 33 61 37 17179869183 ?_;refine pV 34 62 37 34359738367 ?_;refine pV 35 63 37 68719476735 ?_;refine last_ (i:=36) (N:=none) (bA 37 137438953471) rfl rfl (one_of HT_.out (by kernel_rfl)) (by decide) (fun K hK=>?_);refine skip_ (w1:=?_) (by rfl) rfl ?_ ?_;rotate_left
                ·
                 go_simp
                 rfl
                refine hK.out _ _ ?_;clear hK K;refine dE ?_
                try go_wp2
                go_roundg k1
                case measure=>have:=HK1.out;omega
                case rel=>exact ⟨(y111),(wrap64 (x8_1 + 1)),zq19,H',⟨zq43⟩,⟨by refine dR ?_;first | exact HQ25.out|(have h_:=HQ25.out;simp only [Int.emod_add_emod,Int.add_emod_emod] at h_ ⊢;exact h_)⟩,⟨by repeat (first|(with_reducible first | exact HB.out | apply below_alloc | apply pw_below_drewN | apply below_drew1 | refine below_set ?_ GB23.out)|exact HB.out)⟩⟩
               exact zq519
              rw [if_neg c21] at H;exact absurd H (by simp)
             rw [if_neg c20] at H;exact absurd H (by simp)
            rw [if_neg c19] at H;exact absurd H (by simp)
           rw [if_neg c17] at H;exact absurd H (by simp)
          rw [if_neg c16] at H;exact absurd H (by simp)
         rw [if_neg c14] at H;exact absurd H (by simp)
        exact zq520
       exact zq523
      rw [if_neg c10] at H;exact absurd H (by simp)
     rw [if_neg c8] at H;have c8b0:=decide_eq_false c8;clear c8;obtain ⟨ji26,hji26⟩:∃ j_:Int,(wrap64 (x8_1 - 15))=j_:=⟨_,rfl⟩;replace H:(if 0≤(ji26) then (if (ji26) < (x7_1.length:Int) then (if 0≤(wrap64 (x8_1 - 2)) then (if (wrap64 (x8_1 - 2)) < (x7_1.length:Int) then ((spec_Rotate.f (rd x7_1 (ji26)) 7).bind fun t114=>((spec_Rotate.f (rd x7_1 (ji26)) 18).bind fun t115=>((spec_Rotate.f (rd x7_1 (wrap64 (x8_1 - 2))) 17).bind fun t116=>((spec_Rotate.f (rd x7_1 (wrap64 (x8_1 - 2))) 19).bind fun t117=>(if 0≤(wrap64 (x8_1 - 7)) then (if (wrap64 (x8_1 - 7)) < (x7_1.length:Int) then (if 0≤(wrap64 (x8_1 - 16)) then (if (wrap64 (x8_1 - 16)) < (x7_1.length:Int) then (if 0≤x8_1 then (if x8_1 < (x7_1.length:Int) then (spec_l1Block.l0 k1 l0 l1 l2 (x7_1.set (x8_1:Int).toNat (((((((Go.bits .xor .u32 (Go.bits .xor .u32 t116 t117) ((rd x7_1 (wrap64 (x8_1 - 2))) / 1024)) + (rd x7_1 (wrap64 (x8_1 - 7)))) % 4294967296) + (Go.bits .xor .u32 (Go.bits .xor .u32 t114 t115) ((rd x7_1 (ji26)) / 8))) % 4294967296) + (rd x7_1 (wrap64 (x8_1 - 16)))) % 4294967296)) (wrap64 (x8_1 + 1))) else (none)) else (none)) else (none)) else (none)) else (none)) else (none)))))) else (none)) else (none)) else (none)) else (none))=some r:=by first|(rw [hji26] at H;exact H)|(simp only [hji26] at H ⊢;exact H)
     have hji26w:(IntKind.i64.wrap (x8_1 - 15))=ji26:=(i64_w _).trans hji26;by_cases c27:0≤(ji26)
     ·
      rw [if_pos c27] at H;have c27b0:=decide_eq_true c27;clear c27;by_cases c28:(ji26) < (x7_1.length:Int)
      ·
       rw [if_pos c28] at H;have c28b0:=decide_eq_true c28;clear c28;obtain ⟨ji29,hji29⟩:∃ j_:Int,(wrap64 (x8_1 - 2))=j_:=⟨_,rfl⟩;replace H:(if 0≤(ji29) then (if (ji29) < (x7_1.length:Int) then ((spec_Rotate.f (rd x7_1 (ji26)) 7).bind fun t114=>((spec_Rotate.f (rd x7_1 (ji26)) 18).bind fun t115=>((spec_Rotate.f (rd x7_1 (ji29)) 17).bind fun t116=>((spec_Rotate.f (rd x7_1 (ji29)) 19).bind fun t117=>(if 0≤(wrap64 (x8_1 - 7)) then (if (wrap64 (x8_1 - 7)) < (x7_1.length:Int) then (if 0≤(wrap64 (x8_1 - 16)) then (if (wrap64 (x8_1 - 16)) < (x7_1.length:Int) then (if 0≤x8_1 then (if x8_1 < (x7_1.length:Int) then (spec_l1Block.l0 k1 l0 l1 l2 (x7_1.set (x8_1:Int).toNat (((((((Go.bits .xor .u32 (Go.bits .xor .u32 t116 t117) ((rd x7_1 (ji29)) / 1024)) + (rd x7_1 (wrap64 (x8_1 - 7)))) % 4294967296) + (Go.bits .xor .u32 (Go.bits .xor .u32 t114 t115) ((rd x7_1 (ji26)) / 8))) % 4294967296) + (rd x7_1 (wrap64 (x8_1 - 16)))) % 4294967296)) (wrap64 (x8_1 + 1))) else (none)) else (none)) else (none)) else (none)) else (none)) else (none)))))) else (none)) else (none))=some r:=by first|(rw [hji29] at H;exact H)|(simp only [hji29] at H ⊢;exact H)
       have hji29w:(IntKind.i64.wrap (x8_1 - 2))=ji29:=(i64_w _).trans hji29;by_cases c30:0≤(ji29)
       ·
        rw [if_pos c30] at H;have c30b0:=decide_eq_true c30;clear c30;by_cases c31:(ji29) < (x7_1.length:Int)
        ·
         rw [if_pos c31] at H;have c31b0:=decide_eq_true c31;clear c31;replace H:=Option.bind_eq_some_iff.mp H;obtain ⟨t114,A320,H⟩:=H;(try dsimp only at H);have A32:=aM A320;clear A320;replace H:=Option.bind_eq_some_iff.mp H;obtain ⟨t115,A330,H⟩:=H;(try dsimp only at H);have A33:=aM A330;clear A330;replace H:=Option.bind_eq_some_iff.mp H;obtain ⟨t116,A340,H⟩:=H;(try dsimp only at H);have A34:=aM A340;clear A340;replace H:=Option.bind_eq_some_iff.mp H;obtain ⟨t117,A350,H⟩:=H;(try dsimp only at H);have A35:=aM A350;clear A350;obtain ⟨ji36,hji36⟩:∃ j_:Int,(wrap64 (x8_1 - 7))=j_:=⟨_,rfl⟩;replace H:(if 0≤(ji36) then (if (ji36) < (x7_1.length:Int) then (if 0≤(wrap64 (x8_1 - 16)) then (if (wrap64 (x8_1 - 16)) < (x7_1.length:Int) then (if 0≤x8_1 then (if x8_1 < (x7_1.length:Int) then (spec_l1Block.l0 k1 l0 l1 l2 (x7_1.set (x8_1:Int).toNat (((((((Go.bits .xor .u32 (Go.bits .xor .u32 t116 t117) ((rd x7_1 (ji29)) / 1024)) + (rd x7_1 (ji36))) % 4294967296) + (Go.bits .xor .u32 (Go.bits .xor .u32 t114 t115) ((rd x7_1 (ji26)) / 8))) % 4294967296) + (rd x7_1 (wrap64 (x8_1 - 16)))) % 4294967296)) (wrap64 (x8_1 + 1))) else (none)) else (none)) else (none)) else (none)) else (none)) else (none))=some r:=by first|(rw [hji36] at H;exact H)|(simp only [hji36] at H ⊢;exact H)
         (try rw [hji36] at A32);(try rw [hji36] at A33);(try rw [hji36] at A34);(try rw [hji36] at A35);have hji36w:(IntKind.i64.wrap (x8_1 - 7))=ji36:=(i64_w _).trans hji36;by_cases c37:0≤(ji36)
         ·
          rw [if_pos c37] at H;have c37b0:=decide_eq_true c37;clear c37;by_cases c38:(ji36) < (x7_1.length:Int)
          ·
           rw [if_pos c38] at H;have c38b0:=decide_eq_true c38;clear c38;obtain ⟨ji39,hji39⟩:∃ j_:Int,(wrap64 (x8_1 - 16))=j_:=⟨_,rfl⟩;replace H:(if 0≤(ji39) then (if (ji39) < (x7_1.length:Int) then (if 0≤x8_1 then (if x8_1 < (x7_1.length:Int) then (spec_l1Block.l0 k1 l0 l1 l2 (x7_1.set (x8_1:Int).toNat (((((((Go.bits .xor .u32 (Go.bits .xor .u32 t116 t117) ((rd x7_1 (ji29)) / 1024)) + (rd x7_1 (ji36))) % 4294967296) + (Go.bits .xor .u32 (Go.bits .xor .u32 t114 t115) ((rd x7_1 (ji26)) / 8))) % 4294967296) + (rd x7_1 (ji39))) % 4294967296)) (wrap64 (x8_1 + 1))) else (none)) else (none)) else (none)) else (none))=some r:=by first|(rw [hji39] at H;exact H)|(simp only [hji39] at H ⊢;exact H)
           (try rw [hji39] at A32);(try rw [hji39] at A33);(try rw [hji39] at A34);(try rw [hji39] at A35);have hji39w:(IntKind.i64.wrap (x8_1 - 16))=ji39:=(i64_w _).trans hji39;by_cases c40:0≤(ji39)
           ·
            rw [if_pos c40] at H;have c40b0:=decide_eq_true c40;clear c40;by_cases c41:(ji39) < (x7_1.length:Int)
            ·
             rw [if_pos c41] at H;have c41b0:=decide_eq_true c41;clear c41;by_cases c42:0≤x8_1
             ·
              rw [if_pos c42] at H;have c42b0:=decide_eq_true c42;clear c42;by_cases c43:x8_1 < (x7_1.length:Int)
              ·
               rw [if_pos c43] at H;have c43b0:=decide_eq_true c43;clear c43;obtain ⟨y120,hy120⟩:∃ y_:List Int,y_=(x7_1.set (x8_1:Int).toNat (((((((Go.bits .xor .u32 (Go.bits .xor .u32 t116 t117) ((rd x7_1 (ji29)) / 1024)) + (rd x7_1 (ji36))) % 4294967296) + (Go.bits .xor .u32 (Go.bits .xor .u32 t114 t115) ((rd x7_1 (ji26)) / 8))) % 4294967296) + (rd x7_1 (ji39))) % 4294967296)):=⟨_,rfl⟩;have hy_:=hy120;replace H:(spec_l1Block.l0 k1 l0 l1 l2 y120 (wrap64 (x8_1 + 1)))=some r:=hyE;clear hy_;have Ny120:=aM hy120;clear hy120;have H':=aM H;clear H;obtain ⟨Ao45,co45,eo45⟩:=Kd.R_slice HO_7.out;subst eo45;have p112:0≤((ji26):Int):=of_decide_eq_true zq34;have q112:(ji26) < (x7_1.length:Int):=of_decide_eq_true zq34;obtain ⟨ad112,e112,hx112_0⟩:=Kd.at_int (Kd.R_reads' HO_7.out).2.2 (ji26) p112 q112;cases e112;replace p112:=eq_true p112;replace q112:=eq_true q112;have p113:0≤((ji29):Int):=of_decide_eq_true zq34;have q113:(ji29) < (x7_1.length:Int):=of_decide_eq_true zq34;obtain ⟨ad113,e113,hx113_0⟩:=Kd.at_int (Kd.R_reads' HO_7.out).2.2 (ji29) p113 q113;obtain rfl:ad112=ad113:=(by injection e113);replace p113:=eq_true p113;replace q113:=eq_true q113
               try go_wp2_with (first|((with_reducible refine gC 69 rfl ?_);refine gL 75 Try.func69 #[.int .u32 (rd x7_1 (ji26)),.int .i64 7] ?_;(with_reducible refine (spec_Rotate.calls (rd x7_1 (ji26)) 7 t114 _ A32.out).mono ?_);rintro e w' ⟨rfl,⟨nd,rfl⟩⟩;refine ⟨_,rfl,?_⟩;repeat (rw [drewN_self wr];generalize hq_:World.drewN wr _=wr;have n0_:Aside0 (Kd.R (Kd.int .u32) 62 wr w.heap.size (fun _=>True) (.slice (some ad112) x7_1.length co45) x7_1):=⟨zq481⟩;have n1_:Aside0 (Below w.heap.size w wr):=⟨zq482⟩;clear HO_7 HB hq_;have HO_7:=n0_;have HB:=n1_;clear n0_ n1_))|((with_reducible refine gC 69 rfl ?_);refine gL 77 Try.func69 #[.int .u32 (rd x7_1 (ji26)),.int .i64 18] ?_;(with_reducible refine (spec_Rotate.calls (rd x7_1 (ji26)) 18 t115 _ A33.out).mono ?_);rintro e w' ⟨rfl,⟨nd,rfl⟩⟩;refine ⟨_,rfl,?_⟩;repeat (rw [drewN_self wr];generalize hq_:World.drewN wr _=wr;have n0_:Aside0 (Kd.R (Kd.int .u32) 62 wr w.heap.size (fun _=>True) (.slice (some ad112) x7_1.length co45) x7_1):=⟨zq481⟩;have n1_:Aside0 (Below w.heap.size w wr):=⟨zq482⟩;clear HO_7 HB hq_;have HO_7:=n0_;have HB:=n1_;clear n0_ n1_))|((with_reducible refine gC 69 rfl ?_);refine gL 83 Try.func69 #[.int .u32 (rd x7_1 (ji29)),.int .i64 17] ?_;(with_reducible refine (spec_Rotate.calls (rd x7_1 (ji29)) 17 t116 _ A34.out).mono ?_);rintro e w' ⟨rfl,⟨nd,rfl⟩⟩;refine ⟨_,rfl,?_⟩;repeat (rw [drewN_self wr];generalize hq_:World.drewN wr _=wr;have n0_:Aside0 (Kd.R (Kd.int .u32) 62 wr w.heap.size (fun _=>True) (.slice (some ad112) x7_1.length co45) x7_1):=⟨zq481⟩;have n1_:Aside0 (Below w.heap.size w wr):=⟨zq482⟩;clear HO_7 HB hq_;have HO_7:=n0_;have HB:=n1_;clear n0_ n1_))|((with_reducible refine gC 69 rfl ?_);refine gL 85 Try.func69 #[.int .u32 (rd x7_1 (ji29)),.int .i64 19] ?_;(with_reducible refine (spec_Rotate.calls (rd x7_1 (ji29)) 19 t117 _ A35.out).mono ?_);rintro e w' ⟨rfl,⟨nd,rfl⟩⟩;refine ⟨_,rfl,?_⟩;repeat (rw [drewN_self wr];generalize hq_:World.drewN wr _=wr;have n0_:Aside0 (Kd.R (Kd.int .u32) 62 wr w.heap.size (fun _=>True) (.slice (some ad112) x7_1.length co45) x7_1):=⟨zq481⟩;have n1_:Aside0 (Below w.heap.size w wr):=⟨zq482⟩;clear HO_7 HB hq_;have HO_7:=n0_;have HB:=n1_;clear n0_ n1_)))
               replace HO_7:=rD HO_7;replace HB:=aM (below_drew1 HB.out);have p118:0≤((ji36):Int):=of_decide_eq_true zq34;have q118:(ji36) < (x7_1.length:Int):=of_decide_eq_true zq34;obtain ⟨ad118,e118,hx118_0⟩:=Kd.at_int (Kd.R_reads' HO_7.out).2.2 (ji36) p118 q118;obtain rfl:ad112=ad118:=(by injection e118);replace p118:=eq_true p118;replace q118:=eq_true q118;have p119:0≤((ji39):Int):=of_decide_eq_true zq34;have q119:(ji39) < (x7_1.length:Int):=of_decide_eq_true zq34;obtain ⟨ad119,e119,hx119_0⟩:=Kd.at_int (Kd.R_reads' HO_7.out).2.2 (ji39) p119 q119;obtain rfl:ad112=ad119:=(by injection e119);replace p119:=eq_true p119;replace q119:=eq_true q119;have p44:0≤(x8_1:Int):=of_decide_eq_true zq34;have q44:(x8_1:Int) < ((x7_1.length:Int):Int):=of_decide_eq_true zq34;obtain ⟨go44,co44,eo44,gb44,gl44,cl44,HG44⟩:=Kd.R_form HO_7.out (by omega)
               (first | cases eo44|(injection eo44 with ea_ en_ ec_;(first | subst ea_|(injection ea_ with ea_;subst ea_));subst ec_;clear en_))
               have GB44:=aM gb44;have GG44:=aM HG44;clear gb44 gl44 HG44
               (first | simp only [add_plain] at hx112_0 | skip)
               (first | simp only [add_plain] at hx113_0 | skip)
               (first | simp only [add_plain] at hx118_0 | skip)
               (first | simp only [add_plain] at hx119_0 | skip)
               obtain ⟨hx44_0,hf44_0⟩:=Kd.R_celln 0 HO_7.out (x8_1:Int) p44 q44;replace p44:=eq_true p44;replace q44:=eq_true q44;have HP47:=Kd.R_putn HO_7.out (x8_1:Int) (((((((Go.bits .xor .u32 (Go.bits .xor .u32 t116 t117) ((rd x7_1 (ji29)) / 1024)) + (rd x7_1 (ji36))) % 4294967296) + (Go.bits .xor .u32 (Go.bits .xor .u32 t114 t115) ((rd x7_1 (ji26)) / 8))) % 4294967296) + (rd x7_1 (ji39))) % 4294967296);rw [← Ny120.out] at HP47;have HQ47:=aM HP47;clear HP47;refine start_ (n:=19) (S:=fun w'=>w'.cell? ⟨go44,((ji36)).toNat,none⟩=some (.int .u32 (rd x7_1 (ji36)))∧w'.cell? ⟨go44,((ji39)).toNat,none⟩=some (.int .u32 (rd x7_1 (ji39)))) (ds:=[18]) (bA 19 0) (by kernel_rfl) rfl rfl ⟨hx118_0,hx119_0⟩ (fun hHeld=>?_);refine with_tabW spec_l1Block.tab11 spec_l1Block.bits11 (fun HT_ HW_=>?_)
               generalize wr.drew=w46 at HO_7 HB GG44 HQ47 hf44_0 hx112_0 hx113_0 hx118_0 hx119_0 hx44_0 hHeld ⊢;refine pV 0 90 19 1 ?_;refine pV 1 91 19 3 ?_;refine pV 2 92 19 7 ?_;refine pV 3 93 19 15 ?_;refine pV 4 94 19 31 ?_;refine pV 5 95 19 63 ?_;refine pV 6 96 19 127 ?_;refine pV 9 99 19 639 ?_;refine pV 11 101 19 2687 ?_;refine pV 12 102 19 6783 ?_;refine pV 13 103 19 14975 ?_;refine pV 14 104 19 31359 ?_;refine tV 7 97 19 31487 rfl zq521 ?_;refine pV 8 98 19 31743 ?_;refine pV 10 100 19 32767 ?_;refine tV 15 105 19 65535 rfl zq521 ?_;refine pV 16 106 19 131071 ?_;refine pV 17 107 19 262143 ?_;refine last_ (i:=18) (N:=none) (bA 19 524287) rfl rfl (one_of HT_.out (by kernel_rfl)) (by decide) (fun K hK=>?_);refine skip_ (w1:=?_) (by rfl) rfl ?_ ?_;rotate_left
               ·
                go_simp
                rfl
               refine hK.out _ _ ?_;clear hK K;refine dE ?_
               try go_wp2
               go_roundg k1
               case measure=>have:=HK1.out;omega
               case rel=>exact ⟨(y120),(wrap64 (x8_1 + 1)),zq19,H',⟨zq43⟩,⟨by refine dR ?_;first | exact HQ47.out|(have h_:=HQ47.out;simp only [Int.emod_add_emod,Int.add_emod_emod] at h_ ⊢;exact h_)⟩,⟨by repeat (first|(with_reducible first | exact HB.out | apply below_alloc | apply pw_below_drewN | apply below_drew1 | refine below_set ?_ GB44.out)|exact HB.out)⟩⟩
              rw [if_neg c43] at H;exact absurd H (by simp)
             rw [if_neg c42] at H;exact absurd H (by simp)
            rw [if_neg c41] at H;exact absurd H (by simp)
           rw [if_neg c40] at H;exact absurd H (by simp)
          rw [if_neg c38] at H;exact absurd H (by simp)
         rw [if_neg c37] at H;exact absurd H (by simp)
        rw [if_neg c31] at H;exact absurd H (by simp)
       exact zq528
      rw [if_neg c28] at H;exact absurd H (by simp)
     rw [if_neg c27] at H;exact absurd H (by simp)
    rw [if_neg c7] at H;have c7b0:=decide_eq_false c7;clear c7;obtain ⟨y121,hy121⟩:∃ y_:List Int,y_=(([]:List Int)):=⟨_,rfl⟩;have hy_:=hy121;replace H:(if y121.length + l0.length < 35184372088832 then (spec_l1Block.l1 k1 l0 l1 x7_1 (y121 ++ l0) 0) else (none))=some r:=hyE;clear hy_;have Ny121:=aM hy121;clear hy121;by_cases c48:y121.length + l0.length < 35184372088832
    ·
     rw [if_pos c48] at H;have LMc48:=aM c48;clear c48;obtain ⟨y124,hy124⟩:∃ y_:List Int,y_=(y121 ++ l0):=⟨_,rfl⟩;have hy_:=hy124;replace H:(spec_l1Block.l1 k1 l0 l1 x7_1 y124 0)=some r:=hyE;clear hy_;have Ny124:=aM hy124;clear hy124;have H':=aM H;clear H
     go_wp2_with (first|((with_reducible refine gD 108 rfl ?_);refine Kd.R_lit (Kd.int .u32) _ 62 ?hg (N:=108) ?hd (xs:=([]:List Int)) (inner:=[]) (ok:=fun _=>True) (okp:=fun _=>True) ?hr ?hp (fun _ hk=>hk) trivial (Below.refl _ _) (Nat.le_refl _) (by simp) ?_;(case hd=>rfl);(case hg=>rfl);(case hr=>exact zq340);(case hp=>exact zq108);intro v122 w49 ho50 hb hg_ hnew_;clear hg_ hnew_;(first | rw [← Ny121.out] at ho50|(simp only [Int.reduceToNat] at ho50;rw [← Ny121.out] at ho50));have HO123:=aM (Kd.R_lower (Kd.R_new' ho50 (Kd.R_lt zq342)) (below_size zq3));replace HO_7:=aM (Kd.R_elder' zq342 (Kd.R_base ho50) hb);replace HB:=sB zq3 hb;clear hb ho50)|((with_reducible refine gate_builtin (b:=.append) (xs:=#[.tmp 108,.tmp 109]) rfl ?_);at_builtin;refine Kd.R_append_rows (Kd.int .u32) (w0:=w) w.heap.size rfl (.tmp 108) (.tmp 109) 59 62 (.int .u32 0) 4 rfl Try.underlying59 info62 rfl (by decide) (by omega) v122 y121 l0 _ _ _ (fun k_=>some k_≠(v105:Value).ownBlock) (fun _=>False) rfl rfl ?aO ?aR (fun _ _ h=>h) (fun _ h=>h.elim) ?aF ?aB ?aS ?aL ?_;(case aR=>repeat (first | exact (Kd.C_below HR0.out HB.out)|(with_reducible refine Kd.C_alloc ?_ _)|(with_reducible refine Kd.C_drewN ?_ _)|(with_reducible refine Kd.C_drew ?_)));(case aB=>exact zq3);(case aF=>exact (fun k_ hk=>Kd.fresh' (Kd.R_lt zq342) k_ hk));(case aO=>exact (by refine dR ?_;first | exact Kd.R_mono HO123.out (fun _ hk=>hk.2)|(have h_:=Kd.R_mono HO123.out (fun _ hk=>hk.2);simp only [Int.emod_add_emod,Int.add_emod_emod] at h_ ⊢;exact h_)));(case aS=>exact zq429);(case aL=>have:=LMc48.out;omega);intro v125 w51 ho hb hg hat;rw [← Ny124.out] at ho;have n0_:=aM (Kd.R_after (ok:=(fun _=>True)) zq342 hg hat);have n1_:=aM (hb);have n2_:=aM (ho);clear HO_7;clear HB;clear HO123;have HO_7:=n0_;have HB:=n1_;have HO126:=n2_;clear n0_ n1_ n2_;clear ho hb hg hat))
     go_loopg [13,14] k1 (fun kq v13 v14 w'=>∃ (x13_2:List Int) (x14_2:Int),v14 = .int .i64 x14_2∧Aside0 (spec_l1Block.l1 kq l0 l1 x7_1 x13_2 x14_2=some r)∧Aside0 (kq≤k1)∧Aside0 (Kd.R (Kd.int .u32) 62 w' w.heap.size (fun k_=>some k_≠(v13:Value).ownBlock) v105 x7_1)∧Aside0 (Kd.R (Kd.int .u32) 62 w' w.heap.size (fun k_=>some k_≠(v105:Value).ownBlock) v13 x13_2)∧Aside0 (Below w.heap.size w w'))
     case atStart=>exact ⟨(y124),(0),zq19,H',⟨Nat.le_refl _⟩,⟨zq344⟩,⟨by refine dR ?_;first | exact HO126.out|(have h_:=HO126.out;simp only [Int.emod_add_emod,Int.add_emod_emod] at h_ ⊢;exact h_)⟩,⟨zq3⟩⟩
     case round =>
      clear H';(try clear c1);(try clear c2);(try clear c7b0);obtain ⟨x13_2,x14_2,rfl,HA,HK2,HO_7,HO_13,HB⟩:=hrel
      cases gk with
      | zero=>exact absurd HA.out (by simp [spec_l1Block.l1])
      | succ k2 =>
       have H:=HA.out;clear HA;simp only [spec_l1Block.l1] at H;by_cases c52:x14_2 < 64
       ·
        rw [if_pos c52] at H;have c52b0:=decide_eq_true c52;clear c52;by_cases c53:0 < (x13_2.length:Int)
        ·
         rw [if_pos c53] at H;have c53b0:=decide_eq_true c53;have c53b1:decide (0 < x13_2.length)=true:=decide_eq_true (by omega);clear c53;by_cases c54:4 < (x13_2.length:Int)
         ·
          rw [if_pos c54] at H;have c54b0:=decide_eq_true c54;have c54b1:decide (4 < x13_2.length)=true:=decide_eq_true (by omega);clear c54;by_cases c55:7 < (x13_2.length:Int)
          ·
           rw [if_pos c55] at H;have c55b0:=decide_eq_true c55;have c55b1:decide (7 < x13_2.length)=true:=decide_eq_true (by omega);clear c55;replace H:=Option.bind_eq_some_iff.mp H;obtain ⟨t130,A560,H⟩:=H;(try dsimp only at H);have A56:=aM A560;clear A560;replace H:=Option.bind_eq_some_iff.mp H;obtain ⟨t131,A570,H⟩:=H;(try dsimp only at H);have A57:=aM A570;clear A570;replace H:=Option.bind_eq_some_iff.mp H;obtain ⟨t132,A580,H⟩:=H;(try dsimp only at H);have A58:=aM A580;clear A580;by_cases c59:5 < (x13_2.length:Int)
           ·
            rw [if_pos c59] at H;have c59b0:=decide_eq_true c59;have c59b1:decide (5 < x13_2.length)=true:=decide_eq_true (by omega);clear c59;by_cases c60:6 < (x13_2.length:Int)
            ·
             rw [if_pos c60] at H;have c60b0:=decide_eq_true c60;have c60b1:decide (6 < x13_2.length)=true:=decide_eq_true (by omega);clear c60;by_cases c61:0≤x14_2
             ·
              rw [if_pos c61] at H;have c61b0:=decide_eq_true c61;clear c61;by_cases c62:x14_2 < (l1.length:Int)
              ·
               rw [if_pos c62] at H;have c62b0:=decide_eq_true c62;clear c62;by_cases c63:x14_2 < (x7_1.length:Int)
               ·
                rw [if_pos c63] at H;have c63b0:=decide_eq_true c63;clear c63;replace H:=Option.bind_eq_some_iff.mp H;obtain ⟨t137,A640,H⟩:=H;(try dsimp only at H);have A64:=aM A640;clear A640;replace H:=Option.bind_eq_some_iff.mp H;obtain ⟨t138,A650,H⟩:=H;(try dsimp only at H);have A65:=aM A650;clear A650;replace H:=Option.bind_eq_some_iff.mp H;obtain ⟨t139,A660,H⟩:=H;(try dsimp only at H);have A66:=aM A660;clear A660;by_cases c67:1 < (x13_2.length:Int)
                ·
                 rw [if_pos c67] at H;have c67b0:=decide_eq_true c67;have c67b1:decide (1 < x13_2.length)=true:=decide_eq_true (by omega);clear c67;by_cases c68:2 < (x13_2.length:Int)
                 ·
                  rw [if_pos c68] at H;have c68b0:=decide_eq_true c68;have c68b1:decide (2 < x13_2.length)=true:=decide_eq_true (by omega);clear c68;by_cases c69:3 < (x13_2.length:Int)
                  ·
                   rw [if_pos c69] at H;have c69b0:=decide_eq_true c69;have c69b1:decide (3 < x13_2.length)=true:=decide_eq_true (by omega);clear c69;obtain ⟨y149,hy149⟩:∃ y_:List Int,y_=(([((((((((((rd x13_2 7) + (Go.bits .xor .u32 (Go.bits .xor .u32 t130 t131) t132)) % 4294967296) + (Go.bits .xor .u32 (Go.bits .and .u32 (rd x13_2 4) (rd x13_2 5)) (Go.bits .and .u32 (Go.bits .xor .u32 4294967295 (rd x13_2 4)) (rd x13_2 6)))) % 4294967296) + (rd l1 x14_2)) % 4294967296) + (rd x7_1 x14_2)) % 4294967296) + (((Go.bits .xor .u32 (Go.bits .xor .u32 t137 t138) t139) + (Go.bits .xor .u32 (Go.bits .xor .u32 (Go.bits .and .u32 (rd x13_2 0) (rd x13_2 1)) (Go.bits .and .u32 (rd x13_2 0) (rd x13_2 2))) (Go.bits .and .u32 (rd x13_2 1) (rd x13_2 2)))) % 4294967296)) % 4294967296,rd x13_2 0,rd x13_2 1,rd x13_2 2,((rd x13_2 3) + (((((((((rd x13_2 7) + (Go.bits .xor .u32 (Go.bits .xor .u32 t130 t131) t132)) % 4294967296) + (Go.bits .xor .u32 (Go.bits .and .u32 (rd x13_2 4) (rd x13_2 5)) (Go.bits .and .u32 (Go.bits .xor .u32 4294967295 (rd x13_2 4)) (rd x13_2 6)))) % 4294967296) + (rd l1 x14_2)) % 4294967296) + (rd x7_1 x14_2)) % 4294967296)) % 4294967296,rd x13_2 4,rd x13_2 5,rd x13_2 6]:List Int)):=⟨_,rfl⟩;have hy_:=hy149;replace H:(spec_l1Block.l1 k2 l0 l1 x7_1 y149 (wrap64 (x14_2 + 1)))=some r:=hyE;clear hy_;have Ny149:=aM hy149;clear hy149;have H':=aM H;clear H;obtain ⟨Ao70,co70,eo70⟩:=Kd.R_slice HO_13.out;subst eo70
                   have p127:0≤(0:Int):=(by omega);have q127:0 < (x13_2.length:Int):=of_decide_eq_true zq34;obtain ⟨ad127,e127,hx127_0⟩:=Kd.at_int (Kd.R_reads' HO_13.out).2.2 0 p127 q127;cases e127;have qi127:(0 < x13_2.length)=True:=eq_true (by omega)
                   (try rw [show ((0:Int)).toNat=0 from rfl] at hx127_0)
                   (try rw [Addr.add_zero'] at hx127_0);replace p127:=eq_true p127;replace q127:=eq_true q127;have p128:0≤(4:Int):=(by omega);have q128:4 < (x13_2.length:Int):=of_decide_eq_true zq34;obtain ⟨ad128,e128,hx128_0⟩:=Kd.at_int (Kd.R_reads' HO_13.out).2.2 4 p128 q128;obtain rfl:ad127=ad128:=(by injection e128)
                   (try simp only [show (4:Int).toNat=4 from rfl,Nat.reduceMul,Nat.reduceEqDiff,Go.Addr.add,↓reduceIte] at hx128_0)
                   have qi128:(4 < x13_2.length)=True:=eq_true (by omega)
                   (try rw [show ((4:Int)).toNat=4 from rfl] at hx128_0)
                   replace p128:=eq_true p128;replace q128:=eq_true q128
                   try go_wp2
                   replace HO_7:=rD HO_7;replace HO_13:=rD HO_13;replace HB:=aM (below_drew1 HB.out);have p129:0≤(7:Int):=(by omega);have q129:7 < (x13_2.length:Int):=of_decide_eq_true zq34;obtain ⟨ad129,e129,hx129_0⟩:=Kd.at_int (Kd.R_reads' HO_13.out).2.2 7 p129 q129;obtain rfl:ad127=ad129:=(by injection e129)
                   (try simp only [show (7:Int).toNat=7 from rfl,Nat.reduceMul,Nat.reduceEqDiff,Go.Addr.add,↓reduceIte] at hx129_0)
                   have qi129:(7 < x13_2.length)=True:=eq_true (by omega)
                   (try rw [show ((7:Int)).toNat=7 from rfl] at hx129_0)
                   replace p129:=eq_true p129;replace q129:=eq_true q129;have p133:0≤(5:Int):=(by omega);have q133:5 < (x13_2.length:Int):=of_decide_eq_true zq34;obtain ⟨ad133,e133,hx133_0⟩:=Kd.at_int (Kd.R_reads' HO_13.out).2.2 5 p133 q133;obtain rfl:ad127=ad133:=(by injection e133)
                   (try simp only [show (5:Int).toNat=5 from rfl,Nat.reduceMul,Nat.reduceEqDiff,Go.Addr.add,↓reduceIte] at hx133_0)
                   have qi133:(5 < x13_2.length)=True:=eq_true (by omega)
                   (try rw [show ((5:Int)).toNat=5 from rfl] at hx133_0)
                   replace p133:=eq_true p133;replace q133:=eq_true q133;have p134:0≤(6:Int):=(by omega);have q134:6 < (x13_2.length:Int):=of_decide_eq_true zq34;obtain ⟨ad134,e134,hx134_0⟩:=Kd.at_int (Kd.R_reads' HO_13.out).2.2 6 p134 q134;obtain rfl:ad127=ad134:=(by injection e134)
                   (try simp only [show (6:Int).toNat=6 from rfl,Nat.reduceMul,Nat.reduceEqDiff,Go.Addr.add,↓reduceIte] at hx134_0)
                   have qi134:(6 < x13_2.length)=True:=eq_true (by omega)
                   (try rw [show ((6:Int)).toNat=6 from rfl] at hx134_0)
                   replace p134:=eq_true p134;replace q134:=eq_true q134;have p135:0≤(x14_2:Int):=of_decide_eq_true zq34;have q135:x14_2 < (l1.length:Int):=of_decide_eq_true zq34;obtain ⟨ad135,e135,hx135_0⟩:=Kd.at_int HR1.out x14_2 p135 q135;have hw135_0:=hx135_0;cases e135;replace hx135_0:=hxB HB hx135_0;replace p135:=eq_true p135;replace q135:=eq_true q135;obtain ⟨Ao72,co72,eo72⟩:=Kd.R_slice HO_7.out
                   (first | subst eo72|(injection eo72 with f1_ f2_ f3_;have f4_:=f1_.symm;have f5_:=f3_.symm;clear f1_ f2_ f3_;subst f4_;subst f5_))
                   have p136:0≤(x14_2:Int):=of_decide_eq_true zq34;have q136:x14_2 < (x7_1.length:Int):=of_decide_eq_true zq34;obtain ⟨ad136,e136,hx136_0⟩:=Kd.at_int (Kd.R_reads' HO_7.out).2.2 x14_2 p136 q136;cases e136;replace p136:=eq_true p136;replace q136:=eq_true q136;refine start_ (n:=36) (S:=fun w'=>w'.cell? ⟨ad127.block,ad127.off + 7,none⟩=some (.int .u32 (rd x13_2 7))∧w'.cell? ⟨ad127.block,ad127.off + 5,none⟩=some (.int .u32 (rd x13_2 5))∧w'.cell? ⟨ad127.block,ad127.off + 6,none⟩=some (.int .u32 (rd x13_2 6))∧w'.cell? (ad135.add (x14_2).toNat)=some (.int .u32 (rd l1 x14_2))∧w'.cell? (ad136.add (x14_2).toNat)=some (.int .u32 (rd x7_1 x14_2))) (ds:=[]) (bA 36 0) (by kernel_rfl) rfl rfl ⟨hx129_0,hx133_0,hx134_0,(hxB HB hw135_0:_),hx136_0⟩ (fun hHeld=>?_);refine with_tabW spec_l1Block.tab18 spec_l1Block.bits18 (fun HT_ HW_=>?_)
                   generalize wr.drew=w71 at HO_7 HO_13 HB hx129_0 hx133_0 hx134_0 hx135_0 hx136_0 hHeld ⊢;refine pV 0 121 36 1 ?_;refine pV 1 122 36 3 ?_;refine pV 3 124 36 11 ?_;refine pV 5 126 36 43 ?_;refine pV 8 129 36 299 ?_;refine pV 12 133 36 4395 ?_;refine pV 13 134 36 12587 ?_;refine pV 14 135 36 28971 ?_;refine pV 17 138 36 160043 ?_;refine pV 18 139 36 422187 ?_;refine pV 19 140 36 946475 ?_;refine pV 20 141 36 1995051 ?_;refine pV 25 146 36 35549483 ?_;refine pV 26 147 36 102658347 ?_;refine pV 27 148 36 236876075 ?_;refine pV 30 151 36 1310617899 ?_;refine pV 31 152 36 3458101547 ?_;refine pV 32 153 36 7753068843 ?_;refine tV 2 123 36 7753068847 rfl zq522 ?_;refine tV 15 136 36 7753101615 rfl zq522 ?_;refine pV 16 137 36 7753167151 ?_;refine tV 21 142 36 7755264303 rfl zq522 ?_;refine pV 22 143 36 7759458607 ?_;refine pV 23 144 36 7767847215 ?_;refine tV 28 149 36 8036282671 rfl zq522 ?_;refine tV 33 154 36 16626217263 rfl zq522 ?_;refine oE 4 125 36 16626217279 rfl (fun K hK=>?_);refine goes_ Try.func69 (by kernel_rfl) rfl #[.int .u32 (rd x13_2 4),.int .i64 6] (by rfl) rfl rfl zq6 ?_
                   with_reducible refine (spec_Rotate.calls (rd x13_2 4) 6 t130 _ A56.out).mono ?_
                   rintro e w' ⟨rfl,⟨nd,rfl⟩⟩;refine ⟨_,rfl,?_⟩;refine hK.out _ _ ⟨hHeld.1,hHeld.2.1,hHeld.2.2.1,(hxB HB hw135_0:_),hHeld.2.2.2.2⟩ (fun hHeld=>?_);clear hK K;refine norm_ (a':=?_) ?_ ?_;rotate_left
                   ·
                    show Act.put _ (some 125) _=_
                    simp only [Act.put,List.setIfInBounds_toArray,List.set_cons_zero,List.set_cons_succ,i64_w,i32_w]
                    rfl
                   refine oE 6 127 36 16626217343 rfl (fun K hK=>?_);refine goes_ Try.func69 (by kernel_rfl) rfl #[.int .u32 (rd x13_2 4),.int .i64 11] (by rfl) rfl rfl zq6 ?_
                   with_reducible refine (spec_Rotate.calls (rd x13_2 4) 11 t131 _ A57.out).mono ?_
                   rintro e w' ⟨rfl,⟨nd,rfl⟩⟩;refine ⟨_,rfl,?_⟩;refine hK.out _ _ ⟨hHeld.1,hHeld.2.1,hHeld.2.2.1,(hxB HB hw135_0:_),hHeld.2.2.2.2⟩ (fun hHeld=>?_);clear hK K;refine norm_ (a':=?_) ?_ ?_;rotate_left
                   ·
                    show Act.put _ (some 127) _=_
                    simp only [Act.put,List.setIfInBounds_toArray,List.set_cons_zero,List.set_cons_succ,i64_w,i32_w]
                    rfl
                   refine pV 7 128 36 16626217471 ?_;refine oE 9 130 36 16626217983 rfl (fun K hK=>?_);refine goes_ Try.func69 (by kernel_rfl) rfl #[.int .u32 (rd x13_2 4),.int .i64 25] (by rfl) rfl rfl zq6 ?_
                   with_reducible refine (spec_Rotate.calls (rd x13_2 4) 25 t132 _ A58.out).mono ?_
                   rintro e w' ⟨rfl,⟨nd,rfl⟩⟩;refine ⟨_,rfl,?_⟩;refine hK.out _ _ ⟨hHeld.1,hHeld.2.1,hHeld.2.2.1,(hxB HB hw135_0:_),hHeld.2.2.2.2⟩ (fun hHeld=>?_);clear hK K;refine norm_ (a':=?_) ?_ ?_;rotate_left
                   ·
                    show Act.put _ (some 130) _=_
                    simp only [Act.put,List.setIfInBounds_toArray,List.set_cons_zero,List.set_cons_succ,i64_w,i32_w]
                    rfl
                   refine pV 10 131 36 16626219007 ?_;refine pV 11 132 36 16626221055 ?_;refine pV 24 145 36 16642998271 ?_;refine pV 29 150 36 17179869183 ?_;refine pV 34 155 36 34359738367 ?_;refine pV 35 17 36 68719476735 ?_;refine dE ?_
                   try go_wp2
                   repeat (rw [drewN_self w71];generalize hq_:World.drewN w71 _=w71;have n0_:Aside0 (Kd.R (Kd.int .u32) 62 w71 w.heap.size (fun k_=>some k_≠(.slice (some ad136) x7_1.length co72:Value).ownBlock) (.slice (some ad127) x13_2.length co70) x13_2):=⟨by rw [← hq_];exact zq345⟩;have n1_:Aside0 (Kd.R (Kd.int .u32) 62 w71 w.heap.size (fun k_=>some k_≠(.slice (some ad127) x13_2.length co70:Value).ownBlock) (.slice (some ad136) x7_1.length co72) x7_1):=⟨zq481⟩;have n2_:Aside0 (Below w.heap.size w w71):=⟨zq482⟩;clear HO_13 HO_7 HB hq_;have HO_13:=n0_;have HO_7:=n1_;have HB:=n2_;clear n0_ n1_ n2_)
                   replace HO_7:=rD HO_7;replace HO_13:=rD HO_13;replace HB:=aM (below_drew1 HB.out);have p140:0≤(1:Int):=(by omega);have q140:1 < (x13_2.length:Int):=of_decide_eq_true zq34;obtain ⟨ad140,e140,hx140_0⟩:=Kd.at_int (Kd.R_reads' HO_13.out).2.2 1 p140 q140;obtain rfl:ad127=ad140:=(by injection e140)
                   (try simp only [show (1:Int).toNat=1 from rfl,Nat.reduceMul,Nat.reduceEqDiff,Go.Addr.add,↓reduceIte] at hx140_0)
                   have qi140:(1 < x13_2.length)=True:=eq_true (by omega)
                   (try rw [show ((1:Int)).toNat=1 from rfl] at hx140_0)
                   replace p140:=eq_true p140;replace q140:=eq_true q140;have p141:0≤(2:Int):=(by omega);have q141:2 < (x13_2.length:Int):=of_decide_eq_true zq34;obtain ⟨ad141,e141,hx141_0⟩:=Kd.at_int (Kd.R_reads' HO_13.out).2.2 2 p141 q141;obtain rfl:ad127=ad141:=(by injection e141)
                   (try simp only [show (2:Int).toNat=2 from rfl,Nat.reduceMul,Nat.reduceEqDiff,Go.Addr.add,↓reduceIte] at hx141_0)
                   have qi141:(2 < x13_2.length)=True:=eq_true (by omega)
                   (try rw [show ((2:Int)).toNat=2 from rfl] at hx141_0)
                   replace p141:=eq_true p141;replace q141:=eq_true q141;have p142:0≤(1:Int):=(by omega);have q142:1 < (x13_2.length:Int):=of_decide_eq_true zq34;obtain ⟨ad142,e142,hx142_0⟩:=Kd.at_int (Kd.R_reads' HO_13.out).2.2 1 p142 q142;obtain rfl:ad127=ad142:=(by injection e142)
                   (try simp only [show (1:Int).toNat=1 from rfl,Nat.reduceMul,Nat.reduceEqDiff,Go.Addr.add,↓reduceIte] at hx142_0)
                   have qi142:(1 < x13_2.length)=True:=eq_true (by omega)
                   (try rw [show ((1:Int)).toNat=1 from rfl] at hx142_0)
                   replace p142:=eq_true p142;replace q142:=eq_true q142;have p143:0≤(2:Int):=(by omega);have q143:2 < (x13_2.length:Int):=of_decide_eq_true zq34;obtain ⟨ad143,e143,hx143_0⟩:=Kd.at_int (Kd.R_reads' HO_13.out).2.2 2 p143 q143;obtain rfl:ad127=ad143:=(by injection e143)
                   (try simp only [show (2:Int).toNat=2 from rfl,Nat.reduceMul,Nat.reduceEqDiff,Go.Addr.add,↓reduceIte] at hx143_0)
                   have qi143:(2 < x13_2.length)=True:=eq_true (by omega)
                   (try rw [show ((2:Int)).toNat=2 from rfl] at hx143_0)
                   replace p143:=eq_true p143;replace q143:=eq_true q143;refine start_ (n:=29) (S:=fun w'=>w'.cell? ⟨ad127.block,ad127.off + 1,none⟩=some (.int .u32 (rd x13_2 1))∧w'.cell? ⟨ad127.block,ad127.off + 2,none⟩=some (.int .u32 (rd x13_2 2))∧w'.cell? ⟨ad127.block,ad127.off + 1,none⟩=some (.int .u32 (rd x13_2 1))∧w'.cell? ⟨ad127.block,ad127.off + 2,none⟩=some (.int .u32 (rd x13_2 2))) (ds:=[]) (bA 29 0) (by kernel_rfl) rfl rfl ⟨hx140_0,hx141_0,hx142_0,hx143_0⟩ (fun hHeld=>?_);refine with_tabW spec_l1Block.tab19 spec_l1Block.bits19 (fun HT_ HW_=>?_)
                   generalize w71.drew=w73 at HO_7 HO_13 HB hx140_0 hx141_0 hx142_0 hx143_0 hHeld ⊢;refine pV 0 156 29 1 ?_;refine pV 2 158 29 5 ?_;refine pV 5 161 29 37 ?_;refine pV 8 164 29 293 ?_;refine pV 9 165 29 805 ?_;refine pV 10 166 29 1829 ?_;refine pV 13 169 29 10021 ?_;refine pV 14 170 29 26405 ?_;refine pV 15 171 29 59173 ?_;refine pV 19 175 29 583461 ?_;refine pV 20 176 29 1632037 ?_;refine pV 22 178 29 5826341 ?_;refine pV 23 179 29 14214949 ?_;refine tV 11 167 29 14216997 rfl zq508 ?_;refine pV 12 168 29 14221093 ?_;refine tV 16 172 29 14286629 rfl zq508 ?_;refine pV 17 173 29 14417701 ?_;refine pV 18 174 29 14679845 ?_;refine tV 21 177 29 16776997 rfl zq508 ?_;refine tV 24 180 29 33554213 rfl zq508 ?_;refine pV 25 181 29 67108645 ?_;refine pV 26 182 29 134217509 ?_;refine oE 1 157 29 134217511 rfl (fun K hK=>?_);refine goes_ Try.func69 (by kernel_rfl) rfl #[.int .u32 (rd x13_2 0),.int .i64 2] (by rfl) rfl rfl zq6 ?_
                   with_reducible refine (spec_Rotate.calls (rd x13_2 0) 2 t137 _ A64.out).mono ?_
                   rintro e w' ⟨rfl,⟨nd,rfl⟩⟩;refine ⟨_,rfl,?_⟩;refine hK.out _ _ ⟨hHeld.1,hHeld.2.1,hHeld.2.2.1,hHeld.2.2.2⟩ (fun hHeld=>?_);clear hK K;refine norm_ (a':=?_) ?_ ?_;rotate_left
                   ·
                    show Act.put _ (some 157) _=_
                    simp only [Act.put,List.setIfInBounds_toArray,List.set_cons_zero,List.set_cons_succ,i64_w,i32_w]
                    rfl
                   refine oE 3 159 29 134217519 rfl (fun K hK=>?_);refine goes_ Try.func69 (by kernel_rfl) rfl #[.int .u32 (rd x13_2 0),.int .i64 13] (by rfl) rfl rfl zq6 ?_
                   with_reducible refine (spec_Rotate.calls (rd x13_2 0) 13 t138 _ A65.out).mono ?_
                   rintro e w' ⟨rfl,⟨nd,rfl⟩⟩;refine ⟨_,rfl,?_⟩;refine hK.out _ _ ⟨hHeld.1,hHeld.2.1,hHeld.2.2.1,hHeld.2.2.2⟩ (fun hHeld=>?_);clear hK K;refine norm_ (a':=?_) ?_ ?_;rotate_left
                   ·
                    show Act.put _ (some 159) _=_
                    simp only [Act.put,List.setIfInBounds_toArray,List.set_cons_zero,List.set_cons_succ,i64_w,i32_w]
                    rfl
                   refine pV 4 160 29 134217535 ?_;refine oE 6 162 29 134217599 rfl (fun K hK=>?_);refine goes_ Try.func69 (by kernel_rfl) rfl #[.int .u32 (rd x13_2 0),.int .i64 22] (by rfl) rfl rfl zq6 ?_
                   with_reducible refine (spec_Rotate.calls (rd x13_2 0) 22 t139 _ A66.out).mono ?_
                   rintro e w' ⟨rfl,⟨nd,rfl⟩⟩;refine ⟨_,rfl,?_⟩;refine hK.out _ _ ⟨hHeld.1,hHeld.2.1,hHeld.2.2.1,hHeld.2.2.2⟩ (fun hHeld=>?_);clear hK K;refine norm_ (a':=?_) ?_ ?_;rotate_left
                   ·
                    show Act.put _ (some 162) _=_
                    simp only [Act.put,List.setIfInBounds_toArray,List.set_cons_zero,List.set_cons_succ,i64_w,i32_w]
                    rfl
                   refine pV 7 163 29 134217727 ?_;refine pV 27 183 29 268435455 ?_;refine pV 28 18 29 536870911 ?_;refine dE ?_
                   try go_wp2
                   repeat (rw [drewN_self w73];generalize hq_:World.drewN w73 _=w73;have n0_:Aside0 (Kd.R (Kd.int .u32) 62 w73 w.heap.size (fun k_=>some k_≠(.slice (some ad136) x7_1.length co72:Value).ownBlock) (.slice (some ad127) x13_2.length co70) x13_2):=⟨by rw [← hq_];exact zq345⟩;have n1_:Aside0 (Kd.R (Kd.int .u32) 62 w73 w.heap.size (fun k_=>some k_≠(.slice (some ad127) x13_2.length co70:Value).ownBlock) (.slice (some ad136) x7_1.length co72) x7_1):=⟨zq481⟩;have n2_:Aside0 (Below w.heap.size w w73):=⟨zq482⟩;clear HO_13 HO_7 HB hq_;have HO_13:=n0_;have HO_7:=n1_;have HB:=n2_;clear n0_ n1_ n2_)
                   replace HO_7:=rD HO_7;replace HO_13:=rD HO_13;replace HB:=aM (below_drew1 HB.out);have p144:0≤(1:Int):=(by omega);have q144:1 < (x13_2.length:Int):=of_decide_eq_true zq34;obtain ⟨ad144,e144,hx144_0⟩:=Kd.at_int (Kd.R_reads' HO_13.out).2.2 1 p144 q144;obtain rfl:ad127=ad144:=(by injection e144)
                   (try simp only [show (1:Int).toNat=1 from rfl,Nat.reduceMul,Nat.reduceEqDiff,Go.Addr.add,↓reduceIte] at hx144_0)
                   have qi144:(1 < x13_2.length)=True:=eq_true (by omega)
                   (try rw [show ((1:Int)).toNat=1 from rfl] at hx144_0)
                   replace p144:=eq_true p144;replace q144:=eq_true q144;have p145:0≤(2:Int):=(by omega);have q145:2 < (x13_2.length:Int):=of_decide_eq_true zq34;obtain ⟨ad145,e145,hx145_0⟩:=Kd.at_int (Kd.R_reads' HO_13.out).2.2 2 p145 q145;obtain rfl:ad127=ad145:=(by injection e145)
                   (try simp only [show (2:Int).toNat=2 from rfl,Nat.reduceMul,Nat.reduceEqDiff,Go.Addr.add,↓reduceIte] at hx145_0)
                   have qi145:(2 < x13_2.length)=True:=eq_true (by omega)
                   (try rw [show ((2:Int)).toNat=2 from rfl] at hx145_0)
                   replace p145:=eq_true p145;replace q145:=eq_true q145;have p146:0≤(3:Int):=(by omega);have q146:3 < (x13_2.length:Int):=of_decide_eq_true zq34;obtain ⟨ad146,e146,hx146_0⟩:=Kd.at_int (Kd.R_reads' HO_13.out).2.2 3 p146 q146;obtain rfl:ad127=ad146:=(by injection e146)
                   (try simp only [show (3:Int).toNat=3 from rfl,Nat.reduceMul,Nat.reduceEqDiff,Go.Addr.add,↓reduceIte] at hx146_0)
                   have qi146:(3 < x13_2.length)=True:=eq_true (by omega)
                   (try rw [show ((3:Int)).toNat=3 from rfl] at hx146_0)
                   replace p146:=eq_true p146;replace q146:=eq_true q146;have p147:0≤(5:Int):=(by omega);have q147:5 < (x13_2.length:Int):=of_decide_eq_true zq34;obtain ⟨ad147,e147,hx147_0⟩:=Kd.at_int (Kd.R_reads' HO_13.out).2.2 5 p147 q147;obtain rfl:ad127=ad147:=(by injection e147)
                   (try simp only [show (5:Int).toNat=5 from rfl,Nat.reduceMul,Nat.reduceEqDiff,Go.Addr.add,↓reduceIte] at hx147_0)
                   have qi147:(5 < x13_2.length)=True:=eq_true (by omega)
                   (try rw [show ((5:Int)).toNat=5 from rfl] at hx147_0)
                   replace p147:=eq_true p147;replace q147:=eq_true q147;have p148:0≤(6:Int):=(by omega);have q148:6 < (x13_2.length:Int):=of_decide_eq_true zq34;obtain ⟨ad148,e148,hx148_0⟩:=Kd.at_int (Kd.R_reads' HO_13.out).2.2 6 p148 q148;obtain rfl:ad127=ad148:=(by injection e148)
                   (try simp only [show (6:Int).toNat=6 from rfl,Nat.reduceMul,Nat.reduceEqDiff,Go.Addr.add,↓reduceIte] at hx148_0)
                   have qi148:(6 < x13_2.length)=True:=eq_true (by omega)
                   (try rw [show ((6:Int)).toNat=6 from rfl] at hx148_0)
                   replace p148:=eq_true p148;replace q148:=eq_true q148;refine start_ (n:=24) (S:=fun w'=>w'.cell? ⟨ad127.block,ad127.off + 1,none⟩=some (.int .u32 (rd x13_2 1))∧w'.cell? ⟨ad127.block,ad127.off + 2,none⟩=some (.int .u32 (rd x13_2 2))∧w'.cell? ⟨ad127.block,ad127.off + 3,none⟩=some (.int .u32 (rd x13_2 3))∧w'.cell? ⟨ad127.block,ad127.off + 5,none⟩=some (.int .u32 (rd x13_2 5))∧w'.cell? ⟨ad127.block,ad127.off + 6,none⟩=some (.int .u32 (rd x13_2 6))) (ds:=[]) (bA 24 0) (by kernel_rfl) rfl rfl ⟨hx144_0,hx145_0,hx146_0,hx147_0,hx148_0⟩ (fun hHeld=>?_);refine with_tabW spec_l1Block.tab20 spec_l1Block.bits20 (fun HT_ HW_=>?_)
                   generalize w73.drew=w74 at HO_7 HO_13 HB hx144_0 hx145_0 hx146_0 hx147_0 hx148_0 hHeld ⊢;refine pV 0 184 24 1 ?_;refine pV 1 185 24 3 ?_;refine pV 2 186 24 7 ?_;refine pV 3 187 24 15 ?_;refine pV 4 188 24 31 ?_;refine pV 5 189 24 63 ?_;refine pV 7 191 24 191 ?_;refine pV 8 192 24 447 ?_;refine pV 10 194 24 1471 ?_;refine pV 11 195 24 3519 ?_;refine pV 13 197 24 11711 ?_;refine pV 15 199 24 44479 ?_;refine pV 16 200 24 110015 ?_;refine pV 17 201 24 241087 ?_;refine pV 19 203 24 765375 ?_;refine pV 20 204 24 1813951 ?_;refine tV 6 190 24 1814015 rfl zq522 ?_;refine tV 9 193 24 1814527 rfl zq522 ?_;refine tV 12 196 24 1818623 rfl zq522 ?_;refine pV 14 198 24 1835007 ?_;refine tV 18 202 24 2097151 rfl zq522 ?_;refine tV 21 205 24 4194303 rfl zq522 ?_;refine oE 22 206 24 8388607 rfl (fun K hK=>?_)
                   refine Kd.R_lit_step (Kd.int .u32) _ 62 ?hg (N:=206) ?hd (xs:=([((((((((((rd x13_2 7) + (Go.bits .xor .u32 (Go.bits .xor .u32 t130 t131) t132)) % 4294967296) + (Go.bits .xor .u32 (Go.bits .and .u32 (rd x13_2 4) (rd x13_2 5)) (Go.bits .and .u32 (Go.bits .xor .u32 4294967295 (rd x13_2 4)) (rd x13_2 6)))) % 4294967296) + (rd l1 x14_2)) % 4294967296) + (rd x7_1 x14_2)) % 4294967296) + (((Go.bits .xor .u32 (Go.bits .xor .u32 t137 t138) t139) + (Go.bits .xor .u32 (Go.bits .xor .u32 (Go.bits .and .u32 (rd x13_2 0) (rd x13_2 1)) (Go.bits .and .u32 (rd x13_2 0) (rd x13_2 2))) (Go.bits .and .u32 (rd x13_2 1) (rd x13_2 2)))) % 4294967296)) % 4294967296,rd x13_2 0,rd x13_2 1,rd x13_2 2,((rd x13_2 3) + (((((((((rd x13_2 7) + (Go.bits .xor .u32 (Go.bits .xor .u32 t130 t131) t132)) % 4294967296) + (Go.bits .xor .u32 (Go.bits .and .u32 (rd x13_2 4) (rd x13_2 5)) (Go.bits .and .u32 (Go.bits .xor .u32 4294967295 (rd x13_2 4)) (rd x13_2 6)))) % 4294967296) + (rd l1 x14_2)) % 4294967296) + (rd x7_1 x14_2)) % 4294967296)) % 4294967296,rd x13_2 4,rd x13_2 5,rd x13_2 6]:List Int)) (inner:=[.int .u32 (((((((((((rd x13_2 7) + (Go.bits .xor .u32 (Go.bits .xor .u32 t130 t131) t132)) % 4294967296) + (Go.bits .xor .u32 (Go.bits .and .u32 (rd x13_2 4) (rd x13_2 5)) (Go.bits .and .u32 (Go.bits .xor .u32 4294967295 (rd x13_2 4)) (rd x13_2 6)))) % 4294967296) + (rd l1 x14_2)) % 4294967296) + (rd x7_1 x14_2)) % 4294967296) + (((Go.bits .xor .u32 (Go.bits .xor .u32 t137 t138) t139) + (Go.bits .xor .u32 (Go.bits .xor .u32 (Go.bits .and .u32 (rd x13_2 0) (rd x13_2 1)) (Go.bits .and .u32 (rd x13_2 0) (rd x13_2 2))) (Go.bits .and .u32 (rd x13_2 1) (rd x13_2 2)))) % 4294967296)) % 4294967296),.int .u32 (rd x13_2 0),.int .u32 (rd x13_2 1),.int .u32 (rd x13_2 2),.int .u32 (((rd x13_2 3) + (((((((((rd x13_2 7) + (Go.bits .xor .u32 (Go.bits .xor .u32 t130 t131) t132)) % 4294967296) + (Go.bits .xor .u32 (Go.bits .and .u32 (rd x13_2 4) (rd x13_2 5)) (Go.bits .and .u32 (Go.bits .xor .u32 4294967295 (rd x13_2 4)) (rd x13_2 6)))) % 4294967296) + (rd l1 x14_2)) % 4294967296) + (rd x7_1 x14_2)) % 4294967296)) % 4294967296),.int .u32 (rd x13_2 4),.int .u32 (rd x13_2 5),.int .u32 (rd x13_2 6)]) (ok:=fun _=>True) (okp:=fun _=>True) ?hr ?hp (fun _ hk=>hk) trivial (Below.refl _ _) (Nat.le_refl _) (by simp) ?_;(case hd=>rfl);(case hg=>rfl);(case hr=>exact zq340);(case hp=>exact (Reps.one (show Kd.M (Kd.int .u32) _ _ _ (((((((((((rd x13_2 7) + (Go.bits .xor .u32 (Go.bits .xor .u32 t130 t131) t132)) % 4294967296) + (Go.bits .xor .u32 (Go.bits .and .u32 (rd x13_2 4) (rd x13_2 5)) (Go.bits .and .u32 (Go.bits .xor .u32 4294967295 (rd x13_2 4)) (rd x13_2 6)))) % 4294967296) + (rd l1 x14_2)) % 4294967296) + (rd x7_1 x14_2)) % 4294967296) + (((Go.bits .xor .u32 (Go.bits .xor .u32 t137 t138) t139) + (Go.bits .xor .u32 (Go.bits .xor .u32 (Go.bits .and .u32 (rd x13_2 0) (rd x13_2 1)) (Go.bits .and .u32 (rd x13_2 0) (rd x13_2 2))) (Go.bits .and .u32 (rd x13_2 1) (rd x13_2 2)))) % 4294967296)) % 4294967296) [.int .u32 (((((((((((rd x13_2 7) + (Go.bits .xor .u32 (Go.bits .xor .u32 t130 t131) t132)) % 4294967296) + (Go.bits .xor .u32 (Go.bits .and .u32 (rd x13_2 4) (rd x13_2 5)) (Go.bits .and .u32 (Go.bits .xor .u32 4294967295 (rd x13_2 4)) (rd x13_2 6)))) % 4294967296) + (rd l1 x14_2)) % 4294967296) + (rd x7_1 x14_2)) % 4294967296) + (((Go.bits .xor .u32 (Go.bits .xor .u32 t137 t138) t139) + (Go.bits .xor .u32 (Go.bits .xor .u32 (Go.bits .and .u32 (rd x13_2 0) (rd x13_2 1)) (Go.bits .and .u32 (rd x13_2 0) (rd x13_2 2))) (Go.bits .and .u32 (rd x13_2 1) (rd x13_2 2)))) % 4294967296)) % 4294967296)] from rfl) (Reps.one (show Kd.M (Kd.int .u32) _ _ _ (rd x13_2 0) [.int .u32 (rd x13_2 0)] from rfl) (Reps.one (show Kd.M (Kd.int .u32) _ _ _ (rd x13_2 1) [.int .u32 (rd x13_2 1)] from rfl) (Reps.one (show Kd.M (Kd.int .u32) _ _ _ (rd x13_2 2) [.int .u32 (rd x13_2 2)] from rfl) (Reps.one (show Kd.M (Kd.int .u32) _ _ _ (((rd x13_2 3) + (((((((((rd x13_2 7) + (Go.bits .xor .u32 (Go.bits .xor .u32 t130 t131) t132)) % 4294967296) + (Go.bits .xor .u32 (Go.bits .and .u32 (rd x13_2 4) (rd x13_2 5)) (Go.bits .and .u32 (Go.bits .xor .u32 4294967295 (rd x13_2 4)) (rd x13_2 6)))) % 4294967296) + (rd l1 x14_2)) % 4294967296) + (rd x7_1 x14_2)) % 4294967296)) % 4294967296) [.int .u32 (((rd x13_2 3) + (((((((((rd x13_2 7) + (Go.bits .xor .u32 (Go.bits .xor .u32 t130 t131) t132)) % 4294967296) + (Go.bits .xor .u32 (Go.bits .and .u32 (rd x13_2 4) (rd x13_2 5)) (Go.bits .and .u32 (Go.bits .xor .u32 4294967295 (rd x13_2 4)) (rd x13_2 6)))) % 4294967296) + (rd l1 x14_2)) % 4294967296) + (rd x7_1 x14_2)) % 4294967296)) % 4294967296)] from rfl) (Reps.one (show Kd.M (Kd.int .u32) _ _ _ (rd x13_2 4) [.int .u32 (rd x13_2 4)] from rfl) (Reps.one (show Kd.M (Kd.int .u32) _ _ _ (rd x13_2 5) [.int .u32 (rd x13_2 5)] from rfl) (Reps.one (show Kd.M (Kd.int .u32) _ _ _ (rd x13_2 6) [.int .u32 (rd x13_2 6)] from rfl) (Reps.none _ _))))))))))
                   intro v150 w75 ho76 hb hg_ hnew_;have HS0_:=(hb.cell (World.block_lt_of_cell? _ _ (hHeld.1))).trans (hHeld.1);have HS1_:=(hb.cell (World.block_lt_of_cell? _ _ (hHeld.2.1))).trans (hHeld.2.1);have HS2_:=(hb.cell (World.block_lt_of_cell? _ _ (hHeld.2.2.1))).trans (hHeld.2.2.1);have HS3_:=(hb.cell (World.block_lt_of_cell? _ _ (hHeld.2.2.2.1))).trans (hHeld.2.2.2.1);have HS4_:=(hb.cell (World.block_lt_of_cell? _ _ (hHeld.2.2.2.2))).trans (hHeld.2.2.2.2);clear hg_ hnew_
                   (first | rw [← Ny149.out] at ho76|(simp only [Int.reduceToNat] at ho76;rw [← Ny149.out] at ho76))
                   have HO151:=aM (Kd.R_lower (Kd.R_new' (Kd.R_new' ho76 (Kd.R_lt zq342)) (Kd.R_lt zq345)) (below_size zq3));replace HO_7:=aM (Kd.R_elder' zq342 (Kd.R_base ho76) hb);replace HO_13:=aM (Kd.R_elder' zq345 (Kd.R_base ho76) hb);replace HB:=sB zq3 hb;clear hb ho76;refine hK.out _ _ ⟨HS0_,HS1_,HS2_,HS3_,HS4_⟩ (fun hHeld=>?_);clear hK K;refine norm_ (a':=?_) ?_ ?_;rotate_left
                   ·
                    show Act.put _ (some 206) _=_
                    simp only [Act.put,List.setIfInBounds_toArray,List.set_cons_zero,List.set_cons_succ,i64_w,i32_w]
                    rfl
                   refine pV 23 13 24 16777215 ?_;refine dE ?_
                   try go_wp2
                   go_roundg k2
                   case measure=>have:=HK1.out;have:=HK2.out;omega
                   case rel=>exact ⟨(y149),(wrap64 (x14_2 + 1)),zq19,H',⟨zq80⟩,⟨zq344⟩,⟨by refine dR ?_;first | exact Kd.R_mono HO151.out (fun _ hk=>hk.1.2)|(have h_:=Kd.R_mono HO151.out (fun _ hk=>hk.1.2);simp only [Int.emod_add_emod,Int.add_emod_emod] at h_ ⊢;exact h_)⟩,⟨zq3⟩⟩
                  rw [if_neg c69] at H;exact absurd H (by simp)
                 rw [if_neg c68] at H;exact absurd H (by simp)
                rw [if_neg c67] at H;exact absurd H (by simp)
               rw [if_neg c63] at H;exact absurd H (by simp)
              rw [if_neg c62] at H;exact absurd H (by simp)
             rw [if_neg c61] at H;exact absurd H (by simp)
            rw [if_neg c60] at H;exact absurd H (by simp)
           rw [if_neg c59] at H;exact absurd H (by simp)
          rw [if_neg c55] at H;exact absurd H (by simp)
         rw [if_neg c54] at H;exact absurd H (by simp)
        rw [if_neg c53] at H;exact absurd H (by simp)
       rw [if_neg c52] at H;have c52b0:=decide_eq_false c52;clear c52;obtain ⟨y152,hy152⟩:∃ y_:List Int,y_=(([]:List Int)):=⟨_,rfl⟩;have hy_:=hy152;replace H:(spec_l1Block.l2 k2 l0 x13_2 y152 0)=some r:=hyE;clear hy_;have Ny152:=aM hy152;clear hy152;have H':=aM H;clear H
       go_wp2_with (first|((with_reducible refine gD 207 rfl ?_);refine Kd.R_lit (Kd.int .u32) _ 62 ?hg (N:=207) ?hd (xs:=([]:List Int)) (inner:=[]) (ok:=fun _=>True) (okp:=fun _=>True) ?hr ?hp (fun _ hk=>hk) trivial (Below.refl _ _) (Nat.le_refl _) (by simp) ?_;(case hd=>rfl);(case hg=>rfl);(case hr=>exact zq340);(case hp=>exact zq108);intro v153 w77 ho78 hb hg_ hnew_;clear hg_ hnew_;(first | rw [← Ny152.out] at ho78|(simp only [Int.reduceToNat] at ho78;rw [← Ny152.out] at ho78));have HO154:=aM (Kd.R_lower (Kd.R_new' (Kd.R_new' ho78 (Kd.R_lt zq342)) (Kd.R_lt zq345)) (below_size zq3));replace HO_7:=aM (Kd.R_elder' zq342 (Kd.R_base ho78) hb);replace HO_13:=aM (Kd.R_elder' zq345 (Kd.R_base ho78) hb);replace HB:=sB zq3 hb;clear hb ho78))
       go_loopg [19,20] k2 (fun kq v19 v20 w'=>∃ (x19_3:List Int) (x20_3:Int),v20 = .int .i64 x20_3∧Aside0 (spec_l1Block.l2 kq l0 x13_2 x19_3 x20_3=some r)∧Aside0 (kq≤k2)∧Aside0 (Kd.R (Kd.int .u32) 62 w' w.heap.size (fun k_=>some k_≠(v19:Value).ownBlock) u13 x13_2)∧Aside0 (Kd.R (Kd.int .u32) 62 w' w.heap.size (fun k_=>some k_≠(u13:Value).ownBlock) v19 x19_3)∧Aside0 (Below w.heap.size w w'))
       case atStart=>exact ⟨(y152),(0),zq19,H',⟨Nat.le_refl _⟩,⟨zq346⟩,⟨by refine dR ?_;first | exact Kd.R_mono HO154.out (fun _ hk=>hk.2)|(have h_:=Kd.R_mono HO154.out (fun _ hk=>hk.2);simp only [Int.emod_add_emod,Int.add_emod_emod] at h_ ⊢;exact h_)⟩,⟨zq3⟩⟩
       case round =>
        clear H';(try clear c52b0);obtain ⟨x19_3,x20_3,rfl,HA,HK3,HO_13,HO_19,HB⟩:=hrel
        cases gk with
        | zero=>exact absurd HA.out (by simp [spec_l1Block.l2])
        | succ k3 =>
         have H:=HA.out;clear HA;simp only [spec_l1Block.l2] at H;by_cases c79:x20_3 < 8
         ·
          rw [if_pos c79] at H;have c79b0:=decide_eq_true c79;clear c79;by_cases c80:0≤x20_3
          ·
           rw [if_pos c80] at H;have c80b0:=decide_eq_true c80;clear c80;by_cases c81:x20_3 < (l0.length:Int)
           ·
            rw [if_pos c81] at H;have c81b0:=decide_eq_true c81;clear c81;by_cases c82:x20_3 < (x13_2.length:Int)
            ·
             rw [if_pos c82] at H;have c82b0:=decide_eq_true c82;clear c82;by_cases c83:x19_3.length < 35184372088832
             ·
              rw [if_pos c83] at H;have LMc83:=aM c83;clear c83;obtain ⟨y157,hy157⟩:∃ y_:List Int,y_=(x19_3 ++ [((rd l0 x20_3) + (rd x13_2 x20_3)) % 4294967296]):=⟨_,rfl⟩;have hy_:=hy157;replace H:(spec_l1Block.l2 k3 l0 x13_2 y157 (wrap64 (x20_3 + 1)))=some r:=hyE;clear hy_;have Ny157:=aM hy157;clear hy157;have H':=aM H;clear H
              try go_wp2
              replace HO_13:=rD HO_13;replace HO_19:=rD HO_19;replace HB:=aM (below_drew1 HB.out);have p155:0≤(x20_3:Int):=of_decide_eq_true zq34;have q155:x20_3 < (l0.length:Int):=of_decide_eq_true zq34;obtain ⟨ad155,e155,hx155_0⟩:=Kd.at_int HR0.out x20_3 p155 q155;have hw155_0:=hx155_0;cases e155;replace hx155_0:=hxB HB hx155_0;replace p155:=eq_true p155;replace q155:=eq_true q155;obtain ⟨Ao85,co85,eo85⟩:=Kd.R_slice HO_13.out
              (first | subst eo85|(injection eo85 with f1_ f2_ f3_;have f4_:=f1_.symm;have f5_:=f3_.symm;clear f1_ f2_ f3_;subst f4_;subst f5_))
              have p156:0≤(x20_3:Int):=of_decide_eq_true zq34;have q156:x20_3 < (x13_2.length:Int):=of_decide_eq_true zq34;obtain ⟨ad156,e156,hx156_0⟩:=Kd.at_int (Kd.R_reads' HO_13.out).2.2 x20_3 p156 q156;cases e156;replace p156:=eq_true p156;replace q156:=eq_true q156;refine start_ (n:=13) (S:=fun w'=>w'.cell? (ad155.add (x20_3).toNat)=some (.int .u32 (rd l0 x20_3))∧w'.cell? (ad156.add (x20_3).toNat)=some (.int .u32 (rd x13_2 x20_3))) (ds:=[10,11]) (bA 13 0) (by kernel_rfl) rfl rfl ⟨(hxB HB hw155_0:_),hx156_0⟩ (fun hHeld=>?_);refine with_tabW spec_l1Block.tab25 spec_l1Block.bits25 (fun HT_ HW_=>?_)
              generalize wr.drew=w84 at HO_13 HO_19 HB hx155_0 hx156_0 hHeld ⊢;refine pV 0 212 13 1 ?_;refine pV 1 213 13 3 ?_;refine pV 2 214 13 7 ?_;refine pV 3 215 13 15 ?_;refine pV 5 217 13 47 ?_;refine pV 6 218 13 111 ?_;refine pV 7 219 13 239 ?_;refine tV 4 216 13 255 rfl zq521 ?_;refine tV 8 220 13 511 rfl zq521 ?_;refine pV 9 221 13 1023 ?_;refine last_ (i:=10) (N:=some 222) (bA 13 2047) rfl rfl (one_of HT_.out (by kernel_rfl)) (by decide) (fun K hK=>?_);refine value_ (w1:=?_) (v:=?_) (by rfl) rfl ?_ ?_;rotate_left 2
              ·
               go_simp
               constructor
               ·
                rfl
               rfl
              refine hK.out _ _ ?_;clear hK K;refine norm_ (a':=?_) ?_ ?_;rotate_left
              ·
               show Act.put _ (some 222) _=_
               simp only [Act.put,List.setIfInBounds_toArray,List.set_cons_zero,List.set_cons_succ,i64_w,i32_w]
               rfl
              refine last_ (i:=11) (N:=some 223) (bA 13 4095) rfl rfl (one_of HT_.out (by kernel_rfl)) (by decide) (fun K hK=>?_);refine Kd.R_append_step (Kd.int .u32) (w0:=w) w.heap.size (by rfl) (.tmp 212) (.tmp 222) 59 62 (.int .u32 0) 4 rfl Try.underlying59 info62 rfl (by decide) (by omega) u19 x19_3 (((rd l0 x20_3) + (rd x13_2 x20_3)) % 4294967296) [.int .u32 (((rd l0 x20_3) + (rd x13_2 x20_3)) % 4294967296)] (fun k_=>some k_≠(.slice (some ad156) x13_2.length co85:Value).ownBlock) (fun _=>False) rfl rfl ?aP (fun _ hk=>hk.elim) ?aF ?aO ?aB ?aS ?aL ?_
              (case aP=>exact rfl)
              (case aB=>exact zq3)
              (case aF=>exact (fun k_ hk=>Kd.fresh' (Kd.R_lt zq345) k_ hk))
              (case aO=>exact (by refine dR ?_;first | exact HO_19.out|(have h_:=HO_19.out;simp only [Int.emod_add_emod,Int.add_emod_emod] at h_ ⊢;exact h_)))
              (case aS=>exact zq429)
              (case aL=>have:=LMc83.out;omega)
              intro v158 w86 ho hb hg hat;rw [← Ny157.out] at ho;have n0_:=aM (Kd.R_after (ok:=(fun _=>True)) (by refine dR ?_;first | exact Kd.R_mono HO_13.out (fun _ hk=>⟨trivial,hk⟩)|(have h_:=Kd.R_mono HO_13.out (fun _ hk=>⟨trivial,hk⟩);simp only [Int.emod_add_emod,Int.add_emod_emod] at h_ ⊢;exact h_)) hg hat);have n1_:=aM (hb);have n2_:=aM (ho);clear HO_13;clear HB;clear HO_19;have HO_13:=n0_;have HB:=n1_;have HO159:=n2_;clear n0_ n1_ n2_;clear ho hb hg hat;refine hK.out _ _ ?_;clear hK K;refine norm_ (a':=?_) ?_ ?_;rotate_left
              ·
               show Act.put _ (some 223) _=_
               simp only [Act.put,List.setIfInBounds_toArray,List.set_cons_zero,List.set_cons_succ,i64_w,i32_w]
               rfl
              refine pV 12 19 13 8191 ?_;refine dE ?_
              try go_wp2
              go_roundg k3
              case measure=>have:=HK1.out;have:=HK2.out;have:=HK3.out;omega
              case rel=>exact ⟨(y157),(wrap64 (x20_3 + 1)),zq19,H',⟨by have:=HK1.out;have:=HK2.out;have:=HK3.out;omega⟩,⟨zq346⟩,⟨by refine dR ?_;first | exact HO159.out|(have h_:=HO159.out;simp only [Int.emod_add_emod,Int.add_emod_emod] at h_ ⊢;exact h_)⟩,⟨zq3⟩⟩
             rw [if_neg c83] at H;exact absurd H (by simp)
            rw [if_neg c82] at H;exact absurd H (by simp)
           rw [if_neg c81] at H;exact absurd H (by simp)
          rw [if_neg c80] at H;exact absurd H (by simp)
         rw [if_neg c79] at H;have c79b0:=decide_eq_false c79;clear c79;obtain rfl:=Option.some.inj H;go_wp2;go_ret;exact ⟨_,zq24,by refine dR ?_;first | exact Kd.R_mono HO_19.out (fun _ hk=>trivial)|(have h_:=Kd.R_mono HO_19.out (fun _ hk=>trivial);simp only [Int.emod_add_emod,Int.add_emod_emod] at h_ ⊢;exact h_),zq3⟩
    rw [if_neg c48] at H;exact absurd H (by simp)
 exact zq513
end Go.Proofs.Ytldpdaifajjaeaa.QFnChunked
