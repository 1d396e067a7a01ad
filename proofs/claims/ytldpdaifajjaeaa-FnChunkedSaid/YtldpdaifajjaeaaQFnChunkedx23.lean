/- Written by wip/myprint.py of this repo (the kit's print, with additions of this session). -/
import Derived.Test.YtldpdaifajjaeaaQFnChunkedx13
import Derived.Test.YtldpdaifajjaeaaQFnChunkedx14
import Derived.Test.YtldpdaifajjaeaaQFnChunkedx21
import Derived.Test.YtldpdaifajjaeaaQFnChunkedx22
set_option maxRecDepth 100000
namespace Go.Proofs.Ytldpdaifajjaeaa.QFnChunked
open Go.RowKit Go.Proofs.YtldpdaifajjaeaaW.PrintWords Go.Proofs.YtldpdaifajjaeaaW.PrintLast Go.Proofs.YtldpdaifajjaeaaW.PrintMore
attribute [local go_sem] max2_int min2_int max_two min_two max_three min_three max_four min_four
set_option linter.unusedVariables false
set_option linter.unusedSimpArgs false
def laws_FnChunked.j0:Nat→Bool→Option (Bool)
 | 0,_=>none
 | k + 1,x2=>some x2
def laws_FnChunked.f (k:Nat) (l0:List Int):Option (Bool):=(laws_big.f l0).bind fun t664=>(if t664=true then (some true) else ((spec_DrawKeep.f k l0).bind fun bt665=>((spec_Keep.f k bt665.1 bt665.2.1 bt665.2.2.1 bt665.2.2.2.1 bt665.2.2.2.2).bind fun bt675=>(if bt675.2.2.2.2=0 then (if (wrap64 ((bt665.2.2.2.2.size:Int) + 1))=0 then (none) else ((impl_Begin.f k bt665.1 bt665.2.1 bt665.2.2.1 bt665.2.2.2.1).bind fun bt685=>(if 0≤((l0.length:Int) % (wrap64 ((bt665.2.2.2.2.size:Int) + 1))) then (if ((l0.length:Int) % (wrap64 ((bt665.2.2.2.2.size:Int) + 1)))≤(bt665.2.2.2.2.size:Int) then ((impl_Chunk.f k bt685.1 bt685.2.1 bt685.2.2.1 bt685.2.2.2.1 bt685.2.2.2.2.1 0 (bt665.2.2.2.2.extract 0 (((l0.length:Int) % (wrap64 ((bt665.2.2.2.2.size:Int) + 1))):Int).toNat)).bind fun bt696=>((impl_Chunk.f k bt696.1 bt696.2.1 bt696.2.2.1 bt696.2.2.2.1 bt685.2.2.2.2.1 ((l0.length:Int) % (wrap64 ((bt665.2.2.2.2.size:Int) + 1))) (bt665.2.2.2.2.extract (((l0.length:Int) % (wrap64 ((bt665.2.2.2.2.size:Int) + 1))):Int).toNat bt665.2.2.2.2.size)).bind fun bt706=>((spec_Digest.f k bt665.2.2.2.2).bind fun t716=>((impl_Finish.f k bt706.1 bt706.2.1 bt706.2.2.1 bt706.2.2.2.1 bt685.2.2.2.2.1 t716).bind fun bt717=>(if bt665.2.2.2.2.size + 1≤9223372036854775807 then ((spec_Digest.f k (bt665.2.2.2.2 ++ (⟨#[120]⟩:ByteArray))).bind fun t727=>((spec_Digest.f k bt665.2.2.2.2).bind fun t728=>((spec_Digest.f k (bt665.2.2.2.2 ++ (⟨#[120]⟩:ByteArray))).bind fun t729=>((impl_Finish.f k bt706.1 bt706.2.1 bt706.2.2.1 bt706.2.2.2.1 bt685.2.2.2.2.1 t729).bind fun bt730=>((impl_Abort.f k bt706.1 bt706.2.1 bt706.2.2.1 bt706.2.2.2.1 bt685.2.2.2.2.1).bind fun bt740=>(if bt685.2.2.2.2.2=0 then (if bt696.2.2.2.2=0 then (if bt706.2.2.2.2=0 then (if bt717.2.2.2.2=0 then ((laws_sameStore.f k bt717.1 bt717.2.1 bt717.2.2.1 bt717.2.2.2.1 bt675.1 bt675.2.1 bt675.2.2.1 bt675.2.2.2.1).bind fun t750=>(if t750=true then (if t727.toList=t728.toList then (if bt740.2.2.2.2=0 then ((impl_DigestsOf.f k bt740.1 bt740.2.1 bt740.2.2.1 bt740.2.2.2.1).bind fun t751=>((spec_DigestsOf.f k bt665.1 bt665.2.1 bt665.2.2.1 bt665.2.2.2.1).bind fun t754=>((laws_sameTexts.f k t751 t754).bind fun t757=>(laws_FnChunked.j0 k t757)))) else (laws_FnChunked.j0 k false)) else (if bt730.2.2.2.2=6 then ((laws_sameStore.f k bt730.1 bt730.2.1 bt730.2.2.1 bt730.2.2.2.1 bt706.1 bt706.2.1 bt706.2.2.1 bt706.2.2.2.1).bind fun t758=>(if t758=true then (if bt740.2.2.2.2=0 then ((impl_DigestsOf.f k bt740.1 bt740.2.1 bt740.2.2.1 bt740.2.2.2.1).bind fun t759=>((spec_DigestsOf.f k bt665.1 bt665.2.1 bt665.2.2.1 bt665.2.2.2.1).bind fun t762=>((laws_sameTexts.f k t759 t762).bind fun t765=>(laws_FnChunked.j0 k t765)))) else (laws_FnChunked.j0 k false)) else (laws_FnChunked.j0 k false))) else (laws_FnChunked.j0 k false))) else (laws_FnChunked.j0 k false))) else (laws_FnChunked.j0 k false)) else (laws_FnChunked.j0 k false)) else (laws_FnChunked.j0 k false)) else (laws_FnChunked.j0 k false))))))) else (none)))))) else (none)) else (none)))) else (some true)))))
theorem laws_FnChunked.mono_l:∀ k,(∀ y0,LeO (laws_FnChunked.j0 k y0) (laws_FnChunked.j0 (k + 1) y0))
 | 0=>fun _ r h=>by simp [laws_FnChunked.j0] at h
 | k + 1=>by
  have ih0:=laws_FnChunked.mono_l k
  ·
   intro y0;unfold laws_FnChunked.j0
   with_reducible repeat' first | apply ih0 | apply impl_Abort.mono | apply impl_Begin.mono | apply impl_Chunk.mono | apply impl_DigestsOf.mono | apply impl_Finish.mono | apply laws_sameStore.mono | apply laws_sameTexts.mono | apply spec_Digest.mono | apply spec_DigestsOf.mono | apply spec_DrawKeep.mono | apply spec_Keep.mono | exact LeO.refl _ | exact LeO.none _ | refine LeO.ite ?_ ?_ | refine LeO.bind ?_ (fun _=>?_)
theorem laws_FnChunked.mono:∀ a0 k,LeO (laws_FnChunked.f k a0) (laws_FnChunked.f (k + 1) a0):=by
 intro a0 k;have ih0:=laws_FnChunked.mono_l k;unfold laws_FnChunked.f
 with_reducible repeat' first | apply ih0 | apply impl_Abort.mono | apply impl_Begin.mono | apply impl_Chunk.mono | apply impl_DigestsOf.mono | apply impl_Finish.mono | apply laws_sameStore.mono | apply laws_sameTexts.mono | apply spec_Digest.mono | apply spec_DigestsOf.mono | apply spec_DrawKeep.mono | apply spec_Keep.mono | exact LeO.refl _ | exact LeO.none _ | refine LeO.ite ?_ ?_ | refine LeO.bind ?_ (fun _=>?_)
def laws_FnChunked.T9:Bool×List (List Nat×List Nat):=(true,[([],[]),([],[]),([],[]),([],[]),([2,3],[2,3]),([0,1,4],[0,1,4]),([5],[5]),([6],[6]),([6],[6]),([],[]),([9,7,5,0,1,2,3,4,5,6,7,9],[7,9]),([8,10,0,1,2,3,4,5,6,7,8,9,10],[8])])
def laws_FnChunked.B9:List Nat:=[0,0,0,0,12,31,63,127,127,0,767,2047]
theorem laws_FnChunked.tab9:rtab .any (opsOf Try.f4 9)=laws_FnChunked.T9:=by kernel_rfl
theorem laws_FnChunked.bits9:waitsOk laws_FnChunked.T9.2 laws_FnChunked.B9=true:=by kernel_rfl
def laws_FnChunked.T10:Bool×List (List Nat×List Nat):=(true,[([],[]),([],[]),([],[]),([],[]),([],[]),([3,4],[3,4]),([0,1,2,5],[0,1,2,5]),([6],[6]),([7],[7]),([7],[7]),([],[]),([10,8,6,0,1,2,3,4,5,6,7,8,10],[8,10]),([9,11,0,1,2,3,4,5,6,7,8,9,10,11],[9])])
def laws_FnChunked.B10:List Nat:=[0,0,0,0,0,24,63,127,255,255,0,1535,4095]
theorem laws_FnChunked.tab10:rtab .any (opsOf Try.f4 10)=laws_FnChunked.T10:=by kernel_rfl
theorem laws_FnChunked.bits10:waitsOk laws_FnChunked.T10.2 laws_FnChunked.B10=true:=by kernel_rfl
def laws_FnChunked.T11:Bool×List (List Nat×List Nat):=(true,[([],[]),([],[]),([],[]),([2],[2]),([0,1,3,3],[0,1,3]),([4],[4]),([5],[5]),([5],[5]),([],[]),([8,6,4,0,1,2,3,4,5,6,8],[6,8]),([7,9,0,1,2,3,4,5,6,7,8,9],[7])])
def laws_FnChunked.B11:List Nat:=[0,0,0,4,15,31,63,63,0,383,1023]
theorem laws_FnChunked.tab11:rtab .any (opsOf Try.f4 11)=laws_FnChunked.T11:=by kernel_rfl
theorem laws_FnChunked.bits11:waitsOk laws_FnChunked.T11.2 laws_FnChunked.B11=true:=by kernel_rfl
def laws_FnChunked.T13:Bool×List (List Nat×List Nat):=(true,[([],[]),([],[]),([],[]),([2],[2]),([3],[3]),([0,1,4,4],[0,1,4]),([5],[5]),([6],[6]),([6],[6]),([],[]),([9,7,5,0,1,2,3,4,5,6,7,9],[7,9]),([8,10,0,1,2,3,4,5,6,7,8,9,10],[8])])
def laws_FnChunked.B13:List Nat:=[0,0,0,4,12,31,63,127,127,0,767,2047]
theorem laws_FnChunked.tab13:rtab .any (opsOf Try.f4 13)=laws_FnChunked.T13:=by kernel_rfl
theorem laws_FnChunked.bits13:waitsOk laws_FnChunked.T13.2 laws_FnChunked.B13=true:=by kernel_rfl
def laws_FnChunked.T15:Bool×List (List Nat×List Nat):=(true,[([],[]),([0],[0]),([1],[1]),([2],[2]),([3,2],[2,3]),([2,4],[2,4]),([5,2],[5]),([6],[6]),([7,6],[6,7]),([6,8],[6,8]),([9,6],[9]),([10],[10]),([11,10],[10,11]),([10,12],[10,12]),([13,10],[13]),([14],[14]),([14],[14]),([15,16,14,14],[14,15,16]),([14,17],[14,17]),([18,17],[18]),([19],[19]),([20,19,19],[19,20]),([21],[21]),([22,21],[21,22]),([23,21,21],[21,23]),([24],[24]),([24],[24]),([25,26,24,24],[24,25,26]),([24,27,21],[21,24,27]),([21,28,19],[19,21,28]),([19,29],[19,29]),([30,27],[30]),([31],[31]),([32,31],[31,32]),([31,33],[31,33]),([34,31],[34]),([35],[35]),([36,35,35],[35,36]),([35],[35]),([38,37,35],[35,38]),([37,39,39,35],[35,37,39]),([35,40],[35,40]),([41,40,0,1,2,3,4,5,6,7,8,9,10,11,12,13,14,15,16,17,18,19,20,21,22,23,24,25,26,27,28,29,30,31,32,33,34,35,36,37,38,39,40,41],[41])])
def laws_FnChunked.B15:List Nat:=[0,1,3,7,15,31,63,127,255,511,1023,2047,4095,8191,16383,32767,32767,131071,262143,524287,1048575,2097151,4194303,8388607,16777215,33554431,33554431,134217727,268435455,536870911,1073741823,2147483647,4294967295,8589934591,17179869183,34359738367,68719476735,137438953471,68719476735,549755813887,1099511627775,2199023255551,4398046511103]
theorem laws_FnChunked.tab15:rtab .any (opsOf Try.f4 15)=laws_FnChunked.T15:=by kernel_rfl
theorem laws_FnChunked.bits15:waitsOk laws_FnChunked.T15.2 laws_FnChunked.B15=true:=by kernel_rfl
section
variable {w w1 p:World} {g g1 b:Nat} {a n:Int} {A B:Option Addr} {l:List S56} {m:List S58} {c d:Nat}
/-- A store in its box, and its two rows. -/
def St (w:World) (g:Nat) (a:Int) (A:Option Addr) (l:List S56) (c:Nat) (B:Option Addr) (m:List S58) (d:Nat) (n:Int):Prop:=w.heap[g]?=some (.cells #[.int .i64 a,.slice A l.length c,.slice B m.length d,.int .i64 n] 27 (0,0))∧Kd.C k56 w A l.length l∧l.length≤c∧Kd.C k58 w B m.length m∧m.length≤d
abbrev C4 (g:Nat) (x y z u:Value) (w:World):Prop:=w.cell? ⟨g,0,none⟩=some x∧w.cell? ⟨g,1,none⟩=some y∧w.cell? ⟨g,2,none⟩=some z∧w.cell? ⟨g,3,none⟩=some u
abbrev P4 (w:World) (g:Nat) (x y z u:Value):World:=(((w.setCell ⟨g,0,none⟩ x).setCell ⟨g,1,none⟩ y).setCell ⟨g,2,none⟩ z).setCell ⟨g,3,none⟩ u
abbrev Z4 (w:World) (g:Nat):Prop:=w.heap[g]?=some (.cells #[.int .i64 0,.slice none 0 0,.slice none 0 0,.int .i64 0] 27 (0,0))
abbrev J4 (H:World→Prop) (l:List S56) (m:List S58) (p:World) (s:Value×Value×Nat) (w:World):Prop:=H w∧Kd.R k56 56 w 0 (fun _=>True) s.1 l∧Kd.R k58 58 w 0 (fun _=>True) s.2.1 m∧Z4 w s.2.2∧Below p.heap.size p w∧p.heap.size≤s.2.2
theorem St.le (h:St w g a A l c B m d n) (k:Below w.heap.size w w1):St w1 g a A l c B m d n:=⟨blk_below h.1 k,Kd.C_below h.2.1 k,h.2.2.1,Kd.C_below h.2.2.2.1 k,h.2.2.2.2⟩
theorem St.c1 (h:St w g a A l c B m d n):Kd.C k56 w A l.length l:=h.2.1
theorem St.l1 (h:St w g a A l c B m d n):l.length≤c:=h.2.2.1
theorem St.c2 (h:St w g a A l c B m d n):Kd.C k58 w B m.length m:=h.2.2.2.1
theorem St.l2 (h:St w g a A l c B m d n):m.length≤d:=h.2.2.2.2
theorem St.hd (h:St w g a A l c B m d n):C4 g (.int .i64 a) (.slice A l.length c) (.slice B m.length d) (.int .i64 n) w:=⟨blk_cell h.1 0,blk_cell h.1 1,blk_cell h.1 2,blk_cell h.1 3⟩
theorem St.ap (h:St w g a A l c B m d n) (k:w.heap.size≤g1):g≠g1∧g1≠g:=⟨Nat.ne_of_lt (Nat.lt_of_lt_of_le (blk_lt h.1) k),Nat.ne_of_gt (Nat.lt_of_lt_of_le (blk_lt h.1) k)⟩
theorem r0 {α:Type} {k:Kd α} {e:Nat} {ok:Nat→Prop} {v:Value} {xs:List α} (h:k.R e w b ok v xs):k.R e w 0 ok v xs:=Kd.R_lower h (Nat.zero_le _)
theorem St.put (a n:Int) (h:Z4 w g) (r:Kd.R k56 56 w 0 (fun _=>True) (.slice A l.length c) l) (s:Kd.R k58 58 w 0 (fun _=>True) (.slice B m.length d) m) (k:Below p.heap.size p w) (q:p.heap.size≤g):
  St (P4 w g (.int .i64 a) (.slice A l.length c) (.slice B m.length d) (.int .i64 n)) g a A l c B m d n∧Below p.heap.size p (P4 w g (.int .i64 a) (.slice A l.length c) (.slice B m.length d) (.int .i64 n)):=by
 have r':=Kd.R_reads' (far4 g (Kd.R_types r h (by decide)) (fun _ hk=>hk.2) (.int .i64 a) (.slice A l.length c) (.slice B m.length d) (.int .i64 n))
 have s':=Kd.R_reads' (far4 g (Kd.R_types s h (by decide)) (fun _ hk=>hk.2) (.int .i64 a) (.slice A l.length c) (.slice B m.length d) (.int .i64 n))
 exact ⟨⟨blk_put (blk_put (blk_put (blk_put h 0 _ rfl) 1 _ rfl) 2 _ rfl) 3 _ rfl,r'.2.2,r'.2.1,s'.2.2,s'.2.1⟩,below_set (below_set (below_set (below_set k q) q) q) q⟩
variable {P:Program} {ops:Array Oper} {Q:Exit→Act→World→Prop} {md:Region.Mode} {S:World→Prop} {ds:List Nat}
theorem nA (D:Tmp) {fuel:Nat} {v:Value} {l:Array Bool} {a a' b:Act} (h:wpAnyLast P md ops Q S ds fuel l a' w) (e:a=Act.put b (some D) v:=by rfl) (ha:Act.put b (some D) v=a':=by simp only [Act.put,List.setIfInBounds_toArray,List.set_cons_zero,List.set_cons_succ,i64_w,i32_w];rfl):wpAnyLast P md ops Q S ds fuel l a w:=norm_ (e.trans ha) h
theorem zS4 {P:Prop} (h:P:=by rintro w' ⟨⟨a,b,c,d⟩,⟨a,b,c,d⟩,⟨a,b,c,d⟩,⟨a,b,c,d⟩⟩;go_simp;with_reducible rfl):P:=h
theorem zS6 {P:Prop} (h:P:=by rintro w' ⟨⟨a,b,c,d⟩,⟨a,b,c,d⟩,⟨a,b,c,d⟩,⟨a,b,c,d⟩,⟨a,b,c,d⟩,⟨a,b,c,d⟩⟩;go_simp;with_reducible rfl):P:=h
theorem j0f {k:Nat} (h:laws_FnChunked.j0 k false=some true):False:=by cases k <;> simp [laws_FnChunked.j0] at h
theorem j0t {k:Nat} {b:Bool} (h:laws_FnChunked.j0 k b=some true):b=true:=by cases k <;> simp_all [laws_FnChunked.j0]
end
set_option maxHeartbeats 8000000 in
set_option maxRecDepth 100000 in
theorem laws_FnChunked.calls (k:Nat) (A0:Option Addr) (c0:Nat) (l0:List Int) (w:World) (hr0:Kd.C (Kd.int .u8) w A0 l0.length l0) (hc0:l0.length≤c0) (h:laws_FnChunked.f k l0=some true) :
  Calls Try.prog 4 #[.slice A0 l0.length c0] w fun e w'=>e = .returned (.bool true)∧Below w.heap.size w w':=by
 have hu27:=Try.underlying27;have HR0:=aM hr0;have HC0:=aM hc0;clear hr0 hc0;have HB:=aM (Below.refl w.heap.size w);unfold laws_FnChunked.f at h;have H:=h;clear h;replace H:=Option.bind_eq_some_iff.mp H;obtain ⟨t664,A20,H⟩:=H;(try dsimp only at H);have A2:=aM A20;clear A20;by_cases c3:t664=true
 ·
  subst c3;clear H;go_enter Try.func4,Try.ntmps4
  go_wp2_with (first|((with_reducible refine gC 5 rfl ?_);refine gL 23 Try.func5 #[.slice A0 l0.length c0] ?_;(with_reducible refine (laws_big.calls _ _ l0 true _ ?_ ?_ A2.out).mono ?_);exact zq187;exact HC0.out;rintro e w' ⟨rfl,⟨nd,rfl⟩⟩;refine ⟨_,rfl,?_⟩))
  go_ret;exact ⟨zq24,zq3⟩
 replace c3:=Bool.eq_false_iff.mpr c3;subst c3;rw [if_neg (show ¬ (false=true) by decide)] at H;replace H:=Option.bind_eq_some_iff.mp H;obtain ⟨⟨t665,t666,t669,t672,t673⟩,A40,H⟩:=H;(try dsimp only at H);have A4:=aM A40;clear A40;replace H:=Option.bind_eq_some_iff.mp H;obtain ⟨⟨t675,t676,t679,t682,t683⟩,A50,H⟩:=H;(try dsimp only at H);have A5:=aM A50;clear A50
 by_cases c6:t683=0
 rotate_left
 ·
  have c6b0:(t683 == 0)=false:=beq_eq_false_iff_ne.mpr c6;have c6b1:(t683 != 0)=true:=bne_iff_ne.mpr c6;clear H c6;go_enter Try.func4,Try.ntmps4
  go_wp2_with (first|((with_reducible refine gC 5 rfl ?_);refine gL 23 Try.func5 #[.slice A0 l0.length c0] ?_;(with_reducible refine (laws_big.calls _ _ l0 false _ ?_ ?_ A2.out).mono ?_);exact zq187;exact HC0.out;rintro e w' ⟨rfl,⟨nd,rfl⟩⟩;refine ⟨_,rfl,?_⟩)|((with_reducible refine gC 6 rfl ?_);refine gL 26 Try.func6 #[.slice A0 l0.length c0] ?_;(with_reducible refine (spec_DrawKeep.calls k _ _ l0 t665 t666 t669 t672 t673 _ ?_ ?_ A4.out).mono ?_);exact zq187;exact HC0.out;rintro e w25 ⟨v667,v670,rfl,ho0,ho1,hb⟩;refine ⟨_,rfl,?_⟩;have HO0:=aM (r0 ho0);have HO1:=aM (r0 ho1);replace HB:=sB zq3 hb;clear hb ho0 ho1)|((with_reducible refine gD 3 rfl ?_);refine bE 3 #[.int .i64 0,.slice none 0 0,.slice none 0 0,.int .i64 0] 27 ?_;intro gb674 hg w26 hbox hb;replace HO0:=rG HO0 hb;replace HO1:=rG HO1 hb;have BK:=aM hbox;have GP:=aM (zq402:w.heap.size≤gb674);replace HB:=sB zq3 hb;clear hb hbox hg;have hcz1:=cells4_ (w:=w26) BK;obtain ⟨X1,c1,e0⟩:=Kd.R_slice HO0.out;subst e0;obtain ⟨Y1,d1,e1⟩:=Kd.R_slice HO1.out;subst e1)|((with_reducible refine gC 7 rfl ?_);refine gL 32 Try.func7 #[.agg #[.int .i64 t665,.slice X1 t666.length c1,.slice Y1 t669.length d1,.int .i64 t672],.string t673] ?_;obtain ⟨S1,hq⟩:=St.put t665 t672 BK.out HO0.out HO1.out HB.out GP.out;(with_reducible refine (spec_Keep.calls k t665 _ _ t666 _ _ t669 t672 t673 t675 t676 t679 t682 t683 _ S1.c1 S1.l1 S1.c2 S1.l2 A5.out).mono ?_);rintro e w30 ⟨v677,v680,rfl,ho0,ho1,hb⟩;refine ⟨_,rfl,?_⟩;replace HO0:=aM (r0 ho0);replace HO1:=aM (r0 ho1);replace HB:=aM (below_step hq hb);replace S1:=aM (S1.le hb);clear hb hq ho0 ho1 BK GP hcz1)|((with_reducible refine gD 5 rfl ?_);refine bE 5 #[.int .i64 0,.slice none 0 0,.slice none 0 0,.int .i64 0] 27 ?_;intro gb684 hg w31 hbox hb;replace HO0:=rG HO0 hb;replace HO1:=rG HO1 hb;have BK:=aM hbox;have GP:=aM (Nat.le_of_eq hg.symm);have HP:=aM hb;clear hb hbox hg;have hcz2:=cells4_ (w:=w31) BK;obtain ⟨X2,c2,e0⟩:=Kd.R_slice HO0.out;subst e0;obtain ⟨Y2,d2,e1⟩:=Kd.R_slice HO1.out;subst e1;have hnb:=(S1.out.ap GP.out).1;have hnc:=(S1.out.ap GP.out).2;have hcz0:=(S1.out.le HP.out).hd))
  obtain ⟨S2,hq⟩:=St.put t675 t682 BK.out HO0.out HO1.out HP.out GP.out
  go_ret;exact ⟨zq24,below_step HB.out hq⟩
 rw [if_pos c6] at H;have c6b0:(t683 == 0)=true:=beq_iff_eq.mpr c6;have c6b1:(t683 != 0)=false:=bne_eq_false_iff_eq.mpr c6;clear c6;by_cases c7:(wrap64 ((t673.size:Int) + 1))=0
 ·
  rw [if_pos c7] at H;exact absurd H (by simp)
 rw [if_neg c7] at H;have c7b0:((wrap64 ((t673.size:Int) + 1)) == 0)=false:=beq_eq_false_iff_ne.mpr c7;have c7b1:((wrap64 ((t673.size:Int) + 1)) != 0)=true:=bne_iff_ne.mpr c7;replace H:=Option.bind_eq_some_iff.mp H;obtain ⟨⟨t685,t686,t689,t692,t693,t694⟩,A80,H⟩:=H;(try dsimp only at H);have A8:=aM A80;clear A80
 obtain ⟨ji9,hji9⟩:∃ j_:Int,((l0.length:Int) % (wrap64 ((t673.size:Int) + 1)))=j_:=⟨_,rfl⟩
 replace H:(if 0≤(ji9) then (if (ji9)≤(t673.size:Int) then ((impl_Chunk.f k t685 t686 t689 t692 t693 0 (t673.extract 0 ((ji9):Int).toNat)).bind fun bt696=>((impl_Chunk.f k bt696.1 bt696.2.1 bt696.2.2.1 bt696.2.2.2.1 t693 (ji9) (t673.extract ((ji9):Int).toNat t673.size)).bind fun bt706=>((spec_Digest.f k t673).bind fun t716=>((impl_Finish.f k bt706.1 bt706.2.1 bt706.2.2.1 bt706.2.2.2.1 t693 t716).bind fun bt717=>(if t673.size + 1≤9223372036854775807 then ((spec_Digest.f k (t673 ++ (⟨#[120]⟩:ByteArray))).bind fun t727=>((spec_Digest.f k t673).bind fun t728=>((spec_Digest.f k (t673 ++ (⟨#[120]⟩:ByteArray))).bind fun t729=>((impl_Finish.f k bt706.1 bt706.2.1 bt706.2.2.1 bt706.2.2.2.1 t693 t729).bind fun bt730=>((impl_Abort.f k bt706.1 bt706.2.1 bt706.2.2.1 bt706.2.2.2.1 t693).bind fun bt740=>(if t694=0 then (if bt696.2.2.2.2=0 then (if bt706.2.2.2.2=0 then (if bt717.2.2.2.2=0 then ((laws_sameStore.f k bt717.1 bt717.2.1 bt717.2.2.1 bt717.2.2.2.1 t675 t676 t679 t682).bind fun t750=>(if t750=true then (if t727.toList=t728.toList then (if bt740.2.2.2.2=0 then ((impl_DigestsOf.f k bt740.1 bt740.2.1 bt740.2.2.1 bt740.2.2.2.1).bind fun t751=>((spec_DigestsOf.f k t665 t666 t669 t672).bind fun t754=>((laws_sameTexts.f k t751 t754).bind fun t757=>(laws_FnChunked.j0 k t757)))) else (laws_FnChunked.j0 k false)) else (if bt730.2.2.2.2=6 then ((laws_sameStore.f k bt730.1 bt730.2.1 bt730.2.2.1 bt730.2.2.2.1 bt706.1 bt706.2.1 bt706.2.2.1 bt706.2.2.2.1).bind fun t758=>(if t758=true then (if bt740.2.2.2.2=0 then ((impl_DigestsOf.f k bt740.1 bt740.2.1 bt740.2.2.1 bt740.2.2.2.1).bind fun t759=>((spec_DigestsOf.f k t665 t666 t669 t672).bind fun t762=>((laws_sameTexts.f k t759 t762).bind fun t765=>(laws_FnChunked.j0 k t765)))) else (laws_FnChunked.j0 k false)) else (laws_FnChunked.j0 k false))) else (laws_FnChunked.j0 k false))) else (laws_FnChunked.j0 k false))) else (laws_FnChunked.j0 k false)) else (laws_FnChunked.j0 k false)) else (laws_FnChunked.j0 k false)) else (laws_FnChunked.j0 k false))))))) else (none)))))) else (none)) else (none))=some true:=by first|(rw [hji9] at H;exact H)|(simp only [hji9] at H ⊢;exact H)
 (try rw [hji9] at A8);by_cases c10:0≤(ji9)
 rotate_left
 ·
  rw [if_neg c10] at H;exact absurd H (by simp)
 rw [if_pos c10] at H;have c10b0:=eq_true c10;have c10b1:=decide_eq_true c10;clear c10;by_cases c11:(ji9)≤(t673.size:Int)
 rotate_left
 ·
  rw [if_neg c11] at H;exact absurd H (by simp)
 rw [if_pos c11] at H;have c11b0:=eq_true c11;have c11b1:=decide_eq_true c11;clear c11;replace H:=Option.bind_eq_some_iff.mp H;obtain ⟨⟨t696,t697,t700,t703,t704⟩,A120,H⟩:=H;(try dsimp only at H);have A12:=aM A120;clear A120;have c13b0:=eq_true (of_decide_eq_true zq34:0≤(ji9));have c14b0:=eq_true (of_decide_eq_true zq34:(ji9)≤(t673.size:Int));replace H:=Option.bind_eq_some_iff.mp H;obtain ⟨⟨t706,t707,t710,t713,t714⟩,A150,H⟩:=H;(try dsimp only at H);have A15:=aM A150;clear A150;replace H:=Option.bind_eq_some_iff.mp H;obtain ⟨t716,A160,H⟩:=H;(try dsimp only at H);have A16:=aM A160;clear A160;replace H:=Option.bind_eq_some_iff.mp H;obtain ⟨⟨t717,t718,t721,t724,t725⟩,A170,H⟩:=H;(try dsimp only at H);have A17:=aM A170;clear A170;by_cases c18:t673.size + 1≤9223372036854775807
 rotate_left
 ·
  rw [if_neg c18] at H;exact absurd H (by simp)
 rw [if_pos c18] at H;have c18b0:=eq_true c18;have c18b1:=decide_eq_true c18
 try have c18b2:(9223372036854775807 < t673.size + 1)=False:=eq_false (Nat.not_lt.2 c18)
 have hw:wrap64 ((t673.size:Int) + 1)=(t673.size:Int) + 1:=by unfold wrap64;omega
 rw [hw] at hji9;clear hw
 replace H:=Option.bind_eq_some_iff.mp H;obtain ⟨t727,A190,H⟩:=H;(try dsimp only at H);have A19:=aM A190;clear A190;replace H:=Option.bind_eq_some_iff.mp H;obtain ⟨t728,A200,H⟩:=H;(try dsimp only at H);have A20:=aM A200;clear A200;replace H:=Option.bind_eq_some_iff.mp H;obtain ⟨t729,A210,H⟩:=H;(try dsimp only at H);have A21:=aM A210;clear A210;replace H:=Option.bind_eq_some_iff.mp H;obtain ⟨⟨t730,t731,t734,t737,t738⟩,A220,H⟩:=H;(try dsimp only at H);have A22:=aM A220;clear A220;replace H:=Option.bind_eq_some_iff.mp H;obtain ⟨⟨t740,t741,t744,t747,t748⟩,A230,H⟩:=H;(try dsimp only at H);have A23:=aM A230;clear A230
 have HC24:=aM H;clear H;go_enter Try.func4,Try.ntmps4
 try go_wp2_with (first|((with_reducible refine gC 5 rfl ?_);refine gL 23 Try.func5 #[.slice A0 l0.length c0] ?_;(with_reducible refine (laws_big.calls _ _ l0 false _ ?_ ?_ A2.out).mono ?_);exact zq187;exact HC0.out;rintro e w' ⟨rfl,⟨nd,rfl⟩⟩;refine ⟨_,rfl,?_⟩)|((with_reducible refine gC 6 rfl ?_);refine gL 26 Try.func6 #[.slice A0 l0.length c0] ?_;(with_reducible refine (spec_DrawKeep.calls k _ _ l0 t665 t666 t669 t672 t673 _ ?_ ?_ A4.out).mono ?_);exact zq187;exact HC0.out;rintro e w25 ⟨v667,v670,rfl,ho0,ho1,hb⟩;refine ⟨_,rfl,?_⟩;have HO0:=aM (r0 ho0);have HO1:=aM (r0 ho1);replace HB:=sB zq3 hb;clear hb ho0 ho1)|((with_reducible refine gD 3 rfl ?_);refine bE 3 #[.int .i64 0,.slice none 0 0,.slice none 0 0,.int .i64 0] 27 ?_;intro gb674 hg w26 hbox hb;replace HO0:=rG HO0 hb;replace HO1:=rG HO1 hb;have BK:=aM hbox;have GP:=aM (zq402:w.heap.size≤gb674);replace HB:=sB zq3 hb;clear hb hbox hg;have hcz1:=cells4_ (w:=w26) BK;obtain ⟨X1,c1,e0⟩:=Kd.R_slice HO0.out;subst e0;obtain ⟨Y1,d1,e1⟩:=Kd.R_slice HO1.out;subst e1)|((with_reducible refine gC 7 rfl ?_);refine gL 32 Try.func7 #[.agg #[.int .i64 t665,.slice X1 t666.length c1,.slice Y1 t669.length d1,.int .i64 t672],.string t673] ?_;obtain ⟨S1,hq⟩:=St.put t665 t672 BK.out HO0.out HO1.out HB.out GP.out;(with_reducible refine (spec_Keep.calls k t665 _ _ t666 _ _ t669 t672 t673 t675 t676 t679 t682 t683 _ S1.c1 S1.l1 S1.c2 S1.l2 A5.out).mono ?_);rintro e w30 ⟨v677,v680,rfl,ho0,ho1,hb⟩;refine ⟨_,rfl,?_⟩;replace HO0:=aM (r0 ho0);replace HO1:=aM (r0 ho1);replace HB:=aM (below_step hq hb);replace S1:=aM (S1.le hb);clear hb hq ho0 ho1 BK GP hcz1)|((with_reducible refine gD 5 rfl ?_);refine bE 5 #[.int .i64 0,.slice none 0 0,.slice none 0 0,.int .i64 0] 27 ?_;intro gb684 hg w31 hbox hb;replace HO0:=rG HO0 hb;replace HO1:=rG HO1 hb;have BK:=aM hbox;have GP:=aM (Nat.le_of_eq hg.symm);have HP:=aM hb;clear hb hbox hg;have hcz2:=cells4_ (w:=w31) BK;obtain ⟨X2,c2,e0⟩:=Kd.R_slice HO0.out;subst e0;obtain ⟨Y2,d2,e1⟩:=Kd.R_slice HO1.out;subst e1;have hnb:=(S1.out.ap GP.out).1;have hnc:=(S1.out.ap GP.out).2;have hcz0:=(S1.out.le HP.out).hd)|((with_reducible refine gC 18 rfl ?_);refine gL 45 Try.func18 #[.agg #[.int .i64 t665,.slice X1 t666.length c1,.slice Y1 t669.length d1,.int .i64 t672]] ?_;obtain ⟨S2,hq⟩:=St.put t675 t682 BK.out HO0.out HO1.out HP.out GP.out;replace S1:=aM (S1.out.le hq);(with_reducible refine (impl_Begin.calls k t665 _ _ t666 _ _ t669 t672 t685 t686 t689 t692 t693 t694 _ S1.out.c1 S1.out.l1 S1.out.c2 S1.out.l2 A8.out).mono ?_);rintro e w37 ⟨v687,v690,rfl,ho0,ho1,hb⟩;refine ⟨_,rfl,?_⟩;replace HO0:=aM (r0 ho0);replace HO1:=aM (r0 ho1);replace HB:=aM (below_step (below_step HB.out hq) hb);replace S1:=aM (S1.out.le hb);replace S2:=aM (S2.le hb);clear hb hq ho0 ho1 BK GP HP hcz2 hnb hnc hcz0)|((with_reducible refine gD 8 rfl ?_);refine bE 8 #[.int .i64 0,.slice none 0 0,.slice none 0 0,.int .i64 0] 27 ?_;intro gb695 hg w38 hbox hb;replace HO0:=rG HO0 hb;replace HO1:=rG HO1 hb;have BK:=aM hbox;have GP:=aM (Nat.le_of_eq hg.symm);have HP:=aM hb;clear hb hbox hg;have hcz3:=cells4_ (w:=w38) BK;obtain ⟨X3,c3,e0⟩:=Kd.R_slice HO0.out;subst e0;obtain ⟨Y3,d3,e1⟩:=Kd.R_slice HO1.out;subst e1))
 (try simp only [hji9])
 obtain ⟨S3,hq⟩:=St.put t685 t692 BK.out HO0.out HO1.out HP.out GP.out
 replace hq:=below_drew1 hq;replace S1:=aM (S1.out.le hq);replace S2:=aM (S2.out.le hq);replace S3:=aM (S3.le (below_drew1 (Below.refl _ _)));replace HB:=aM (below_step HB.out hq);clear hq
 refine start_ (n:=12) (S:=C4 gb695 (.int .i64 t685) (.slice X3 t686.length c3) (.slice Y3 t689.length d3) (.int .i64 t692)) (ds:=[]) (bA 12 0) (by kernel_rfl) rfl rfl S3.out.hd (fun hHeld=>?_);refine with_tabW laws_FnChunked.tab9 laws_FnChunked.bits9 (fun HT_ HW_=>?_)
 generalize (P4 w38 gb695 (.int .i64 t685) (.slice X3 t686.length c3) (.slice Y3 t689.length d3) (.int .i64 t692)).drew=p1 at S1 S2 S3 HB hHeld ⊢;refine pV 1 51 12 2 ?_;refine pV 2 52 12 6 ?_;refine pV 3 53 12 14 ?_;refine pV 4 54 12 30 ?_;refine tV 0 50 12 31 rfl zq508 ?_;have kb:=Below.refl p1.heap.size p1
 refine join_ (σ:=Value×Value×Nat) 2 (bA 12 1023) (fun s_=>[(55,.tuple #[.agg #[.int .i64 t696,s_.1,s_.2.1,.int .i64 t703],.int .i64 t704]),(11,.pointer (some ⟨s_.2.2,0,none⟩)),(49,.tuple #[.agg #[.int .i64 t696,s_.1,s_.2.1,.int .i64 t703],.int .i64 t704]),(56,.agg #[.int .i64 t696,s_.1,s_.2.1,.int .i64 t703]),(57,.int .i64 t704)]) (J4 (C4 gb695 (.int .i64 t685) (.slice X3 t686.length c3) (.slice Y3 t689.length d3) (.int .i64 t692)) t697 t700 p1) ?_ ?_
 rotate_left
 ·
  intro hCont;refine two_ (i:=5) (j:=9) (Ni:=some 55) (Nj:=some 11) (bA 12 63) (bA 12 543) rfl rfl rfl rfl (two_of HT_.out (by kernel_rfl)) (by decide) (by decide) (fun K hK=>?_) (fun K hK=>?_)
  ·
   refine goes_ Try.func19 (by kernel_rfl) rfl #[.agg #[.int .i64 t685,.slice X3 t686.length c3,.slice Y3 t689.length d3,.int .i64 t692],.int .i64 t693,.int .i64 0,.string (t673.extract 0 ((ji9):Int).toNat)] (by rfl) rfl rfl zq206 ?_;(with_reducible refine (impl_Chunk.calls k t685 _ _ t686 _ _ t689 t692 t693 0 (t673.extract 0 ((ji9):Int).toNat) t696 t697 t700 t703 t704 _ (S3.out.le kb).c1 (S3.out.le kb).l1 (S3.out.le kb).c2 (S3.out.le kb).l2 A12.out).mono ?_);rintro e w2 ⟨v,u,rfl,ho0,ho1,hb⟩;refine ⟨_,rfl,?_⟩;replace kb:=below_step kb hb;refine hK.out _ _ (S3.out.le kb).hd (fun hHeld=>?_);clear hK K;refine nA 55 ?_
   refine pV 6 49 12 127 ?_;refine pV 7 56 12 255 ?_;refine pV 8 57 12 511 ?_
   refine oE 9 11 12 1023 rfl (fun K hK=>?_)
   refine box_step ?hg (N:=11) ?hd (cs:=#[.int .i64 0,.slice none 0 0,.slice none 0 0,.int .i64 0]) (t:=27) ?hr ?_;(case hd=>rfl);(case hg=>rfl);(case hr=>exact zq2);intro gb705 hg w3 hbox hb2;have q:=Nat.le_trans kb.size (Nat.le_of_eq hg.symm);have z:Z4 w3 gb705:=hbox;replace kb:=below_step kb hb2;refine hK.out _ _ (S3.out.le kb).hd (fun hHeld=>?_);clear hK K;refine nA 11 ?_
   exact norm_ zq71 (hCont (v,u,gb705) _ ⟨hHeld,Kd.R_below (r0 ho0) hb2,Kd.R_below (r0 ho1) hb2,z,kb,q⟩)
  refine box_step ?hg (N:=11) ?hd (cs:=#[.int .i64 0,.slice none 0 0,.slice none 0 0,.int .i64 0]) (t:=27) ?hr ?_;(case hd=>rfl);(case hg=>rfl);(case hr=>exact zq2);intro gb705 hg w2 hbox hb;have q:=Nat.le_trans kb.size (Nat.le_of_eq hg.symm);have z:Z4 w2 gb705:=hbox;replace kb:=below_step kb hb;refine hK.out _ _ (S3.out.le kb).hd (fun hHeld=>?_);clear hK K hb hbox hg;refine nA 11 ?_
  refine oE 5 55 12 575 rfl (fun K hK=>?_)
  refine goes_ Try.func19 (by kernel_rfl) rfl #[.agg #[.int .i64 t685,.slice X3 t686.length c3,.slice Y3 t689.length d3,.int .i64 t692],.int .i64 t693,.int .i64 0,.string (t673.extract 0 ((ji9):Int).toNat)] (by rfl) rfl rfl zq206 ?_;(with_reducible refine (impl_Chunk.calls k t685 _ _ t686 _ _ t689 t692 t693 0 (t673.extract 0 ((ji9):Int).toNat) t696 t697 t700 t703 t704 _ (S3.out.le kb).c1 (S3.out.le kb).l1 (S3.out.le kb).c2 (S3.out.le kb).l2 A12.out).mono ?_);rintro e w3 ⟨v,u,rfl,ho0,ho1,hb⟩;refine ⟨_,rfl,?_⟩;replace kb:=below_step kb hb;refine hK.out _ _ (S3.out.le kb).hd (fun hHeld=>?_);clear hK K;refine nA 55 ?_
  replace z:=blk_below z hb
  refine pV 6 49 12 639 ?_;refine pV 7 56 12 767 ?_;refine pV 8 57 12 1023 ?_
  exact norm_ zq71 (hCont (v,u,gb705) _ ⟨hHeld,r0 ho0,r0 ho1,z,kb,q⟩)
 rintro ⟨v,u,gb705⟩ w1 ⟨hHeld,R0,R1,z,kb,q⟩;obtain ⟨X4,c4,e0⟩:=Kd.R_slice R0;subst e0;obtain ⟨Y4,d4,e1⟩:=Kd.R_slice R1;subst e1;obtain ⟨S4,hq⟩:=St.put t696 t703 z R0 R1 kb q
 refine norm_ (a':=?_) ?_ ?_;rotate_left;exact zq517;refine one_ (i:=10) (N:=none) (bA 12 2047) rfl rfl (one_of HT_.out (by kernel_rfl)) (by decide) (fun K hK=>?_);have hcz:=cells4_ (w:=w1) (aM z)
 refine skip_ (w1:=?_) (by rfl) rfl ?_ ?_;rotate_left
 ·
  go_simp
  rfl
 refine hK.out _ _ (S3.out.le hq).hd (fun hHeld=>?_);clear hK K hcz;refine pV 11 12 12 4095 ?_;refine dE ?_
 try go_wp2
 replace hq:=below_drew1 hq;replace S1:=aM (S1.out.le hq);replace S2:=aM (S2.out.le hq);replace S4:=aM (S4.le (below_drew1 (Below.refl _ _)));replace HB:=aM (below_step HB.out hq);clear hq
 refine start_ (n:=13) (S:=C4 gb705 (.int .i64 t696) (.slice X4 t697.length c4) (.slice Y4 t700.length d4) (.int .i64 t703)) (ds:=[]) (bA 13 0) (by kernel_rfl) rfl rfl S4.out.hd (fun hHeld=>?_);refine with_tabW laws_FnChunked.tab10 laws_FnChunked.bits10 (fun HT_ HW_=>?_)
 generalize (P4 w1 gb705 (.int .i64 t696) (.slice X4 t697.length c4) (.slice Y4 t700.length d4) (.int .i64 t703)).drew=p2 at S1 S2 S4 HB hHeld ⊢;refine pV 1 60 13 2 ?_;refine pV 2 61 13 6 ?_;refine pV 3 62 13 14 ?_;refine pV 4 63 13 30 ?_;refine pV 5 64 13 62 ?_;refine tV 0 59 13 63 rfl zq508 ?_;have kb:=Below.refl p2.heap.size p2
 refine join_ (σ:=Value×Value×Nat) 2 (bA 13 2047) (fun s_=>[(65,.tuple #[.agg #[.int .i64 t706,s_.1,s_.2.1,.int .i64 t713],.int .i64 t714]),(13,.pointer (some ⟨s_.2.2,0,none⟩)),(58,.tuple #[.agg #[.int .i64 t706,s_.1,s_.2.1,.int .i64 t713],.int .i64 t714]),(66,.agg #[.int .i64 t706,s_.1,s_.2.1,.int .i64 t713]),(67,.int .i64 t714)]) (J4 (C4 gb705 (.int .i64 t696) (.slice X4 t697.length c4) (.slice Y4 t700.length d4) (.int .i64 t703)) t707 t710 p2) ?_ ?_
 rotate_left
 ·
  intro hCont;refine two_ (i:=6) (j:=10) (Ni:=some 65) (Nj:=some 13) (bA 13 127) (bA 13 1087) rfl rfl rfl rfl (two_of HT_.out (by kernel_rfl)) (by decide) (by decide) (fun K hK=>?_) (fun K hK=>?_)
  ·
   refine goes_ Try.func19 (by kernel_rfl) rfl #[.agg #[.int .i64 t696,.slice X4 t697.length c4,.slice Y4 t700.length d4,.int .i64 t703],.int .i64 t693,.int .i64 ji9,.string (t673.extract ((ji9):Int).toNat t673.size)] (by rfl) rfl rfl zq206 ?_;(with_reducible refine (impl_Chunk.calls k t696 _ _ t697 _ _ t700 t703 t693 ji9 (t673.extract ((ji9):Int).toNat t673.size) t706 t707 t710 t713 t714 _ (S4.out.le kb).c1 (S4.out.le kb).l1 (S4.out.le kb).c2 (S4.out.le kb).l2 A15.out).mono ?_);rintro e w2 ⟨v,u,rfl,ho0,ho1,hb⟩;refine ⟨_,rfl,?_⟩;replace kb:=below_step kb hb;refine hK.out _ _ (S4.out.le kb).hd (fun hHeld=>?_);clear hK K;refine nA 65 ?_
   refine pV 7 58 13 255 ?_;refine pV 8 66 13 511 ?_;refine pV 9 67 13 1023 ?_
   refine oE 10 13 13 2047 rfl (fun K hK=>?_)
   refine box_step ?hg (N:=13) ?hd (cs:=#[.int .i64 0,.slice none 0 0,.slice none 0 0,.int .i64 0]) (t:=27) ?hr ?_;(case hd=>rfl);(case hg=>rfl);(case hr=>exact zq2);intro gb715 hg w3 hbox hb2;have q:=Nat.le_trans kb.size (Nat.le_of_eq hg.symm);have z:Z4 w3 gb715:=hbox;replace kb:=below_step kb hb2;refine hK.out _ _ (S4.out.le kb).hd (fun hHeld=>?_);clear hK K;refine nA 13 ?_
   exact norm_ zq71 (hCont (v,u,gb715) _ ⟨hHeld,Kd.R_below (r0 ho0) hb2,Kd.R_below (r0 ho1) hb2,z,kb,q⟩)
  refine box_step ?hg (N:=13) ?hd (cs:=#[.int .i64 0,.slice none 0 0,.slice none 0 0,.int .i64 0]) (t:=27) ?hr ?_;(case hd=>rfl);(case hg=>rfl);(case hr=>exact zq2);intro gb715 hg w2 hbox hb;have q:=Nat.le_trans kb.size (Nat.le_of_eq hg.symm);have z:Z4 w2 gb715:=hbox;replace kb:=below_step kb hb;refine hK.out _ _ (S4.out.le kb).hd (fun hHeld=>?_);clear hK K hb hbox hg;refine nA 13 ?_
  refine oE 6 65 13 1151 rfl (fun K hK=>?_)
  refine goes_ Try.func19 (by kernel_rfl) rfl #[.agg #[.int .i64 t696,.slice X4 t697.length c4,.slice Y4 t700.length d4,.int .i64 t703],.int .i64 t693,.int .i64 ji9,.string (t673.extract ((ji9):Int).toNat t673.size)] (by rfl) rfl rfl zq206 ?_;(with_reducible refine (impl_Chunk.calls k t696 _ _ t697 _ _ t700 t703 t693 ji9 (t673.extract ((ji9):Int).toNat t673.size) t706 t707 t710 t713 t714 _ (S4.out.le kb).c1 (S4.out.le kb).l1 (S4.out.le kb).c2 (S4.out.le kb).l2 A15.out).mono ?_);rintro e w3 ⟨v,u,rfl,ho0,ho1,hb⟩;refine ⟨_,rfl,?_⟩;replace kb:=below_step kb hb;refine hK.out _ _ (S4.out.le kb).hd (fun hHeld=>?_);clear hK K;refine nA 65 ?_
  replace z:=blk_below z hb
  refine pV 7 58 13 1279 ?_;refine pV 8 66 13 1535 ?_;refine pV 9 67 13 2047 ?_
  exact norm_ zq71 (hCont (v,u,gb715) _ ⟨hHeld,r0 ho0,r0 ho1,z,kb,q⟩)
 rintro ⟨v,u,gb715⟩ w1 ⟨hHeld,R0,R1,z,kb,q⟩;obtain ⟨X5,c5,e0⟩:=Kd.R_slice R0;subst e0;obtain ⟨Y5,d5,e1⟩:=Kd.R_slice R1;subst e1;obtain ⟨S5,hq⟩:=St.put t706 t713 z R0 R1 kb q
 refine norm_ (a':=?_) ?_ ?_;rotate_left;exact zq517;refine one_ (i:=11) (N:=none) (bA 13 4095) rfl rfl (one_of HT_.out (by kernel_rfl)) (by decide) (fun K hK=>?_);have hcz:=cells4_ (w:=w1) (aM z)
 refine skip_ (w1:=?_) (by rfl) rfl ?_ ?_;rotate_left
 ·
  go_simp
  rfl
 refine hK.out _ _ (S4.out.le hq).hd (fun hHeld=>?_);clear hK K hcz;refine pV 12 14 13 8191 ?_;refine dE ?_
 try go_wp2
 replace hq:=below_drew1 hq;replace S1:=aM (S1.out.le hq);replace S2:=aM (S2.out.le hq);replace S5:=aM (S5.le (below_drew1 (Below.refl _ _)));replace HB:=aM (below_step HB.out hq);clear hq
 refine start_ (n:=11) (S:=C4 gb715 (.int .i64 t706) (.slice X5 t707.length c5) (.slice Y5 t710.length d5) (.int .i64 t713)) (ds:=[]) (bA 11 0) (by kernel_rfl) rfl rfl S5.out.hd (fun hHeld=>?_);refine with_tabW laws_FnChunked.tab11 laws_FnChunked.bits11 (fun HT_ HW_=>?_)
 generalize (P4 w1 gb715 (.int .i64 t706) (.slice X5 t707.length c5) (.slice Y5 t710.length d5) (.int .i64 t713)).drew=p3 at S1 S2 S5 HB hHeld ⊢;refine pV 1 70 11 2 ?_;refine pV 2 71 11 6 ?_;refine tV 0 69 11 7 rfl zq508 ?_;have kb:=Below.refl p3.heap.size p3
 refine join_ (σ:=Value×Value×Nat) 2 (bA 11 511) (fun s_=>[(72,.string t716),(73,.tuple #[.agg #[.int .i64 t717,s_.1,s_.2.1,.int .i64 t724],.int .i64 t725]),(15,.pointer (some ⟨s_.2.2,0,none⟩)),(68,.tuple #[.agg #[.int .i64 t717,s_.1,s_.2.1,.int .i64 t724],.int .i64 t725]),(74,.agg #[.int .i64 t717,s_.1,s_.2.1,.int .i64 t724]),(75,.int .i64 t725)]) (J4 (C4 gb715 (.int .i64 t706) (.slice X5 t707.length c5) (.slice Y5 t710.length d5) (.int .i64 t713)) t718 t721 p3) ?_ ?_
 rotate_left
 ·
  intro hCont;refine two_ (i:=3) (j:=8) (Ni:=some 72) (Nj:=some 15) (bA 11 15) (bA 11 263) rfl rfl rfl rfl (two_of HT_.out (by kernel_rfl)) (by decide) (by decide) (fun K hK=>?_) (fun K hK=>?_)
  ·
   refine goes_ Try.func10 (by kernel_rfl) rfl #[.string t673] (by rfl) rfl rfl zq6 ?_;(with_reducible refine (spec_Digest.calls k t673 t716 _ A16.out).mono ?_);rintro e w0 ⟨rfl,hb⟩;refine ⟨_,rfl,?_⟩;replace kb:=below_step kb hb;refine hK.out _ _ (S5.out.le kb).hd (fun hHeld=>?_);clear hK K;refine nA 72 ?_
   clear hb
   refine two_ (i:=4) (j:=8) (Ni:=some 73) (Nj:=some 15) (bA 11 31) (bA 11 271) rfl rfl rfl rfl (two_of HT_.out (by kernel_rfl)) (by decide) (by decide) (fun K hK=>?_) (fun K hK=>?_)
   ·
    refine goes_ Try.func20 (by kernel_rfl) rfl #[.agg #[.int .i64 t706,.slice X5 t707.length c5,.slice Y5 t710.length d5,.int .i64 t713],.int .i64 t693,.string t716] (by rfl) rfl rfl zq6 ?_;(with_reducible refine (impl_Finish.calls k t706 _ _ t707 _ _ t710 t713 t693 t716 t717 t718 t721 t724 t725 _ (S5.out.le kb).c1 (S5.out.le kb).l1 (S5.out.le kb).c2 (S5.out.le kb).l2 A17.out).mono ?_);rintro e w2 ⟨v,u,rfl,ho0,ho1,hb⟩;refine ⟨_,rfl,?_⟩;replace kb:=below_step kb hb;refine hK.out _ _ (S5.out.le kb).hd (fun hHeld=>?_);clear hK K;refine nA 73 ?_
    refine pV 5 68 11 63 ?_;refine pV 6 74 11 127 ?_;refine pV 7 75 11 255 ?_
    refine oE 8 15 11 511 rfl (fun K hK=>?_)
    refine box_step ?hg (N:=15) ?hd (cs:=#[.int .i64 0,.slice none 0 0,.slice none 0 0,.int .i64 0]) (t:=27) ?hr ?_;(case hd=>rfl);(case hg=>rfl);(case hr=>exact zq2);intro gb726 hg w3 hbox hb2;have q:=Nat.le_trans kb.size (Nat.le_of_eq hg.symm);have z:Z4 w3 gb726:=hbox;replace kb:=below_step kb hb2;refine hK.out _ _ (S5.out.le kb).hd (fun hHeld=>?_);clear hK K;refine nA 15 ?_
    exact norm_ zq71 (hCont (v,u,gb726) _ ⟨hHeld,Kd.R_below (r0 ho0) hb2,Kd.R_below (r0 ho1) hb2,z,kb,q⟩)
   refine box_step ?hg (N:=15) ?hd (cs:=#[.int .i64 0,.slice none 0 0,.slice none 0 0,.int .i64 0]) (t:=27) ?hr ?_;(case hd=>rfl);(case hg=>rfl);(case hr=>exact zq2);intro gb726 hg w2 hbox hb;have q:=Nat.le_trans kb.size (Nat.le_of_eq hg.symm);have z:Z4 w2 gb726:=hbox;replace kb:=below_step kb hb;refine hK.out _ _ (S5.out.le kb).hd (fun hHeld=>?_);clear hK K hb hbox hg;refine nA 15 ?_
   refine oE 4 73 11 287 rfl (fun K hK=>?_)
   refine goes_ Try.func20 (by kernel_rfl) rfl #[.agg #[.int .i64 t706,.slice X5 t707.length c5,.slice Y5 t710.length d5,.int .i64 t713],.int .i64 t693,.string t716] (by rfl) rfl rfl zq6 ?_;(with_reducible refine (impl_Finish.calls k t706 _ _ t707 _ _ t710 t713 t693 t716 t717 t718 t721 t724 t725 _ (S5.out.le kb).c1 (S5.out.le kb).l1 (S5.out.le kb).c2 (S5.out.le kb).l2 A17.out).mono ?_);rintro e w3 ⟨v,u,rfl,ho0,ho1,hb⟩;refine ⟨_,rfl,?_⟩;replace kb:=below_step kb hb;refine hK.out _ _ (S5.out.le kb).hd (fun hHeld=>?_);clear hK K;refine nA 73 ?_
   replace z:=blk_below z hb
   refine pV 5 68 11 319 ?_;refine pV 6 74 11 383 ?_;refine pV 7 75 11 511 ?_
   exact norm_ zq71 (hCont (v,u,gb726) _ ⟨hHeld,r0 ho0,r0 ho1,z,kb,q⟩)
  refine box_step ?hg (N:=15) ?hd (cs:=#[.int .i64 0,.slice none 0 0,.slice none 0 0,.int .i64 0]) (t:=27) ?hr ?_;(case hd=>rfl);(case hg=>rfl);(case hr=>exact zq2);intro gb726 hg w0 hbox hb;have q:=Nat.le_trans kb.size (Nat.le_of_eq hg.symm);have z:Z4 w0 gb726:=hbox;replace kb:=below_step kb hb;refine hK.out _ _ (S5.out.le kb).hd (fun hHeld=>?_);clear hK K hb hbox hg;refine nA 15 ?_
  refine oE 3 72 11 271 rfl (fun K hK=>?_)
  refine goes_ Try.func10 (by kernel_rfl) rfl #[.string t673] (by rfl) rfl rfl zq6 ?_;(with_reducible refine (spec_Digest.calls k t673 t716 _ A16.out).mono ?_);rintro e w2 ⟨rfl,hb⟩;refine ⟨_,rfl,?_⟩;replace kb:=below_step kb hb;refine hK.out _ _ (S5.out.le kb).hd (fun hHeld=>?_);clear hK K;refine nA 72 ?_
  replace z:=blk_below z hb
  clear hb
  refine oE 4 73 11 287 rfl (fun K hK=>?_)
  refine goes_ Try.func20 (by kernel_rfl) rfl #[.agg #[.int .i64 t706,.slice X5 t707.length c5,.slice Y5 t710.length d5,.int .i64 t713],.int .i64 t693,.string t716] (by rfl) rfl rfl zq6 ?_;(with_reducible refine (impl_Finish.calls k t706 _ _ t707 _ _ t710 t713 t693 t716 t717 t718 t721 t724 t725 _ (S5.out.le kb).c1 (S5.out.le kb).l1 (S5.out.le kb).c2 (S5.out.le kb).l2 A17.out).mono ?_);rintro e w3 ⟨v,u,rfl,ho0,ho1,hb⟩;refine ⟨_,rfl,?_⟩;replace kb:=below_step kb hb;refine hK.out _ _ (S5.out.le kb).hd (fun hHeld=>?_);clear hK K;refine nA 73 ?_
  replace z:=blk_below z hb
  refine pV 5 68 11 319 ?_;refine pV 6 74 11 383 ?_;refine pV 7 75 11 511 ?_
  exact norm_ zq71 (hCont (v,u,gb726) _ ⟨hHeld,r0 ho0,r0 ho1,z,kb,q⟩)
 rintro ⟨v,u,gb726⟩ w1 ⟨hHeld,R0,R1,z,kb,q⟩;obtain ⟨X6,c6,e0⟩:=Kd.R_slice R0;subst e0;obtain ⟨Y6,d6,e1⟩:=Kd.R_slice R1;subst e1;obtain ⟨S6,hq⟩:=St.put t717 t724 z R0 R1 kb q
 refine norm_ (a':=?_) ?_ ?_;rotate_left;exact zq517;refine one_ (i:=9) (N:=none) (bA 11 1023) rfl rfl (one_of HT_.out (by kernel_rfl)) (by decide) (fun K hK=>?_);have hcz:=cells4_ (w:=w1) (aM z)
 refine skip_ (w1:=?_) (by rfl) rfl ?_ ?_;rotate_left
 ·
  go_simp
  rfl
 refine hK.out _ _ (S5.out.le hq).hd (fun hHeld=>?_);clear hK K hcz;refine pV 10 16 11 2047 ?_;refine dE ?_
 try go_wp2_with (first|((with_reducible refine gC 10 rfl ?_);refine gL 78 Try.func10 #[.string (t673 ++ (⟨#[120]⟩:ByteArray))] ?_;(with_reducible refine (spec_Digest.calls k (t673 ++ (⟨#[120]⟩:ByteArray)) t727 _ A19.out).mono ?_);rintro e w78 ⟨rfl,hb⟩;refine ⟨_,rfl,?_⟩;replace hq:=below_step hq hb;replace S6:=S6.le hb;clear hb)|((with_reducible refine gC 10 rfl ?_);refine gL 80 Try.func10 #[.string t673] ?_;(with_reducible refine (spec_Digest.calls k t673 t728 _ A20.out).mono ?_);rintro e w79 ⟨rfl,hb⟩;refine ⟨_,rfl,?_⟩;replace hq:=below_step hq hb;replace S6:=S6.le hb;clear hb))
 replace hq:=below_drew1 hq;replace S1:=aM (S1.out.le hq);replace S2:=aM (S2.out.le hq);replace S5:=aM (S5.out.le hq);replace S6:=aM (S6.le (below_drew1 (Below.refl _ _)));replace HB:=aM (below_step HB.out hq);clear hq
 refine start_ (n:=12) (S:=C4 gb715 (.int .i64 t706) (.slice X5 t707.length c5) (.slice Y5 t710.length d5) (.int .i64 t713)) (ds:=[]) (bA 12 0) (by kernel_rfl) rfl rfl S5.out.hd (fun hHeld=>?_);refine with_tabW laws_FnChunked.tab13 laws_FnChunked.bits13 (fun HT_ HW_=>?_)
 generalize w79.drew=p4 at S1 S2 S5 S6 HB hHeld ⊢;refine pV 1 84 12 2 ?_;refine pV 2 85 12 6 ?_;refine pV 3 86 12 14 ?_;refine tV 0 83 12 15 rfl zq508 ?_;have kb:=Below.refl p4.heap.size p4
 refine join_ (σ:=Value×Value×Nat) 2 (bA 12 1023) (fun s_=>[(87,.string t729),(88,.tuple #[.agg #[.int .i64 t730,s_.1,s_.2.1,.int .i64 t737],.int .i64 t738]),(18,.pointer (some ⟨s_.2.2,0,none⟩)),(82,.tuple #[.agg #[.int .i64 t730,s_.1,s_.2.1,.int .i64 t737],.int .i64 t738]),(89,.agg #[.int .i64 t730,s_.1,s_.2.1,.int .i64 t737]),(90,.int .i64 t738)]) (J4 (C4 gb715 (.int .i64 t706) (.slice X5 t707.length c5) (.slice Y5 t710.length d5) (.int .i64 t713)) t731 t734 p4) ?_ ?_
 rotate_left
 ·
  intro hCont;refine two_ (i:=4) (j:=9) (Ni:=some 87) (Nj:=some 18) (bA 12 31) (bA 12 527) rfl rfl rfl rfl (two_of HT_.out (by kernel_rfl)) (by decide) (by decide) (fun K hK=>?_) (fun K hK=>?_)
  ·
   refine goes_ Try.func10 (by kernel_rfl) rfl #[.string (t673 ++ (⟨#[120]⟩:ByteArray))] (by rfl) rfl rfl zq6 ?_;(with_reducible refine (spec_Digest.calls k (t673 ++ (⟨#[120]⟩:ByteArray)) t729 _ A21.out).mono ?_);rintro e w0 ⟨rfl,hb⟩;refine ⟨_,rfl,?_⟩;replace kb:=below_step kb hb;refine hK.out _ _ (S5.out.le kb).hd (fun hHeld=>?_);clear hK K;refine nA 87 ?_
   clear hb
   refine two_ (i:=5) (j:=9) (Ni:=some 88) (Nj:=some 18) (bA 12 63) (bA 12 543) rfl rfl rfl rfl (two_of HT_.out (by kernel_rfl)) (by decide) (by decide) (fun K hK=>?_) (fun K hK=>?_)
   ·
    refine goes_ Try.func20 (by kernel_rfl) rfl #[.agg #[.int .i64 t706,.slice X5 t707.length c5,.slice Y5 t710.length d5,.int .i64 t713],.int .i64 t693,.string t729] (by rfl) rfl rfl zq6 ?_;(with_reducible refine (impl_Finish.calls k t706 _ _ t707 _ _ t710 t713 t693 t729 t730 t731 t734 t737 t738 _ (S5.out.le kb).c1 (S5.out.le kb).l1 (S5.out.le kb).c2 (S5.out.le kb).l2 A22.out).mono ?_);rintro e w2 ⟨v,u,rfl,ho0,ho1,hb⟩;refine ⟨_,rfl,?_⟩;replace kb:=below_step kb hb;refine hK.out _ _ (S5.out.le kb).hd (fun hHeld=>?_);clear hK K;refine nA 88 ?_
    refine pV 6 82 12 127 ?_;refine pV 7 89 12 255 ?_;refine pV 8 90 12 511 ?_
    refine oE 9 18 12 1023 rfl (fun K hK=>?_)
    refine box_step ?hg (N:=18) ?hd (cs:=#[.int .i64 0,.slice none 0 0,.slice none 0 0,.int .i64 0]) (t:=27) ?hr ?_;(case hd=>rfl);(case hg=>rfl);(case hr=>exact zq2);intro gb739 hg w3 hbox hb2;have q:=Nat.le_trans kb.size (Nat.le_of_eq hg.symm);have z:Z4 w3 gb739:=hbox;replace kb:=below_step kb hb2;refine hK.out _ _ (S5.out.le kb).hd (fun hHeld=>?_);clear hK K;refine nA 18 ?_
    exact norm_ zq71 (hCont (v,u,gb739) _ ⟨hHeld,Kd.R_below (r0 ho0) hb2,Kd.R_below (r0 ho1) hb2,z,kb,q⟩)
   refine box_step ?hg (N:=18) ?hd (cs:=#[.int .i64 0,.slice none 0 0,.slice none 0 0,.int .i64 0]) (t:=27) ?hr ?_;(case hd=>rfl);(case hg=>rfl);(case hr=>exact zq2);intro gb739 hg w2 hbox hb;have q:=Nat.le_trans kb.size (Nat.le_of_eq hg.symm);have z:Z4 w2 gb739:=hbox;replace kb:=below_step kb hb;refine hK.out _ _ (S5.out.le kb).hd (fun hHeld=>?_);clear hK K hb hbox hg;refine nA 18 ?_
   refine oE 5 88 12 575 rfl (fun K hK=>?_)
   refine goes_ Try.func20 (by kernel_rfl) rfl #[.agg #[.int .i64 t706,.slice X5 t707.length c5,.slice Y5 t710.length d5,.int .i64 t713],.int .i64 t693,.string t729] (by rfl) rfl rfl zq6 ?_;(with_reducible refine (impl_Finish.calls k t706 _ _ t707 _ _ t710 t713 t693 t729 t730 t731 t734 t737 t738 _ (S5.out.le kb).c1 (S5.out.le kb).l1 (S5.out.le kb).c2 (S5.out.le kb).l2 A22.out).mono ?_);rintro e w3 ⟨v,u,rfl,ho0,ho1,hb⟩;refine ⟨_,rfl,?_⟩;replace kb:=below_step kb hb;refine hK.out _ _ (S5.out.le kb).hd (fun hHeld=>?_);clear hK K;refine nA 88 ?_
   replace z:=blk_below z hb
   refine pV 6 82 12 639 ?_;refine pV 7 89 12 767 ?_;refine pV 8 90 12 1023 ?_
   exact norm_ zq71 (hCont (v,u,gb739) _ ⟨hHeld,r0 ho0,r0 ho1,z,kb,q⟩)
  refine box_step ?hg (N:=18) ?hd (cs:=#[.int .i64 0,.slice none 0 0,.slice none 0 0,.int .i64 0]) (t:=27) ?hr ?_;(case hd=>rfl);(case hg=>rfl);(case hr=>exact zq2);intro gb739 hg w0 hbox hb;have q:=Nat.le_trans kb.size (Nat.le_of_eq hg.symm);have z:Z4 w0 gb739:=hbox;replace kb:=below_step kb hb;refine hK.out _ _ (S5.out.le kb).hd (fun hHeld=>?_);clear hK K hb hbox hg;refine nA 18 ?_
  refine oE 4 87 12 543 rfl (fun K hK=>?_)
  refine goes_ Try.func10 (by kernel_rfl) rfl #[.string (t673 ++ (⟨#[120]⟩:ByteArray))] (by rfl) rfl rfl zq6 ?_;(with_reducible refine (spec_Digest.calls k (t673 ++ (⟨#[120]⟩:ByteArray)) t729 _ A21.out).mono ?_);rintro e w2 ⟨rfl,hb⟩;refine ⟨_,rfl,?_⟩;replace kb:=below_step kb hb;refine hK.out _ _ (S5.out.le kb).hd (fun hHeld=>?_);clear hK K;refine nA 87 ?_
  replace z:=blk_below z hb
  clear hb
  refine oE 5 88 12 575 rfl (fun K hK=>?_)
  refine goes_ Try.func20 (by kernel_rfl) rfl #[.agg #[.int .i64 t706,.slice X5 t707.length c5,.slice Y5 t710.length d5,.int .i64 t713],.int .i64 t693,.string t729] (by rfl) rfl rfl zq6 ?_;(with_reducible refine (impl_Finish.calls k t706 _ _ t707 _ _ t710 t713 t693 t729 t730 t731 t734 t737 t738 _ (S5.out.le kb).c1 (S5.out.le kb).l1 (S5.out.le kb).c2 (S5.out.le kb).l2 A22.out).mono ?_);rintro e w3 ⟨v,u,rfl,ho0,ho1,hb⟩;refine ⟨_,rfl,?_⟩;replace kb:=below_step kb hb;refine hK.out _ _ (S5.out.le kb).hd (fun hHeld=>?_);clear hK K;refine nA 88 ?_
  replace z:=blk_below z hb
  refine pV 6 82 12 639 ?_;refine pV 7 89 12 767 ?_;refine pV 8 90 12 1023 ?_
  exact norm_ zq71 (hCont (v,u,gb739) _ ⟨hHeld,r0 ho0,r0 ho1,z,kb,q⟩)
 rintro ⟨v,u,gb739⟩ w1 ⟨hHeld,R0,R1,z,kb,q⟩;obtain ⟨X7,c7,e0⟩:=Kd.R_slice R0;subst e0;obtain ⟨Y7,d7,e1⟩:=Kd.R_slice R1;subst e1;obtain ⟨S7,hq⟩:=St.put t730 t737 z R0 R1 kb q
 refine norm_ (a':=?_) ?_ ?_;rotate_left;exact zq517;refine one_ (i:=10) (N:=none) (bA 12 2047) rfl rfl (one_of HT_.out (by kernel_rfl)) (by decide) (fun K hK=>?_);have hcz:=cells4_ (w:=w1) (aM z)
 refine skip_ (w1:=?_) (by rfl) rfl ?_ ?_;rotate_left
 ·
  go_simp
  rfl
 refine hK.out _ _ (S5.out.le hq).hd (fun hHeld=>?_);clear hK K hcz;refine pV 11 19 12 4095 ?_;refine dE ?_
 have hnb:=(S5.out.ap q).1;have hnc:=(S5.out.ap q).2;have hcz0:=(S5.out.le kb).hd;have HQ:=aM hq;replace S7:=aM S7;clear hq z q kb R0 R1
 go_upto_region 15 with (first|((with_reducible refine gC 21 rfl ?_);refine gL 94 Try.func21 #[.agg #[.int .i64 t706,.slice X5 t707.length c5,.slice Y5 t710.length d5,.int .i64 t713],.int .i64 t693] ?_;replace S1:=aM (S1.out.le HQ.out);replace S2:=aM (S2.out.le HQ.out);replace S5:=aM (S5.out.le HQ.out);replace S6:=aM (S6.out.le HQ.out);(with_reducible refine (impl_Abort.calls k t706 _ _ t707 _ _ t710 t713 t693 t740 t741 t744 t747 t748 _ S5.out.c1 S5.out.l1 S5.out.c2 S5.out.l2 A23.out).mono ?_);rintro e w98 ⟨v742,v745,rfl,ho0,ho1,hb⟩;refine ⟨_,rfl,?_⟩;replace HB:=aM (below_step (below_step HB.out HQ.out) hb);replace S1:=aM (S1.out.le hb);replace S2:=aM (S2.out.le hb);replace S5:=aM (S5.out.le hb);replace S6:=aM (S6.out.le hb);replace S7:=aM (S7.out.le hb);have HO0:=aM (r0 ho0);have HO1:=aM (r0 ho1);clear hb HQ hnb hnc hcz0 ho0 ho1)|((with_reducible refine gD 20 rfl ?_);refine bE 20 #[.int .i64 0,.slice none 0 0,.slice none 0 0,.int .i64 0] 27 ?_;intro gb749 hg w99 hbox hb;replace HO0:=rG HO0 hb;replace HO1:=rG HO1 hb;have BK:=aM hbox;have GP:=aM (Nat.le_of_eq hg.symm);have HP:=aM hb;clear hb hbox hg;have hcz8:=cells4_ (w:=w99) BK;obtain ⟨X8,c8,e0⟩:=Kd.R_slice HO0.out;subst e0;obtain ⟨Y8,d8,e1⟩:=Kd.R_slice HO1.out;subst e1))
 (try simp only [Act.put,List.setIfInBounds_toArray,List.set_cons_zero,List.set_cons_succ])
 obtain ⟨S8,hq⟩:=St.put t740 t747 BK.out HO0.out HO1.out HP.out GP.out
 have H:=HC24.out;clear HC24
 by_cases c110:t694=0
 rotate_left
 ·
  rw [if_neg c110] at H;exact (j0f H).elim
 rw [if_pos c110] at H;have c110b0:(t694 == 0)=true:=beq_iff_eq.mpr c110;have c110b1:(t694 != 0)=false:=bne_eq_false_iff_eq.mpr c110;clear c110
 by_cases c111:t704=0
 rotate_left
 ·
  rw [if_neg c111] at H;exact (j0f H).elim
 rw [if_pos c111] at H;have c111b0:(t704 == 0)=true:=beq_iff_eq.mpr c111;have c111b1:(t704 != 0)=false:=bne_eq_false_iff_eq.mpr c111;clear c111
 by_cases c112:t714=0
 rotate_left
 ·
  rw [if_neg c112] at H;exact (j0f H).elim
 rw [if_pos c112] at H;have c112b0:(t714 == 0)=true:=beq_iff_eq.mpr c112;have c112b1:(t714 != 0)=false:=bne_eq_false_iff_eq.mpr c112;clear c112
 by_cases c113:t725=0
 rotate_left
 ·
  rw [if_neg c113] at H;exact (j0f H).elim
 rw [if_pos c113] at H;have c113b0:(t725 == 0)=true:=beq_iff_eq.mpr c113;have c113b1:(t725 != 0)=false:=bne_eq_false_iff_eq.mpr c113;clear c113
 (first | rw [c110b0]|(simp only [i64_w,i32_w];rw [c110b0])|skip)
 replace H:=Option.bind_eq_some_iff.mp H;obtain ⟨t750,A1140,H⟩:=H;(try dsimp only at H);have A114:=aM A1140;clear A1140;by_cases c115:t750=true
 rotate_left
 ·
  rw [if_neg c115] at H;exact (j0f H).elim
 subst c115;rw [if_pos rfl] at H
 replace hq:=below_drew1 hq;replace S1:=aM (S1.out.le hq);replace S2:=aM (S2.out.le hq);replace S5:=aM (S5.out.le hq);replace S6:=aM (S6.out.le hq);replace S7:=aM (S7.out.le hq);replace S8:=aM (S8.le (below_drew1 (Below.refl _ _)));replace HB:=aM (below_step HB.out hq);clear hq BK HO0 HO1 HP GP hcz8
 by_cases c116:t727.toList=t728.toList
 ·
  rw [if_pos c116] at H;have c116b0:(t727.toList == t728.toList)=true:=beq_iff_eq.mpr c116;have c116b1:(t727.toList != t728.toList)=false:=bne_eq_false_iff_eq.mpr c116;clear c116
  by_cases c117:t748=0
  rotate_left
  ·
   rw [if_neg c117] at H;exact (j0f H).elim
  rw [if_pos c117] at H;have c117b0:(t748 == 0)=true:=beq_iff_eq.mpr c117;have c117b1:(t748 != 0)=false:=bne_eq_false_iff_eq.mpr c117;clear c117
  replace H:=Option.bind_eq_some_iff.mp H;obtain ⟨t751,A1180,H⟩:=H;(try dsimp only at H);have A118:=aM A1180;clear A1180;replace H:=Option.bind_eq_some_iff.mp H;obtain ⟨t754,A1190,H⟩:=H;(try dsimp only at H);have A119:=aM A1190;clear A1190;replace H:=Option.bind_eq_some_iff.mp H;obtain ⟨t757,A1200,H⟩:=H;obtain rfl:=j0t H;have A120:=aM A1200;clear A1200 H
  try go_wp2
  refine start_ (n:=43) (S:=fun w'=>C4 gb726 (.int .i64 t717) (.slice X6 t718.length c6) (.slice Y6 t721.length d6) (.int .i64 t724) w'∧C4 gb684 (.int .i64 t675) (.slice X2 t676.length c2) (.slice Y2 t679.length d2) (.int .i64 t682) w'∧C4 gb749 (.int .i64 t740) (.slice X8 t741.length c8) (.slice Y8 t744.length d8) (.int .i64 t747) w'∧C4 gb674 (.int .i64 t665) (.slice X1 t666.length c1) (.slice Y1 t669.length d1) (.int .i64 t672) w') (ds:=[]) (bA 43 0) (by kernel_rfl) rfl rfl ⟨S6.out.hd,S2.out.hd,S8.out.hd,S1.out.hd⟩ (fun hHeld=>?_);refine with_tabW laws_FnChunked.tab15 laws_FnChunked.bits15 (fun HT_ HW_=>?_)
  generalize (P4 w99 gb749 (.int .i64 t740) (.slice X8 t741.length c8) (.slice Y8 t744.length d8) (.int .i64 t747)).drew=p5 at S1 S2 S5 S6 S7 S8 HB hHeld ⊢
  refine pV 0 97 43 1 ?_;refine pV 1 98 43 3 ?_;refine pV 2 99 43 7 ?_;refine pV 3 100 43 15 ?_;refine pV 4 101 43 31 ?_;refine pV 5 102 43 63 ?_;refine pV 6 103 43 127 ?_;refine pV 7 104 43 255 ?_;refine pV 8 105 43 511 ?_;refine pV 9 106 43 1023 ?_;refine pV 10 107 43 2047 ?_;refine pV 11 108 43 4095 ?_;refine pV 12 109 43 8191 ?_;refine pV 13 110 43 16383 ?_;refine pV 14 111 43 32767 ?_;refine tV 15 112 43 65535 rfl zS4 ?_;refine tV 16 113 43 131071 rfl zS4 ?_
  refine oE 17 114 43 262143 rfl (fun K hK=>?_)
  refine goes_ Try.func9 (by kernel_rfl) rfl #[.agg #[.int .i64 t717,.slice X6 t718.length c6,.slice Y6 t721.length d6,.int .i64 t724],.agg #[.int .i64 t675,.slice X2 t676.length c2,.slice Y2 t679.length d2,.int .i64 t682]] (by rfl) rfl rfl zq6 ?_;(with_reducible refine (laws_sameStore.calls k t717 _ _ t718 _ _ t721 t724 t675 _ _ t676 _ _ t679 t682 true _ S6.out.c1 S6.out.l1 S6.out.c2 S6.out.l2 S2.out.c1 S2.out.l1 S2.out.c2 S2.out.l2 A114.out).mono ?_)
  rintro e w2 ⟨rfl,hb⟩;refine ⟨_,rfl,?_⟩;replace S6:=aM (S6.out.le hb);replace S2:=aM (S2.out.le hb);replace S8:=aM (S8.out.le hb);replace S1:=aM (S1.out.le hb);replace HB:=aM (below_step HB.out hb);refine hK.out _ _ ⟨S6.out.hd,S2.out.hd,S8.out.hd,S1.out.hd⟩ (fun hHeld=>?_);clear hK K;refine nA 114 ?_
  clear hb
  refine pV 18 115 43 524287 ?_;refine pV 19 116 43 1048575 ?_;refine pV 20 117 43 2097151 ?_;refine pV 21 118 43 4194303 ?_;refine pU 22 119 43 8388607 ?_;refine pU 23 120 43 16777215 ?_;refine pU 24 121 43 33554431 ?_;refine pU 25 122 43 67108863 ?_;refine pU 26 123 43 134217727 ?_;refine pU 27 124 43 268435455 ?_;refine pU 28 125 43 536870911 ?_;refine pV 29 126 43 1073741823 ?_;refine pV 30 127 43 2147483647 ?_;refine pV 31 128 43 4294967295 ?_;refine pV 32 129 43 8589934591 ?_;refine pV 33 130 43 17179869183 ?_;refine pV 34 131 43 34359738367 ?_;refine pV 35 132 43 68719476735 ?_;refine tV 36 133 43 137438953471 rfl zS4 ?_;refine tV 38 135 43 412316860415 rfl zS4 ?_
  refine oE 37 134 43 549755813887 rfl (fun K hK=>?_)
  refine goes_ Try.func15 (by kernel_rfl) rfl #[.agg #[.int .i64 t740,.slice X8 t741.length c8,.slice Y8 t744.length d8,.int .i64 t747]] (by rfl) rfl rfl zq6 ?_;(with_reducible refine (impl_DigestsOf.calls k t740 _ _ t741 _ _ t744 t747 t751 _ S8.out.c1 S8.out.l1 S8.out.c2 S8.out.l2 A118.out).mono ?_)
  rintro e w4 ⟨v,rfl,ho0,hb⟩;refine ⟨_,rfl,?_⟩;replace S6:=aM (S6.out.le hb);replace S2:=aM (S2.out.le hb);replace S8:=aM (S8.out.le hb);replace S1:=aM (S1.out.le hb);replace HB:=aM (below_step HB.out hb);refine hK.out _ _ ⟨S6.out.hd,S2.out.hd,S8.out.hd,S1.out.hd⟩ (fun hHeld=>?_);clear hK K;refine nA 134 ?_
  clear hb
  refine oE 39 136 43 1099511627775 rfl (fun K hK=>?_)
  refine goes_ Try.func23 (by kernel_rfl) rfl #[.agg #[.int .i64 t665,.slice X1 t666.length c1,.slice Y1 t669.length d1,.int .i64 t672]] (by rfl) rfl rfl zq6 ?_;(with_reducible refine (spec_DigestsOf.calls k t665 _ _ t666 _ _ t669 t672 t754 _ S1.out.c1 S1.out.l1 S1.out.c2 S1.out.l2 A119.out).mono ?_)
  rintro e w5 ⟨u,rfl,ho1,hb⟩;refine ⟨_,rfl,?_⟩;replace S6:=aM (S6.out.le hb);replace S2:=aM (S2.out.le hb);replace S8:=aM (S8.out.le hb);replace S1:=aM (S1.out.le hb);replace HB:=aM (below_step HB.out hb);obtain ⟨A9,c9,e0⟩:=Kd.R_slice ho0;subst e0;obtain ⟨A10,c10,e1⟩:=Kd.R_slice ho1;subst e1;have r0:=Kd.R_reads' (Kd.R_below ho0 hb);have r1:=Kd.R_reads' ho1;refine hK.out _ _ ⟨S6.out.hd,S2.out.hd,S8.out.hd,S1.out.hd⟩ (fun hHeld=>?_);clear hK K;refine nA 136 ?_
  clear hb
  refine oE 40 137 43 2199023255551 rfl (fun K hK=>?_)
  refine goes_ Try.func22 (by kernel_rfl) rfl #[.slice A9 t751.length c9,.slice A10 t754.length c10] (by rfl) rfl rfl zq6 ?_;(with_reducible refine (laws_sameTexts.calls k _ _ t751 _ _ t754 true _ r0.2.2 r0.2.1 r1.2.2 r1.2.1 A120.out).mono ?_)
  rintro e w' ⟨rfl,⟨nd,rfl⟩⟩;refine ⟨_,rfl,?_⟩;refine hK.out _ _ ⟨S6.out.hd,S2.out.hd,S8.out.hd,S1.out.hd⟩ (fun hHeld=>?_);clear hK K;refine nA 137 ?_
  refine pV 41 138 43 4398046511103 ?_;refine pV 42 2 43 8796093022207 ?_;refine dE ?_
  try go_wp2
  go_ret;exact ⟨by first | rfl|(simp [errW_none,errW_some] <;> rfl)|(simp only [← hji9];first | rfl|(simp [errW_none,errW_some] <;> rfl))|(simp [*,errW_none,errW_some] <;> rfl),zq3⟩
 rw [if_neg c116] at H;have c116b0:(t727.toList == t728.toList)=false:=beq_eq_false_iff_ne.mpr c116;have c116b1:(t727.toList != t728.toList)=true:=bne_iff_ne.mpr c116;by_cases c131:t738=6
 rotate_left
 ·
  rw [if_neg c131] at H;exact (j0f H).elim
 rw [if_pos c131] at H;have c131b0:(t738 == 6)=true:=beq_iff_eq.mpr c131;have c131b1:(t738 != 6)=false:=bne_eq_false_iff_eq.mpr c131;clear c131;replace H:=Option.bind_eq_some_iff.mp H;obtain ⟨t758,A1320,H⟩:=H;(try dsimp only at H);have A132:=aM A1320;clear A1320;by_cases c133:t758=true
 rotate_left
 ·
  rw [if_neg c133] at H;exact (j0f H).elim
 subst c133;rw [if_pos rfl] at H
 by_cases c117:t748=0
 rotate_left
 ·
  rw [if_neg c117] at H;exact (j0f H).elim
 rw [if_pos c117] at H;have c117b0:(t748 == 0)=true:=beq_iff_eq.mpr c117;have c117b1:(t748 != 0)=false:=bne_eq_false_iff_eq.mpr c117;clear c117
 replace H:=Option.bind_eq_some_iff.mp H;obtain ⟨t759,A1350,H⟩:=H;(try dsimp only at H);have A135:=aM A1350;clear A1350;replace H:=Option.bind_eq_some_iff.mp H;obtain ⟨t762,A1360,H⟩:=H;(try dsimp only at H);have A136:=aM A1360;clear A1360;replace H:=Option.bind_eq_some_iff.mp H;obtain ⟨t765,A1370,H⟩:=H;obtain rfl:=j0t H;have A137:=aM A1370;clear A1370 H
 try go_wp2
 refine start_ (n:=43) (S:=fun w'=>C4 gb726 (.int .i64 t717) (.slice X6 t718.length c6) (.slice Y6 t721.length d6) (.int .i64 t724) w'∧C4 gb684 (.int .i64 t675) (.slice X2 t676.length c2) (.slice Y2 t679.length d2) (.int .i64 t682) w'∧C4 gb739 (.int .i64 t730) (.slice X7 t731.length c7) (.slice Y7 t734.length d7) (.int .i64 t737) w'∧C4 gb715 (.int .i64 t706) (.slice X5 t707.length c5) (.slice Y5 t710.length d5) (.int .i64 t713) w'∧C4 gb749 (.int .i64 t740) (.slice X8 t741.length c8) (.slice Y8 t744.length d8) (.int .i64 t747) w'∧C4 gb674 (.int .i64 t665) (.slice X1 t666.length c1) (.slice Y1 t669.length d1) (.int .i64 t672) w') (ds:=[]) (bA 43 0) (by kernel_rfl) rfl rfl ⟨S6.out.hd,S2.out.hd,S7.out.hd,S5.out.hd,S8.out.hd,S1.out.hd⟩ (fun hHeld=>?_);refine with_tabW laws_FnChunked.tab15 laws_FnChunked.bits15 (fun HT_ HW_=>?_)
 generalize (P4 w99 gb749 (.int .i64 t740) (.slice X8 t741.length c8) (.slice Y8 t744.length d8) (.int .i64 t747)).drew=p5 at S1 S2 S5 S6 S7 S8 HB hHeld ⊢
 refine pV 0 97 43 1 ?_;refine pV 1 98 43 3 ?_;refine pV 2 99 43 7 ?_;refine pV 3 100 43 15 ?_;refine pV 4 101 43 31 ?_;refine pV 5 102 43 63 ?_;refine pV 6 103 43 127 ?_;refine pV 7 104 43 255 ?_;refine pV 8 105 43 511 ?_;refine pV 9 106 43 1023 ?_;refine pV 10 107 43 2047 ?_;refine pV 11 108 43 4095 ?_;refine pV 12 109 43 8191 ?_;refine pV 13 110 43 16383 ?_;refine pV 14 111 43 32767 ?_;refine tV 15 112 43 65535 rfl zS6 ?_;refine tV 16 113 43 131071 rfl zS6 ?_
 refine oE 17 114 43 262143 rfl (fun K hK=>?_)
 refine goes_ Try.func9 (by kernel_rfl) rfl #[.agg #[.int .i64 t717,.slice X6 t718.length c6,.slice Y6 t721.length d6,.int .i64 t724],.agg #[.int .i64 t675,.slice X2 t676.length c2,.slice Y2 t679.length d2,.int .i64 t682]] (by rfl) rfl rfl zq6 ?_;(with_reducible refine (laws_sameStore.calls k t717 _ _ t718 _ _ t721 t724 t675 _ _ t676 _ _ t679 t682 true _ S6.out.c1 S6.out.l1 S6.out.c2 S6.out.l2 S2.out.c1 S2.out.l1 S2.out.c2 S2.out.l2 A114.out).mono ?_)
 rintro e w2 ⟨rfl,hb⟩;refine ⟨_,rfl,?_⟩;replace S6:=aM (S6.out.le hb);replace S2:=aM (S2.out.le hb);replace S7:=aM (S7.out.le hb);replace S5:=aM (S5.out.le hb);replace S8:=aM (S8.out.le hb);replace S1:=aM (S1.out.le hb);replace HB:=aM (below_step HB.out hb);refine hK.out _ _ ⟨S6.out.hd,S2.out.hd,S7.out.hd,S5.out.hd,S8.out.hd,S1.out.hd⟩ (fun hHeld=>?_);clear hK K;refine nA 114 ?_
 clear hb
 refine pV 18 115 43 524287 ?_;refine pV 19 116 43 1048575 ?_;refine pV 20 117 43 2097151 ?_;refine pV 21 118 43 4194303 ?_;refine pV 22 119 43 8388607 ?_;refine pV 23 120 43 16777215 ?_;refine pV 24 121 43 33554431 ?_;refine tV 25 122 43 67108863 rfl zS6 ?_;refine tV 26 123 43 134217727 rfl zS6 ?_
 refine oE 27 124 43 268435455 rfl (fun K hK=>?_)
 refine goes_ Try.func9 (by kernel_rfl) rfl #[.agg #[.int .i64 t730,.slice X7 t731.length c7,.slice Y7 t734.length d7,.int .i64 t737],.agg #[.int .i64 t706,.slice X5 t707.length c5,.slice Y5 t710.length d5,.int .i64 t713]] (by rfl) rfl rfl zq6 ?_;(with_reducible refine (laws_sameStore.calls k t730 _ _ t731 _ _ t734 t737 t706 _ _ t707 _ _ t710 t713 true _ S7.out.c1 S7.out.l1 S7.out.c2 S7.out.l2 S5.out.c1 S5.out.l1 S5.out.c2 S5.out.l2 A132.out).mono ?_)
 rintro e w3 ⟨rfl,hb⟩;refine ⟨_,rfl,?_⟩;replace S6:=aM (S6.out.le hb);replace S2:=aM (S2.out.le hb);replace S7:=aM (S7.out.le hb);replace S5:=aM (S5.out.le hb);replace S8:=aM (S8.out.le hb);replace S1:=aM (S1.out.le hb);replace HB:=aM (below_step HB.out hb);refine hK.out _ _ ⟨S6.out.hd,S2.out.hd,S7.out.hd,S5.out.hd,S8.out.hd,S1.out.hd⟩ (fun hHeld=>?_);clear hK K;refine nA 124 ?_
 clear hb
 refine pV 28 125 43 536870911 ?_;refine pV 29 126 43 1073741823 ?_;refine pV 30 127 43 2147483647 ?_;refine pV 31 128 43 4294967295 ?_;refine pV 32 129 43 8589934591 ?_;refine pV 33 130 43 17179869183 ?_;refine pV 34 131 43 34359738367 ?_;refine pV 35 132 43 68719476735 ?_;refine tV 36 133 43 137438953471 rfl zS6 ?_;refine tV 38 135 43 412316860415 rfl zS6 ?_
 refine oE 37 134 43 549755813887 rfl (fun K hK=>?_)
 refine goes_ Try.func15 (by kernel_rfl) rfl #[.agg #[.int .i64 t740,.slice X8 t741.length c8,.slice Y8 t744.length d8,.int .i64 t747]] (by rfl) rfl rfl zq6 ?_;(with_reducible refine (impl_DigestsOf.calls k t740 _ _ t741 _ _ t744 t747 t759 _ S8.out.c1 S8.out.l1 S8.out.c2 S8.out.l2 A135.out).mono ?_)
 rintro e w4 ⟨v,rfl,ho0,hb⟩;refine ⟨_,rfl,?_⟩;replace S6:=aM (S6.out.le hb);replace S2:=aM (S2.out.le hb);replace S7:=aM (S7.out.le hb);replace S5:=aM (S5.out.le hb);replace S8:=aM (S8.out.le hb);replace S1:=aM (S1.out.le hb);replace HB:=aM (below_step HB.out hb);refine hK.out _ _ ⟨S6.out.hd,S2.out.hd,S7.out.hd,S5.out.hd,S8.out.hd,S1.out.hd⟩ (fun hHeld=>?_);clear hK K;refine nA 134 ?_
 clear hb
 refine oE 39 136 43 1099511627775 rfl (fun K hK=>?_)
 refine goes_ Try.func23 (by kernel_rfl) rfl #[.agg #[.int .i64 t665,.slice X1 t666.length c1,.slice Y1 t669.length d1,.int .i64 t672]] (by rfl) rfl rfl zq6 ?_;(with_reducible refine (spec_DigestsOf.calls k t665 _ _ t666 _ _ t669 t672 t762 _ S1.out.c1 S1.out.l1 S1.out.c2 S1.out.l2 A136.out).mono ?_)
 rintro e w5 ⟨u,rfl,ho1,hb⟩;refine ⟨_,rfl,?_⟩;replace S6:=aM (S6.out.le hb);replace S2:=aM (S2.out.le hb);replace S7:=aM (S7.out.le hb);replace S5:=aM (S5.out.le hb);replace S8:=aM (S8.out.le hb);replace S1:=aM (S1.out.le hb);replace HB:=aM (below_step HB.out hb);obtain ⟨A9,c9,e0⟩:=Kd.R_slice ho0;subst e0;obtain ⟨A10,c10,e1⟩:=Kd.R_slice ho1;subst e1;have r0:=Kd.R_reads' (Kd.R_below ho0 hb);have r1:=Kd.R_reads' ho1;refine hK.out _ _ ⟨S6.out.hd,S2.out.hd,S7.out.hd,S5.out.hd,S8.out.hd,S1.out.hd⟩ (fun hHeld=>?_);clear hK K;refine nA 136 ?_
 clear hb
 refine oE 40 137 43 2199023255551 rfl (fun K hK=>?_)
 refine goes_ Try.func22 (by kernel_rfl) rfl #[.slice A9 t759.length c9,.slice A10 t762.length c10] (by rfl) rfl rfl zq6 ?_;(with_reducible refine (laws_sameTexts.calls k _ _ t759 _ _ t762 true _ r0.2.2 r0.2.1 r1.2.2 r1.2.1 A137.out).mono ?_)
 rintro e w' ⟨rfl,⟨nd,rfl⟩⟩;refine ⟨_,rfl,?_⟩;refine hK.out _ _ ⟨S6.out.hd,S2.out.hd,S7.out.hd,S5.out.hd,S8.out.hd,S1.out.hd⟩ (fun hHeld=>?_);clear hK K;refine nA 137 ?_
 refine pV 41 138 43 4398046511103 ?_;refine pV 42 2 43 8796093022207 ?_;refine dE ?_
 try go_wp2
 go_ret;exact ⟨by first | rfl|(simp [errW_none,errW_some] <;> rfl)|(simp only [← hji9];first | rfl|(simp [errW_none,errW_some] <;> rfl))|(simp [*,errW_none,errW_some] <;> rfl),zq3⟩
/-- THE ONE PURE STATEMENT of laws_FnChunked: yours. -/
def laws_FnChunked.Pure:Prop:=∀ (l0:List Int),l0.length≤maxLen→l0.length * 1≤140737488351232→(∀ x ∈ l0,(Lit.int .u8 x).wf=true)→∃ k,laws_FnChunked.f k l0=some true
theorem laws_FnChunked.walk (P:laws_FnChunked.Pure) (a0:Option Addr) (len0 cap0:Nat) (z0:List Int) (w:World) (w0:(a0=none∧len0=0∧cap0=0∧z0 = [])∨∃ x,a0=some x∧len0≤cap0∧cap0≤maxLen∧z0.length=cap0∧(∀ i,i < z0.length→w.cell? (x.add i)=some (.int .u8 (z0.getD i 0)))∧∀ n ∈ z0,(Lit.int .u8 n).wf=true) (y0:len0 * 1≤140737488351232) :
  Calls Try.prog 4 #[.slice a0 len0 cap0] w fun e w'=>e = .returned (.bool true)∧Below w.heap.size w w':=by
 obtain ⟨l0,rfl,hr0,hm0,hw0,hc0⟩:=ReadsInt.ofRowC w0;obtain ⟨k,h⟩:=P l0 hm0 y0 hw0;refine (laws_FnChunked.calls k _ _ l0 w (Kd.C_of_reads (d:=(0:Int)) (h1:=fun _=>rfl) hr0) hc0 h).mono ?_;rintro e w' ⟨rfl,hd⟩;exact ⟨rfl,hd⟩
end Go.Proofs.Ytldpdaifajjaeaa.QFnChunked
