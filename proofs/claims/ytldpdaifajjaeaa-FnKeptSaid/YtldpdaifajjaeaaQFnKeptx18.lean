/- Written by wip/myprint.py of this repo (the kit's print, with additions of this session). -/
import Derived.Test.YtldpdaifajjaeaaQFnKeptx0
set_option maxRecDepth 100000
namespace Go.Proofs.Ytldpdaifajjaeaa.QFnKept
open Go.RowKit Go.Proofs.YtldpdaifajjaeaaW.PrintWords Go.Proofs.YtldpdaifajjaeaaW.PrintLast Go.Proofs.YtldpdaifajjaeaaW.PrintMore
attribute [local go_sem] max2_int min2_int max_two min_two max_three min_three max_four min_four
set_option linter.unusedVariables false
set_option linter.unusedSimpArgs false

set_option maxHeartbeats 8000000 in
/-- The closure: how the digest of a blob lies to a text. -/
theorem impl_blobOf.cmp (b0 b1 d:ByteArray) (w:World) :
  Calls Try.prog 59 #[.agg #[.string b0,.string b1],.string d] w fun e w'=>e = .returned (.int .i64 (Lib.compareBytes b0.data.toList d.data.toList))∧Below w.heap.size w w':=by
 have hb1:=(Below.refl w.heap.size w).alloc (Nat.le_refl _) (.cells #[.string b0,.string b1] 56);go_enter Try.func59,Try.ntmps59
 go_wp2_with (first|((with_reducible refine gC 60 rfl ?_);refine gL 8 Try.func60 #[.string b0,.string d] ?_;refine (Any.strings_Compare Try.lays106 b0 d _).mono ?_;rintro e w7 ⟨rfl,rfl⟩;refine ⟨_,rfl,?_⟩))
 go_ret;exact ⟨rfl,hb1⟩
def impl_blobOf.bs (l:List S56) (d:ByteArray):Nat→Nat→Nat→Nat
 | 0,i,_=>i
 | k + 1,i,j=>if i < j then (if Lib.compareBytes (rd_T56 l (((i + j) / 2:Nat):Int)).f0.data.toList d.data.toList < 0 then impl_blobOf.bs l d k ((i + j) / 2 + 1) j else impl_blobOf.bs l d k i ((i + j) / 2)) else i
theorem impl_blobOf.bs_done (l:List S56) (d:ByteArray) (k i j:Nat) (h:¬ i < j):impl_blobOf.bs l d k i j=i:=by
 cases k with
 | zero=>rfl
 | succ k=>unfold impl_blobOf.bs;rw [if_neg h]
theorem impl_blobOf.half (i j:Nat) (x y:Int) (hx:x=(i:Int)) (hy:y=(j:Int)) (h:i + j < 4611686018427387904):wrap64 (IntKind.u64.wrap (wrap64 (x + y)) / 2)=(((i + j) / 2:Nat):Int):=by
 subst hx;subst hy
 have e1:wrap64 ((i:Int) + (j:Int))=((i + j:Nat):Int):=by unfold wrap64;omega
 have e2:IntKind.u64.wrap ((i + j:Nat):Int)=((i + j:Nat):Int):=by unfold IntKind.wrap;simp [IntKind.bits,IntKind.signed];omega
 rw [e1,e2]
 unfold wrap64;omega
set_option maxHeartbeats 8000000 in
theorem impl_blobOf.search (l:List S56) (A:Option Addr) (c:Nat) (d:ByteArray) (w:World) (hr:Kd.C k56 w A l.length l) (hc:l.length≤c) (hm:l.length≤2305843009213693952) :
  Calls Try.prog 58 #[.slice A l.length c,.string d,.func (.func 59) #[] #[]] w fun e w'=>e = .returned (.tuple #[.int .i64 (impl_blobOf.bs l d l.length 0 l.length:Int),.bool (decide (impl_blobOf.bs l d l.length 0 l.length < l.length) && decide (Lib.compareBytes (rd_T56 l (impl_blobOf.bs l d l.length 0 l.length:Int)).f0.data.toList d.data.toList=0))])∧Below w.heap.size w w':=by
 have HR:=aM hr;have HC:=aM hc;have HM:=aM hm;clear hr hc hm;go_enter Try.func58,Try.ntmps58;go_wp2
 go_loopg [9,10] l.length (fun kq v9 v10 w'=>∃ (i j:Nat) (x9 x10:Int),v9 = .int .i64 x9∧v10 = .int .i64 x10∧Aside0 (x9=(i:Int))∧Aside0 (x10=(j:Int))∧Aside0 (i≤j∧j≤l.length∧j - i≤kq)∧Aside0 (impl_blobOf.bs l d kq i j=impl_blobOf.bs l d l.length 0 l.length)∧Aside0 (Below w.heap.size w w'))
 case atStart=>exact ⟨0,l.length,0,(l.length:Int),rfl,rfl,⟨rfl⟩,⟨rfl⟩,⟨by omega⟩,⟨rfl⟩,⟨Below.refl _ _⟩⟩
 case round =>
  obtain ⟨i,j,x9,x10,rfl,rfl,HI,HJ,hij,HE,HB⟩:=hrel;by_cases g:i < j
  ·
   have c1:decide (x9 < x10)=true:=decide_eq_true (by have:=HI.out;have:=HJ.out;omega)
   cases gk with
   | zero=>exact absurd hij.out (by omega)
   | succ k1 =>
    have G:=aM g;clear g
    have eh:wrap64 (IntKind.u64.wrap (wrap64 (x9 + x10)) / 2)=(((i + j) / 2:Nat):Int):=impl_blobOf.half i j x9 x10 HI.out HJ.out (by have:=hij.out;have:=HM.out;have:=G.out;omega);have EH:=aM eh;clear eh
    have b1:=eq_true (show 0≤wrap64 (IntKind.u64.wrap (wrap64 (x9 + x10)) / 2) by have:=EH.out;omega);have b2:=eq_true (show wrap64 (IntKind.u64.wrap (wrap64 (x9 + x10)) / 2) < (l.length:Int) by have:=EH.out;have:=hij.out;have:=G.out;omega);obtain ⟨ad,e1,h0,h1⟩:=at_T56 HR.out (wrap64 (IntKind.u64.wrap (wrap64 (x9 + x10)) / 2)) (by simpa using b1) (by simpa using b2);subst e1;have hx0:=hxB HB h0;have hx1:=hxB HB h1;clear h0 h1;by_cases hq:Lib.compareBytes (rd_T56 l (wrap64 (IntKind.u64.wrap (wrap64 (x9 + x10)) / 2))).f0.data.toList d.data.toList < 0
    ·
     have q1:=decide_eq_true hq;have HQ:=aM hq;clear hq
     go_wp2_with (fail)
     refine (impl_blobOf.cmp _ _ d wr).mono ?_;rintro e w7 ⟨rfl,hb⟩;have HB2:=aM (below_step HB.out hb);clear hb
     try dsimp only
     go_wp2
     go_roundg k1
     case measure=>omega
     case rel =>
      refine ⟨(i + j) / 2 + 1,j,_,x10,rfl,rfl,⟨?_⟩,HJ,⟨by have:=hij.out;have:=G.out;omega⟩,⟨?_⟩,HB2⟩
      ·
       rw [EH.out];have:=hij.out;have:=HM.out;unfold wrap64;omega
      rw [← HE.out]
      conv=>rhs;unfold impl_blobOf.bs
      rw [if_pos G.out,if_pos (by have:=HQ.out;rw [EH.out] at this;exact this)]
    have q1:=decide_eq_false hq;have HQ:=aM hq;clear hq
    go_wp2_with (fail)
    refine (impl_blobOf.cmp _ _ d wr).mono ?_;rintro e w7 ⟨rfl,hb⟩;have HB2:=aM (below_step HB.out hb);clear hb
    try dsimp only
    go_wp2
    go_roundg k1
    case measure=>omega
    case rel =>
     refine ⟨i,(i + j) / 2,x9,_,rfl,rfl,HI,EH,⟨by have:=hij.out;have:=G.out;omega⟩,⟨?_⟩,HB2⟩;rw [← HE.out]
     conv=>rhs;unfold impl_blobOf.bs
     rw [if_pos G.out,if_neg (by have:=HQ.out;rw [EH.out] at this;omega)]
  have c1:decide (x9 < x10)=false:=decide_eq_false (by have:=HI.out;have:=HJ.out;omega);have G:=aM g;clear g
  by_cases gn:i < l.length
  ·
   have c2:decide (x9 < (l.length:Int))=true:=decide_eq_true (by have:=HI.out;omega);have b1:=eq_true (show 0≤x9 by have:=HI.out;omega);have b2:=eq_true (show x9 < (l.length:Int) by have:=HI.out;omega);obtain ⟨ad,e1,h0,h1⟩:=at_T56 HR.out x9 (by simpa using b1) (by simpa using b2);subst e1;have hx0:=hxB HB h0;have hx1:=hxB HB h1;clear h0 h1;have GN:=aM gn;clear gn
   go_wp2_with (fail)
   refine (impl_blobOf.cmp _ _ d wr).mono ?_;rintro e w7 ⟨rfl,hb⟩;have HB2:=aM (below_step HB.out hb);clear hb
   try dsimp only
   go_wp2;refine bodyPost_ret (results_tmp2 rfl _ _ _) rfl ?_;refine ⟨?_,HB2.out⟩;rw [← HE.out,impl_blobOf.bs_done _ _ _ _ _ G.out];have hi:=HI.out;subst hi;rw [decide_eq_true GN.out,Bool.true_and]
   rfl
  have c2:decide (x9 < (l.length:Int))=false:=decide_eq_false (by have:=HI.out;omega);have GN:=aM gn;clear gn
  go_wp2;refine bodyPost_ret (results_tmp2 rfl _ _ _) rfl ?_;refine ⟨?_,HB.out⟩;rw [← HE.out,impl_blobOf.bs_done _ _ _ _ _ G.out];have hi:=HI.out;subst hi;rw [decide_eq_false GN.out,Bool.false_and]
  rfl
set_option maxHeartbeats 8000000 in
theorem impl_blobOf.blobOf (q:Int) (A1:Option Addr) (c1:Nat) (l1:List S56) (A2:Option Addr) (c2:Nat) (l2:List S58) (nx:Int) (d:ByteArray) (w:World) (hr1:Kd.C k56 w A1 l1.length l1) (hc1:l1.length≤c1) (hm:l1.length≤2305843009213693952)
  (r1:Int) (r2:Bool) (h1:(impl_blobOf.bs l1 d l1.length 0 l1.length:Int)=r1) (h2:(decide (impl_blobOf.bs l1 d l1.length 0 l1.length < l1.length) && decide (Lib.compareBytes (rd_T56 l1 (impl_blobOf.bs l1 d l1.length 0 l1.length:Int)).f0.data.toList d.data.toList=0))=r2) :
  Calls Try.prog 36 #[.agg #[.int .i64 q,.slice A1 l1.length c1,.slice A2 l2.length c2,.int .i64 nx],.string d] w fun e w'=>e = .returned (.tuple #[.int .i64 r1,.bool r2])∧Below w.heap.size w w':=by
 have hb2:=(Below.refl w.heap.size w).alloc (Nat.le_refl _) (.cells #[.int .i64 q,.slice A1 l1.length c1,.slice A2 l2.length c2,.int .i64 nx] 27);have hS:=impl_blobOf.search l1 A1 c1 d (w.alloc (.cells #[.int .i64 q,.slice A1 l1.length c1,.slice A2 l2.length c2,.int .i64 nx] 27)) (Kd.C_alloc hr1 _) hc1 hm;rw [h2,h1] at hS;have HS:=aM hS;clear hS h1 h2 hr1 hc1 hm;go_enter Try.func36,Try.ntmps36
 go_wp2_with (first|((with_reducible refine gC 58 rfl ?_);refine gL 9 Try.func58 #[.slice A1 l1.length c1,.string d,.func (.func 59) #[] #[]] ?_;refine HS.out.mono ?_;rintro e w7 ⟨rfl,hb⟩;refine ⟨_,rfl,?_⟩;have HB:=aM (below_step hb2 hb);clear hb))
 refine bodyPost_ret (results_tmp2 rfl _ _ _) rfl ⟨rfl,HB.out⟩
def impl_blobOf.f (a0_0:Int) (l0_1:List S56) (l0_2:List S58) (a0_3:Int) (a1:ByteArray):Option (Int×Bool):=if l0_1.length≤2305843009213693952 then some ((impl_blobOf.bs l0_1 a1 l0_1.length 0 l0_1.length:Int),decide (impl_blobOf.bs l0_1 a1 l0_1.length 0 l0_1.length < l0_1.length) && decide (Lib.compareBytes (rd_T56 l0_1 (impl_blobOf.bs l0_1 a1 l0_1.length 0 l0_1.length:Int)).f0.data.toList a1.data.toList=0)) else none
theorem impl_blobOf.calls (a0_0:Int) (A0_1:Option Addr) (c0_1:Nat) (l0_1:List S56) (A0_2:Option Addr) (c0_2:Nat) (l0_2:List S58) (a0_3:Int) (a1:ByteArray) (r1:Int) (r2:Bool) (w:World) (hr0_1:Kd.C k56 w A0_1 l0_1.length l0_1) (hc0_1:l0_1.length≤c0_1) (hr0_2:Kd.C k58 w A0_2 l0_2.length l0_2) (hc0_2:l0_2.length≤c0_2) (h:impl_blobOf.f a0_0 l0_1 l0_2 a0_3 a1=some (r1,r2)) :
  Calls Try.prog 36 #[.agg #[.int .i64 a0_0,.slice A0_1 l0_1.length c0_1,.slice A0_2 l0_2.length c0_2,.int .i64 a0_3],.string a1] w fun e w'=>e = .returned (.tuple #[.int .i64 r1,.bool r2])∧Below w.heap.size w w':=by
 unfold impl_blobOf.f at h
 split at h
 ·
  rename_i hg
  injection h with h
  injection h with h1 h2
  exact impl_blobOf.blobOf a0_0 A0_1 c0_1 l0_1 A0_2 c0_2 l0_2 a0_3 a1 w hr0_1 hc0_1 hg r1 r2 h1 h2
 exact absurd h (by simp)

def impl_copyStore.f (a0_0:Int) (l0_1:List (S56)) (l0_2:List (S58)) (a0_3:Int):Option (Int×(List (S56))×(List (S58))×Int):=(some (([]:List (S56)):List (S56))).bind fun y551=>(if y551.length + l0_1.length < 4398046511104 then ((some (([]:List (S58)):List (S58))).bind fun y557=>(if y557.length + l0_2.length < 5864062014805 then (some (a0_0,(y551 ++ l0_1),(y557 ++ l0_2),a0_3)) else (none))) else (none))
set_option maxHeartbeats 8000000 in
set_option maxRecDepth 100000 in
theorem impl_copyStore.calls (a0_0:Int) (A0_1:Option Addr) (c0_1:Nat) (l0_1:List (S56)) (A0_2:Option Addr) (c0_2:Nat) (l0_2:List (S58)) (a0_3:Int) (r1:Int) (r2:List (S56)) (r3:List (S58)) (r4:Int) (w:World) (hr0_1:Kd.C k56 w A0_1 l0_1.length l0_1) (hc0_1:l0_1.length≤c0_1) (hr0_2:Kd.C k58 w A0_2 l0_2.length l0_2) (hc0_2:l0_2.length≤c0_2) (h:impl_copyStore.f a0_0 l0_1 l0_2 a0_3=some (r1,r2,r3,r4)) :
  Calls Try.prog 37 #[.agg #[.int .i64 a0_0,.slice A0_1 l0_1.length c0_1,.slice A0_2 l0_2.length c0_2,.int .i64 a0_3]] w fun e w'=>∃ v1_ v2_:Value,e = .returned (.agg #[.int .i64 r1,v1_,v2_,.int .i64 r4])∧Kd.R k56 56 w' w.heap.size (fun _=>True) v1_ r2∧Kd.R k58 58 w' w.heap.size (fun _=>True) v2_ r3∧Below w.heap.size w w':=by
 have hu27:=Try.underlying27;have HR0_1:=aM hr0_1;have HC0_1:=aM hc0_1;clear hr0_1 hc0_1;have HR0_2:=aM hr0_2;have HC0_2:=aM hc0_2;clear hr0_2 hc0_2;have HB:=aM (Below.refl w.heap.size w);unfold impl_copyStore.f at h;have H:=h;clear h;obtain ⟨y551,hy551⟩:∃ y_:List (S56),y_=(([]:List (S56))):=⟨_,rfl⟩;have hy_:=hy551;replace H:(if y551.length + l0_1.length < 4398046511104 then ((some (([]:List (S58)):List (S58))).bind fun y557=>(if y557.length + l0_2.length < 5864062014805 then (some (a0_0,(y551 ++ l0_1),(y557 ++ l0_2),a0_3)) else (none))) else (none))=some (r1,r2,r3,r4):=hyE;clear hy_;have Ny551:=aM hy551;clear hy551;by_cases c2:y551.length + l0_1.length < 4398046511104
 ·
  rw [if_pos c2] at H;have LMc2:=aM c2;clear c2;obtain ⟨y554,hy554⟩:∃ y_:List (S56),y_=(y551 ++ l0_1):=⟨_,rfl⟩;have hy_:=hy554;replace H:((some (([]:List (S58)):List (S58))).bind fun y557=>(if y557.length + l0_2.length < 5864062014805 then (some (a0_0,y554,(y557 ++ l0_2),a0_3)) else (none)))=some (r1,r2,r3,r4):=hyE;clear hy_;have Ny554:=aM hy554;clear hy554;obtain ⟨y557,hy557⟩:∃ y_:List (S58),y_=(([]:List (S58))):=⟨_,rfl⟩;have hy_:=hy557;replace H:(if y557.length + l0_2.length < 5864062014805 then (some (a0_0,y554,(y557 ++ l0_2),a0_3)) else (none))=some (r1,r2,r3,r4):=hyE;clear hy_;have Ny557:=aM hy557;clear hy557;by_cases c3:y557.length + l0_2.length < 5864062014805
  ·
   rw [if_pos c3] at H;have LMc3:=aM c3;clear c3;obtain ⟨y560,hy560⟩:∃ y_:List (S58),y_=(y557 ++ l0_2):=⟨_,rfl⟩;have hy_:=hy560;replace H:(some (a0_0,y554,y560,a0_3))=some (r1,r2,r3,r4):=hyE;clear hy_;have Ny560:=aM hy560;clear hy560;simp only [Option.some.injEq,Prod.mk.injEq] at H;obtain ⟨rfl,rfl,rfl,rfl⟩:=H;go_enter Try.func37,Try.ntmps37
   go_wp2_with (first|((with_reducible refine gD 1 rfl ?_);refine bE 1 #[.int .i64 a0_0,.slice A0_1 l0_1.length c0_1,.slice A0_2 l0_2.length c0_2,.int .i64 a0_3] 27 ?_;intro gb549 hg w4 hbox hb;have BK549:=aM hbox;have GW549:=aM (zq323:w.heap.size≤gb549);have GE549:=GW549;replace HB:=sB zq3 hb;clear hb hbox hg)|((with_reducible refine gD 2 rfl ?_);refine bE 2 #[.int .i64 0,.slice none 0 0,.slice none 0 0,.int .i64 0] 27 ?_;intro gb550 hg w5 hbox hb;have BK550:=aM hbox;have GW550:=aM (by rw [hg];exact (below_size zq129):w.heap.size≤gb550);have GE550:=GW550;replace HB:=sB zq129 hb;have NB549_550:=aM (by rw [hg];exact Nat.ne_of_lt (blk_lt (g:=gb549) (o:=.cells #[.int .i64 a0_0,.slice A0_1 l0_1.length c0_1,.slice A0_2 l0_2.length c0_2,.int .i64 a0_3] 27 (0,0)) zq128):gb549≠gb550);have NB550_549:=aM (by rw [hg];exact Nat.ne_of_gt (blk_lt (g:=gb549) (o:=.cells #[.int .i64 a0_0,.slice A0_1 l0_1.length c0_1,.slice A0_2 l0_2.length c0_2,.int .i64 a0_3] 27 (0,0)) zq128):gb550≠gb549);replace BK549:=bG BK549 hb;clear hb hbox hg)|((with_reducible refine gD 3 rfl ?_);refine Kd.R_lit k56 _ 56 ?hg (N:=3) ?hd (xs:=([]:List (S56))) (inner:=[]) (ok:=fun _=>True) (okp:=fun _=>True) ?hr ?hp (fun _ hk=>hk) trivial (Below.refl _ _) (Nat.le_refl _) (by simp) ?_;(case hd=>rfl);(case hg=>rfl);(case hr=>exact zq2);(case hp=>exact zq106);intro v552 w6 ho7 hb hg_ hnew_;clear hg_ hnew_;(first | rw [← Ny551.out] at ho7|(simp only [Int.reduceToNat] at ho7;rw [← Ny551.out] at ho7));have HO553:=aM (Kd.R_lower ho7 (below_size zq130));replace BK549:=bG BK549 hb;replace BK550:=bG BK550 hb;replace HB:=sB zq130 hb;clear hb ho7;have hnb8:=NB549_550.out;have hnc8:=NB550_549.out;have hcz9:=cells4_ (w:=w6) BK549)|((with_reducible refine gate_builtin (b:=.append) (xs:=#[.tmp 3,.tmp 5]) rfl ?_);at_builtin;refine Kd.R_append_rows k56 (w0:=w) w.heap.size rfl (.tmp 3) (.tmp 5) 24 56 (.agg #[(.string ⟨#[]⟩),(.string ⟨#[]⟩)]) 32 rfl Try.underlying24 info56 rfl (by decide) (by omega) v552 y551 l0_1 _ _ _ (fun _=>True) (fun _=>False) rfl rfl ?aO ?aR (fun _ _ h=>h) (fun _ h=>h.elim) ?aF ?aB ?aS ?aL ?_;(case aR=>exact zq7);(case aB=>exact zq130);(case aF=>exact zq80);(case aO=>exact (by refine dR ?_;exact HO553.out));(case aS=>exact (below_size zq130));(case aL=>have:=LMc2.out;omega);intro v555 w10 ho hb hg hat;rw [← Ny554.out] at ho;have n0_:=aM (blk_grown (g:=gb549) (o:=.cells #[.int .i64 a0_0,.slice A0_1 l0_1.length c0_1,.slice A0_2 l0_2.length c0_2,.int .i64 a0_3] 27 (0,0)) zq128 hg (Kd.R_ne HO553.out BK549.out (by decide)));have n1_:=aM (blk_grown (g:=gb550) (o:=.cells #[.int .i64 0,.slice none 0 0,.slice none 0 0,.int .i64 0] 27 (0,0)) zq131 hg (Kd.R_ne HO553.out BK550.out (by decide)));have n2_:=aM (hb);have n3_:=aM (ho);clear BK549;clear BK550;clear HB;clear HO553;have BK549:=n0_;have BK550:=n1_;have HB:=n2_;have HO556:=n3_;clear n0_ n1_ n2_ n3_;clear ho hb hg hat;obtain ⟨Ao11,co11,eo11⟩:=Kd.R_slice HO556.out;subst eo11;have hcz12:=cells4_ (w:=w10) BK549)|((with_reducible refine gD 8 rfl ?_);refine Kd.R_lit k58 _ 58 ?hg (N:=8) ?hd (xs:=([]:List (S58))) (inner:=[]) (ok:=fun _=>True) (okp:=fun _=>True) ?hr ?hp (fun _ hk=>hk) trivial (Below.refl _ _) (Nat.le_refl _) (by simp) ?_;(case hd=>rfl);(case hg=>rfl);(case hr=>exact zq2);(case hp=>exact zq106);intro v558 w13 ho14 hb hg_ hnew_;clear hg_ hnew_;(first | rw [← Ny557.out] at ho14|(simp only [Int.reduceToNat] at ho14;rw [← Ny557.out] at ho14));replace HO556:=rB (by refine dR ?_;exact (Kd.R_mono (Kd.R_far (p:=⟨gb549,1,none⟩) (Kd.R_types HO556.out BK549.out (by decide)) (fun _ hk=>hk.2) (.slice Ao11 y554.length co11)) (fun _ h_=>h_.1))) hb;have HO559:=aM (Kd.R_lower ho14 (below_size zq130));replace BK549:=bB (g:=gb549) (o:=.cells #[.int .i64 a0_0,.slice Ao11 y554.length co11,.slice A0_2 l0_2.length c0_2,.int .i64 a0_3] 27 (0,0)) (by refine dW ?_;refine blk_put (cs:=#[.int .i64 a0_0,.slice A0_1 l0_1.length c0_1,.slice A0_2 l0_2.length c0_2,.int .i64 a0_3]) ?_ 1 _ rfl;refine dW ?_;exact BK549.out) hb;replace BK550:=bF BK550 (by refine dW ?_;refine blk_far ?_ NB550_549.out _;refine dW ?_;exact BK550.out) hb;replace HB:=sB zq130 hb;clear hb ho14;have hcz15:=cells4_ (w:=w13) BK549)|((with_reducible refine gate_builtin (b:=.append) (xs:=#[.tmp 8,.tmp 10]) rfl ?_);at_builtin;refine Kd.R_append_rows k58 (w0:=w) w.heap.size rfl (.tmp 8) (.tmp 10) 25 58 (.agg #[(.int .i64 0),(.string ⟨#[]⟩)]) 24 rfl Try.underlying25 info58 rfl (by decide) (by omega) v558 y557 l0_2 _ _ _ (fun _=>True) (fun _=>False) rfl rfl ?aO ?aR (fun _ _ h=>h) (fun _ h=>h.elim) ?aF ?aB ?aS ?aL ?_;(case aR=>exact zq9);(case aB=>exact zq130);(case aF=>exact zq80);(case aO=>exact zq132);(case aS=>exact (below_size zq130));(case aL=>have:=LMc3.out;omega);intro v561 w16 ho hb hg hat;rw [← Ny560.out] at ho;have n0_:=aM (blk_grown (g:=gb549) (o:=.cells #[.int .i64 a0_0,.slice Ao11 y554.length co11,.slice A0_2 l0_2.length c0_2,.int .i64 a0_3] 27 (0,0)) zq128 hg (Kd.R_ne HO559.out BK549.out (by decide)));have n1_:=aM (blk_grown (g:=gb550) (o:=.cells #[.int .i64 0,.slice none 0 0,.slice none 0 0,.int .i64 0] 27 (0,0)) zq131 hg (Kd.R_ne HO559.out BK550.out (by decide)));have n2_:=aM (Kd.R_over' (by refine dR ?_;exact HO556.out) (Kd.R_typed zq132) (by decide) hg);have n3_:=aM (hb);have n4_:=aM (ho);clear BK549;clear BK550;clear HO556;clear HB;clear HO559;have BK549:=n0_;have BK550:=n1_;have HO556:=n2_;have HB:=n3_;have HO562:=n4_;clear n0_ n1_ n2_ n3_ n4_;clear ho hb hg hat;obtain ⟨Ao17,co17,eo17⟩:=Kd.R_slice HO562.out;subst eo17;have hcz18:=cells4_ (w:=w16) BK549;have hcz19:=cells4_ (w:=w16) BK550))
   refine bodyPost_ret (results_cell_row rfl _ _ gb550 27 #[.int .i64 a0_0,.slice Ao11 y554.length co11,.slice Ao17 y560.length co17,.int .i64 a0_3] (0,0) _ rfl (by refine dW ?_;refine blk_put (cs:=#[.int .i64 a0_0,.slice Ao11 y554.length co11,.slice Ao17 y560.length co17,.int .i64 0]) ?_ 3 _ rfl;refine dW ?_;refine blk_put (cs:=#[.int .i64 a0_0,.slice Ao11 y554.length co11,.slice none 0 0,.int .i64 0]) ?_ 2 _ rfl;refine dW ?_;refine blk_put (cs:=#[.int .i64 a0_0,.slice none 0 0,.slice none 0 0,.int .i64 0]) ?_ 1 _ rfl;refine dW ?_;refine blk_put (cs:=#[.int .i64 0,.slice none 0 0,.slice none 0 0,.int .i64 0]) ?_ 0 _ rfl;refine dW ?_;refine blk_far ?_ NB550_549.out _;refine dW ?_;exact BK550.out) Try.underlying27 rfl (by kernel_rfl)) rfl ?_
   exact ⟨_,_,zq25,by refine dR ?_;exact Kd.R_mono (far4 gb550 (Kd.R_far (p:=⟨gb549,2,none⟩) (Kd.R_types (Kd.R_types HO556.out BK549.out (by decide)) BK550.out (by decide)) (fun _ hk=>hk.1.2) (.slice Ao17 y560.length co17)) (fun _ hk=>hk.2) (.int .i64 a0_0) (.slice Ao11 y554.length co11) (.slice Ao17 y560.length co17) (.int .i64 a0_3)) (fun _ hk=>trivial),by refine dR ?_;exact Kd.R_mono (far4 gb550 (Kd.R_far (p:=⟨gb549,2,none⟩) (Kd.R_types (Kd.R_types HO562.out BK549.out (by decide)) BK550.out (by decide)) (fun _ hk=>hk.1.2) (.slice Ao17 y560.length co17)) (fun _ hk=>hk.2) (.int .i64 a0_0) (.slice Ao11 y554.length co11) (.slice Ao17 y560.length co17) (.int .i64 a0_3)) (fun _ hk=>trivial),zq130⟩
  exact zq410
 rw [if_neg c2] at H;exact absurd H (by simp)

section
open Go.Proofs.Ytldpdaifajjaeaa.Ins
def impl_Blob_42.f (l0:List (S56)) (a1:Int) (l2:List (S56)):Option (List (S56)):=if 0≤a1∧a1≤(l0.length:Int)∧0 < l2.length∧(l0.length + l2.length) * 32≤140737488355328 then some (l0.take a1.toNat ++ l2 ++ l0.drop a1.toNat) else none
theorem impl_Blob_42.flat:Flat k56:=fun h w' b' o'=>by rw [k56_openM h];exact k56_mkM _ _ _ _
def impl_Blob_42.T11:Bool×List (List Nat×List Nat):=(true,[([],[]),([],[]),([],[]),([1,2],[1,2]),([0,3],[0,3]),([],[]),([],[]),([5,6],[5,6]),([4,7],[4,7])])
def impl_Blob_42.B11:List Nat:=[0,0,0,6,15,0,0,96,255]
theorem impl_Blob_42.tab11:rtab .any (opsOf Try.f42 11)=impl_Blob_42.T11:=by kernel_rfl
theorem impl_Blob_42.bits11:waitsOk impl_Blob_42.T11.2 impl_Blob_42.B11=true:=by kernel_rfl
def impl_Blob_42.T15:Bool×List (List Nat×List Nat):=(true,[([],[]),([],[]),([],[]),([1,2],[1,2]),([0,3],[0,3]),([],[]),([],[]),([5,6],[5,6]),([4,7],[4,7])])
def impl_Blob_42.B15:List Nat:=[0,0,0,6,15,0,0,96,255]
theorem impl_Blob_42.tab15:rtab .any (opsOf Try.f42 15)=impl_Blob_42.T15:=by kernel_rfl
theorem impl_Blob_42.bits15:waitsOk impl_Blob_42.T15.2 impl_Blob_42.B15=true:=by kernel_rfl
set_option maxHeartbeats 8000000 in
theorem impl_Blob_42.calls (P0_:Nat→Prop) (u9000_:Value) (l0:List (S56)) (a1:Int) (P2_:Nat→Prop) (u9001_:Value) (l2:List (S56)) (r:List (S56)) (w0 w:World) (hB:Below w0.heap.size w0 w) (ho0:Kd.R k56 56 w w0.heap.size P0_ u9000_ l0) (hp0_2:∀ k_,P0_ k_→¬ P2_ k_) (ho2:Kd.R k56 56 w w0.heap.size P2_ u9001_ l2) (hp2_0:∀ k_,P2_ k_→¬ P0_ k_) (h:impl_Blob_42.f l0 a1 l2=some r) :
  Calls Try.prog 42 #[u9000_,.int .i64 a1,u9001_] w fun e w'=>∃ v0_:Value,e = .returned v0_∧Kd.R k56 56 w' w0.heap.size (fun k_=>((P0_ k_∨P2_ k_)∨w.heap.size≤k_)) v0_ r∧Below w0.heap.size w0 w'∧Kept w w' (fun k_=>P0_ k_∨P2_ k_):=by
 unfold impl_Blob_42.f at h
 split at h
 case isFalse=>exact absurd h (by simp)
 rename_i hg
 injection h with h
 subst h;obtain ⟨hg1,hg2,hg3,hg4⟩:=hg;obtain ⟨i,rfl⟩:∃ i:Nat,a1=i:=⟨a1.toNat,by omega⟩;rw [Int.toNat_natCast];have hB0:=hB.size;obtain ⟨vb,vc,vcur,rfl,hvb,hPv,hvh,hvcap,hvm,hvs,hvr⟩:=R_open k56 (by decide) ho2 hg3;have hin:i≤l0.length:=by omega
 have s1:((l2.length:Int) == 0)=false:=by simp only [beq_eq_false_iff_ne];omega
 by_cases hi:i=l0.length
 ·
  subst hi;obtain ⟨A,c,rfl⟩:=Kd.R_slice ho0;have hC:=(Kd.R_reads' ho2).2.2;have hnc:=(Kd.R_reads' ho0).2.1;have s2:((l0.length:Int) == (l0.length:Int))=true:=by simp
  have s3:=eq_true (show (l0.length:Int)≤(l0.length:Int) by omega);have s4:=eq_true (show (l0.length:Int)≤(c:Int) by omega);go_enter Try.func42,Try.ntmps42
  go_wp2_with (at_builtin;refine Kd.R_append_rows k56 (w0:=w0) w0.heap.size rfl (.tmp 23) (.tmp 24) 24 56 (.agg #[(.string ⟨#[]⟩),(.string ⟨#[]⟩)]) 32 rfl Try.underlying24 info56 rfl (by decide) (by omega) _ l0 l2 _ _ _ (fun k_=>(P0_ k_∨P2_ k_)∨w.heap.size≤k_) (fun _=>False) rfl rfl (Kd.R_mono ho0 (fun k hk=>.inl (.inl hk))) hC (fun _ _ h=>h) (fun _ h=>h.elim) (fun k hk=>.inr hk) hB hB0 hg4 ?_;intro v1 w1 ho hb hg hat)
  all_goals
   go_ret;refine ⟨_,rfl,?_,hb,hg.size,fun k hk hn=>hg.block k hk (fun e=>hn (.inl (ho0.1 k e.symm)))⟩;exact ho
 obtain ⟨g,c,cur,rfl,hgb,hPg,hgh,hcap,hcm,hcs,hcr⟩:=R_open k56 (by decide) ho0 (by omega);have hne:vb≠g:=fun e=>hp0_2 g hPg (e ▸ hPv);have hil:i < l0.length:=Nat.lt_of_le_of_ne hin hi;obtain ⟨_,s2,s3,s4,s5,s6,s7,f3,f1⟩:=ar1 i l0.length l2.length c k56.sz 32 hin hi hg3 hg4 (by decide) hcap (by decide);by_cases hroom:l0.length + l2.length≤c
 ·
  obtain ⟨s8,s9,s10,s11,s12,s13,s14,s15,s16,s17,_⟩:=ar2 i l0.length l2.length c hin hi hg3 hroom
  have hov:∀ lb cb,(callFunc 64 #[.slice (some ⟨vb,0,none⟩) l2.length vc,.slice (some ⟨g,(i + l2.length) * 2,none⟩) lb cb]).run Try.prog w = .ok (.value (.bool false)) w:=fun lb cb=>by
   rw [run_callFunc_extern Try.func64 (by kernel_rfl) (by kernel_rfl) (by kernel_rfl) (e:=Extern.SlicesOverlaps.overlaps #[24,24] #[4]) (by kernel_rfl),
    Lib.run_overlaps_apart w 24 4 56 Try.underlying24 2 (info_sizeOf (info_size info56)) ⟨vb,0,none⟩ ⟨g,(i + l2.length) * 2,none⟩ l2.length vc lb cb hne 56 56 vcur.size cur.size (by simp [World.shape?,hvh]) (by simp [World.shape?,hgh]) (by rw [hcs];exact f3) (by simp [World.frozen?,hvh]) (by simp [World.frozen?,hvh])]
   rfl
  obtain ⟨n1,n2,hc1,hc2,hh2,hs2,hr2⟩:=room (P:=Try.prog) k56 impl_Blob_42.flat (by decide) Try.underlying24 (info_size info56) hgh hvh hne hcs hvs hroom hvcap hil hg3 hcr hvr;have HOV:=aM hov;have HC1:=aM hc1;have HC2:Aside0 (∀ ty dc,(Builtin.copy_ #[24,24] ty #[.slice (some ⟨g,i * 2,none⟩) (l0.length + l2.length - i) dc,.slice (some ⟨vb,0,none⟩) l2.length vc]).run Try.prog (w.drew.setRow g n1) = .ok (goInt l2.length) ((w.drew.setRow g n1).setRow g n2)):=⟨hc2⟩;have H1:=aM (And.intro hh2 (And.intro hs2 hr2));have H2:=aM (And.intro hgb (And.intro hPg (And.intro hcap (And.intro hcm (And.intro hroom (And.intro hin hi))))));have H3:=aM (And.intro hB hgh);clear hov hvr hcr hgh hvh hcs hvs hgb hPg hcap hcm hroom hin hi hB hne hvb hPv hvcap hvm hg4 f3 f1 hil hB0 ho0 ho2 hp0_2 hp2_0 hg3 hc1 hc2 hh2 hs2 hr2;go_enter Try.func42,Try.ntmps42
  go_upto_region 15 with (simp only [HOV.out])
  refine start_ (n:=9) (S:=fun w'=>True) (ds:=[]) (bA 9 0) (by kernel_rfl) rfl rfl trivial (fun hHeld=>?_);refine with_tabW impl_Blob_42.tab15 impl_Blob_42.bits15 (fun HT_ HW_=>?_);refine pV 0 69 9 1 ?_;refine pV 1 70 9 3 ?_;refine pV 2 71 9 7 ?_;refine pV 3 72 9 15 ?_;refine pV 4 73 9 31 ?_;refine pV 5 74 9 63 ?_;refine pV 6 75 9 127 ?_;refine pV 7 76 9 255 ?_;refine oE 8 77 9 511 rfl (fun K hK=>?_);refine step_copy_runI rfl _ _ 24 24 rfl _ _ rfl rfl (HC1.out _ _ _) ?_;refine hK.out _ _ trivial (fun hHeld=>?_);clear hK K;refine norm_ (a':=?_) ?_ ?_;rotate_left
  ·
   show Act.put _ (some 77) _=_
   simp only [Act.put,List.setIfInBounds_toArray,List.set_cons_zero,List.set_cons_succ,i64_w,i32_w]
   rfl
  refine dE ?_
  go_wp2_with (simp only [HC2.out])
  go_ret;obtain ⟨hh2,hs2,hr2⟩:=H1.out;obtain ⟨hgb,hPg,hcap,hcm,hroom,hin,hi⟩:=H2.out;obtain ⟨hB,hgh⟩:=H3.out;have hW:∀ k,k≠g→((w.drew.setRow g n1).setRow g n2).heap[k]?=w.heap[k]?:=fun k hk=>(setRow_other _ _ _ _ hk).trans (setRow_other w.drew _ _ _ hk);have hsz:((w.drew.setRow g n1).setRow g n2).heap.size=w.heap.size:=by rw [size_setRow,size_setRow];rfl
  refine ⟨.slice (some ⟨g,0,none⟩) (l0.length + l2.length) c,rfl,R_mk k56 impl_Blob_42.flat (l0.length + l2.length) hgb (.inl (.inl hPg)) hh2 (ins_len l0 l2 i hin) hroom hcm hs2 rfl hr2,⟨hB.os,hB.tape,hB.output,by rw [hsz];exact hB.size,fun k hk=>(hW k (Nat.ne_of_lt (Nat.lt_of_lt_of_le hk hgb))).trans (hB.block k hk)⟩,Nat.le_of_eq hsz.symm,fun k hk hn=>hW k (fun e=>hn (.inl (e ▸ hPg)))⟩
 obtain ⟨G,r0,r1,r2,hap,hc1,hc2,hh2,hs2,hGn,hGm,hr2⟩:=noroom (P:=Try.prog) k56 impl_Blob_42.flat (by decide) Try.underlying24 Try.underlying3 info56 rfl (by decide) hgh hvh hcs hvs hcap (Nat.lt_of_not_le hroom) hvcap hil hg3 hg4 hcr hvr;obtain ⟨s8,s9,s10,s11,s12,s13,s14,s15,s16,s18,s17,_⟩:=ar3 i l0.length l2.length c G hin hi hg3 f1 hroom hcap hGn;rw [s10] at hap;clear s10;have HAP:=aM hap;have F1:=aM (And.intro f1 hil);have HC1:Aside0 (∀ ty dc,(Builtin.copy_ #[24,24] ty #[.slice (some ⟨w.heap.size,i * 2,none⟩) (l0.length + l2.length - i) dc,.slice (some ⟨vb,0,none⟩) l2.length vc]).run Try.prog ((w.alloc (.cells r0 56)).drew) = .ok (goInt l2.length) ((w.alloc (.cells r0 56)).drew.setRow w.heap.size r1)):=⟨hc1⟩;have HC2:=aM hc2;have H1:=aM (And.intro hh2 (And.intro hs2 hr2));have H2:=aM (And.intro hGn (And.intro hGm hin));have H3:=aM (And.intro hB hB0);clear hvr hcr hgh hvh hcs hvs hgb hPg hcap hcm hroom hin hi hB hne hvb hPv hvcap hvm hg4 f3 f1 hil hB0 ho0 ho2 hp0_2 hp2_0 hg3 hap hc1 hc2 hh2 hs2 hr2 hGn hGm;go_enter Try.func42,Try.ntmps42;obtain ⟨f1,hil⟩:=F1.out
 go_upto_region 11 with (first|(at_builtin;refine Lib.wpList_append_run _ rfl _ _ _ _ rfl _ _ rfl rfl _ _ (HAP.out _) ?_)|simp only [HC1.out])
 refine start_ (n:=9) (S:=fun w'=>True) (ds:=[]) (bA 9 0) (by kernel_rfl) rfl rfl trivial (fun hHeld=>?_);refine with_tabW impl_Blob_42.tab11 impl_Blob_42.bits11 (fun HT_ HW_=>?_);refine pV 0 46 9 1 ?_;refine pV 1 47 9 3 ?_;refine pV 2 48 9 7 ?_;refine pV 3 49 9 15 ?_;refine pV 4 50 9 31 ?_;refine pV 5 51 9 63 ?_;refine pV 6 52 9 127 ?_;refine pV 7 53 9 255 ?_;refine oE 8 54 9 511 rfl (fun K hK=>?_);refine step_copy_runI rfl _ _ 24 24 rfl _ _ rfl rfl (HC2.out _ _ _) ?_;refine hK.out _ _ trivial (fun hHeld=>?_);clear hK K;refine norm_ (a':=?_) ?_ ?_;rotate_left
 ·
  show Act.put _ (some 54) _=_
  simp only [Act.put,List.setIfInBounds_toArray,List.set_cons_zero,List.set_cons_succ,i64_w,i32_w]
  rfl
 refine dE ?_;go_wp2;go_ret;obtain ⟨hh2,hs2,hr2⟩:=H1.out;obtain ⟨hGn,hGm,hin⟩:=H2.out;obtain ⟨hB,hB0⟩:=H3.out;have hN0:∀ k,k < w.heap.size→(((w.alloc (.cells r0 56)).drew.setRow w.heap.size r1).drew.setRow w.heap.size r2).heap[k]?=w.heap[k]?:=fun k hk=>(setRow_other (((w.alloc (.cells r0 56)).drew.setRow w.heap.size r1).drew) _ _ _ (Nat.ne_of_lt hk)).trans ((setRow_other ((w.alloc (.cells r0 56)).drew) _ _ _ (Nat.ne_of_lt hk)).trans (heap_alloc_old w _ hk))
 have hsz:w.heap.size≤(((w.alloc (.cells r0 56)).drew.setRow w.heap.size r1).drew.setRow w.heap.size r2).heap.size:=by
  have e1:(((w.alloc (.cells r0 56)).drew.setRow w.heap.size r1).drew.setRow w.heap.size r2).heap.size=(w.alloc (.cells r0 56)).heap.size:=by rw [size_setRow];exact size_setRow _ _ _
  rw [e1];exact Nat.le_of_lt (by show w.heap.size < (w.heap.push _).size;rw [Array.size_push];exact Nat.lt_succ_self _)
 exact ⟨.slice (some ⟨w.heap.size,0,none⟩) (l0.length + l2.length) G,rfl,R_mk k56 impl_Blob_42.flat (l0.length + l2.length) hB0 (.inr (Nat.le_refl _)) hh2 (ins_len l0 l2 i hin) hGn hGm hs2 rfl hr2,⟨hB.os,hB.tape,hB.output,Nat.le_trans hB.size hsz,fun k hk=>(hN0 k (Nat.lt_of_lt_of_le hk hB0)).trans (hB.block k hk)⟩,hsz,fun k hk _=>hN0 k hk⟩
end

end Go.Proofs.Ytldpdaifajjaeaa.QFnKept
