/- Written by wip/myprint.py of this repo (the kit's print, with additions of this session). -/
import Derived.Test.YtldpdaifajjaeaaQFnChunkedx1
import Derived.Test.YtldpdaifajjaeaaQFnChunkedx2
set_option maxRecDepth 100000
namespace Go.Proofs.Ytldpdaifajjaeaa.QFnChunked
open Go.RowKit Go.Proofs.YtldpdaifajjaeaaW.PrintWords Go.Proofs.YtldpdaifajjaeaaW.PrintLast Go.Proofs.YtldpdaifajjaeaaW.PrintMore
attribute [local go_sem] max2_int min2_int max_two min_two max_three min_three max_four min_four
set_option linter.unusedVariables false
set_option linter.unusedSimpArgs false
attribute [local go_sem high] eqA56 eqA58
mutual
def laws_sameStore.j0:Nat→Bool→Int→List (S56)→List (S58)→Int→Int→List (S56)→List (S58)→Int→Option (Bool)
 | 0,_,_,_,_,_,_,_,_,_=>none
 | k + 1,x36,x507000,x507001,x507002,x507003,x508000,x508001,x508002,x508003=>if x36=true then (some false) else (laws_sameStore.l0 k 0 x507000 x507001 x507002 x507003 x508000 x508001 x508002 x508003)
def laws_sameStore.l0:Nat→Int→Int→List (S56)→List (S58)→Int→Int→List (S56)→List (S58)→Int→Option (Bool)
 | 0,_,_,_,_,_,_,_,_,_=>none
 | k + 1,x5,x507000,x507001,x507002,x507003,x508000,x508001,x508002,x508003=>if x5 < (x507001.length:Int) then (if 0≤x5 then (if x5 < (x508001.length:Int) then (if (!((((rd_T56 x507001 x5).f0).toList) == (((rd_T56 x508001 x5).f0).toList)) || (!((((rd_T56 x507001 x5).f1).toList) == (((rd_T56 x508001 x5).f1).toList))))=true then (some false) else (laws_sameStore.l0 k (wrap64 (x5 + 1)) x507000 x507001 x507002 x507003 x508000 x508001 x508002 x508003)) else (none)) else (none)) else (laws_sameStore.l1 k 0 x507000 x507001 x507002 x507003 x508000 x508001 x508002 x508003)
def laws_sameStore.l1:Nat→Int→Int→List (S56)→List (S58)→Int→Int→List (S56)→List (S58)→Int→Option (Bool)
 | 0,_,_,_,_,_,_,_,_,_=>none
 | k + 1,x6,x507000,x507001,x507002,x507003,x508000,x508001,x508002,x508003=>if x6 < (x507002.length:Int) then (if 0≤x6 then (if x6 < (x508002.length:Int) then (if (!(((rd_T58 x507002 x6).f0) == ((rd_T58 x508002 x6).f0)) || (!((((rd_T58 x507002 x6).f1).toList) == (((rd_T58 x508002 x6).f1).toList))))=true then (some false) else (laws_sameStore.l1 k (wrap64 (x6 + 1)) x507000 x507001 x507002 x507003 x508000 x508001 x508002 x508003)) else (none)) else (none)) else (some true)
end
def laws_sameStore.f (k:Nat) (a0_0:Int) (l0_1:List (S56)) (l0_2:List (S58)) (a0_3:Int) (a1_0:Int) (l1_1:List (S56)) (l1_2:List (S58)) (a1_3:Int):Option (Bool):=if a0_0=a1_0 then (if a0_3=a1_3 then (if (l0_1.length:Int)=(l1_1.length:Int) then (laws_sameStore.j0 k ((l0_2.length:Int) != (l1_2.length:Int)) a0_0 l0_1 l0_2 a0_3 a1_0 l1_1 l1_2 a1_3) else (laws_sameStore.j0 k true a0_0 l0_1 l0_2 a0_3 a1_0 l1_1 l1_2 a1_3)) else (laws_sameStore.j0 k true a0_0 l0_1 l0_2 a0_3 a1_0 l1_1 l1_2 a1_3)) else (laws_sameStore.j0 k true a0_0 l0_1 l0_2 a0_3 a1_0 l1_1 l1_2 a1_3)
theorem laws_sameStore.mono_l:∀ k,(∀ y0 y1 y2 y3 y4 y5 y6 y7 y8,LeO (laws_sameStore.j0 k y0 y1 y2 y3 y4 y5 y6 y7 y8) (laws_sameStore.j0 (k + 1) y0 y1 y2 y3 y4 y5 y6 y7 y8))∧(∀ y0 y1 y2 y3 y4 y5 y6 y7 y8,LeO (laws_sameStore.l0 k y0 y1 y2 y3 y4 y5 y6 y7 y8) (laws_sameStore.l0 (k + 1) y0 y1 y2 y3 y4 y5 y6 y7 y8))∧(∀ y0 y1 y2 y3 y4 y5 y6 y7 y8,LeO (laws_sameStore.l1 k y0 y1 y2 y3 y4 y5 y6 y7 y8) (laws_sameStore.l1 (k + 1) y0 y1 y2 y3 y4 y5 y6 y7 y8))
 | 0=>⟨fun _ _ _ _ _ _ _ _ _ r h=>by simp [laws_sameStore.j0] at h,fun _ _ _ _ _ _ _ _ _ r h=>by simp [laws_sameStore.l0] at h,fun _ _ _ _ _ _ _ _ _ r h=>by simp [laws_sameStore.l1] at h⟩
 | k + 1=>by
  obtain ⟨ih0,ih1,ih2⟩:=laws_sameStore.mono_l k;refine ⟨?_,?_,?_⟩ <;> (intros;first | unfold laws_sameStore.j0 | unfold laws_sameStore.l0 | unfold laws_sameStore.l1)
  all_goals with_reducible repeat' first | apply ih0 | apply ih1 | apply ih2 | exact LeO.refl _ | exact LeO.none _ | refine LeO.ite ?_ ?_ | refine LeO.bind ?_ (fun _=>?_)
theorem laws_sameStore.mono:∀ a0 a1 a2 a3 a4 a5 a6 a7 k,LeO (laws_sameStore.f k a0 a1 a2 a3 a4 a5 a6 a7) (laws_sameStore.f (k + 1) a0 a1 a2 a3 a4 a5 a6 a7):=by
 intro a0 a1 a2 a3 a4 a5 a6 a7 k;obtain ⟨ih0,ih1,ih2⟩:=laws_sameStore.mono_l k;unfold laws_sameStore.f
 with_reducible repeat' first | apply ih0 | apply ih1 | apply ih2 | exact LeO.refl _ | exact LeO.none _ | refine LeO.ite ?_ ?_ | refine LeO.bind ?_ (fun _=>?_)
set_option maxHeartbeats 8000000 in
set_option maxRecDepth 100000 in
theorem laws_sameStore.calls (k:Nat) (a0_0:Int) (A0_1:Option Addr) (c0_1:Nat) (l0_1:List (S56)) (A0_2:Option Addr) (c0_2:Nat) (l0_2:List (S58)) (a0_3:Int) (a1_0:Int) (A1_1:Option Addr) (c1_1:Nat) (l1_1:List (S56)) (A1_2:Option Addr) (c1_2:Nat) (l1_2:List (S58)) (a1_3:Int) (r:Bool) (w:World) (hr0_1:Kd.C k56 w A0_1 l0_1.length l0_1) (hc0_1:l0_1.length≤c0_1) (hr0_2:Kd.C k58 w A0_2 l0_2.length l0_2) (hc0_2:l0_2.length≤c0_2) (hr1_1:Kd.C k56 w A1_1 l1_1.length l1_1) (hc1_1:l1_1.length≤c1_1) (hr1_2:Kd.C k58 w A1_2 l1_2.length l1_2) (hc1_2:l1_2.length≤c1_2) (h:laws_sameStore.f k a0_0 l0_1 l0_2 a0_3 a1_0 l1_1 l1_2 a1_3=some r) :
  Calls Try.prog 9 #[.agg #[.int .i64 a0_0,.slice A0_1 l0_1.length c0_1,.slice A0_2 l0_2.length c0_2,.int .i64 a0_3],.agg #[.int .i64 a1_0,.slice A1_1 l1_1.length c1_1,.slice A1_2 l1_2.length c1_2,.int .i64 a1_3]] w fun e w'=>e = .returned (.bool r)∧Below w.heap.size w w':=by
 have hu27:=Try.underlying27;have hu56:=Try.underlying56;have hu58:=Try.underlying58;have HR0_1:=aM hr0_1;have HC0_1:=aM hc0_1;clear hr0_1 hc0_1;have HR0_2:=aM hr0_2;have HC0_2:=aM hc0_2;clear hr0_2 hc0_2;have HR1_1:=aM hr1_1;have HC1_1:=aM hc1_1;clear hr1_1 hc1_1;have HR1_2:=aM hr1_2;have HC1_2:=aM hc1_2;clear hr1_2 hc1_2;have HB:=aM (Below.refl w.heap.size w);unfold laws_sameStore.f at h;have H:=h;clear h;have HC3:=aM H;clear H;go_enter Try.func9,Try.ntmps9
 go_upto_region 1 with (first|((with_reducible refine gD 2 rfl ?_);(try (refine gate_guard (by rfl) ?_;dsimp only));refine box_event ?hg (N:=2) ?hd (cs:=#[.int .i64 a0_0,.slice A0_1 l0_1.length c0_1,.slice A0_2 l0_2.length c0_2,.int .i64 a0_3]) (t:=27) ?hr ?_;(case hd=>rfl);(case hg=>rfl);(case hr=>exact zq2);intro gb506 hg w4 hbox hb;have BK506:=aM hbox;have GW506:=aM (zq402:w.heap.size≤gb506);have GE506:=GW506;replace HB:=sB zq3 hb;clear hb hbox hg)|((with_reducible refine gD 3 rfl ?_);(try (refine gate_guard (by rfl) ?_;dsimp only));refine box_event ?hg (N:=3) ?hd (cs:=#[.int .i64 a1_0,.slice A1_1 l1_1.length c1_1,.slice A1_2 l1_2.length c1_2,.int .i64 a1_3]) (t:=27) ?hr ?_;(case hd=>rfl);(case hg=>rfl);(case hr=>exact zq2);intro gb507 hg w5 hbox hb;have BK507:=aM hbox;have GW507:=aM (zq425:w.heap.size≤gb507);have GE507:=GW507;replace HB:=sB zq93 hb;have NB506_507:=aM (zq426:gb506≠gb507);have NB507_506:=aM (zq427:gb507≠gb506);replace BK506:=bG BK506 hb;clear hb hbox hg))
 repeat (go_quiet (first|((with_reducible refine gD 2 rfl ?_);(try (refine gate_guard (by rfl) ?_;dsimp only));refine box_event ?hg (N:=2) ?hd (cs:=#[.int .i64 a0_0,.slice A0_1 l0_1.length c0_1,.slice A0_2 l0_2.length c0_2,.int .i64 a0_3]) (t:=27) ?hr ?_;(case hd=>rfl);(case hg=>rfl);(case hr=>exact zq2);intro gb506 hg w4 hbox hb;have BK506:=aM hbox;have GW506:=aM (zq402:w.heap.size≤gb506);have GE506:=GW506;replace HB:=sB zq3 hb;clear hb hbox hg)|((with_reducible refine gD 3 rfl ?_);(try (refine gate_guard (by rfl) ?_;dsimp only));refine box_event ?hg (N:=3) ?hd (cs:=#[.int .i64 a1_0,.slice A1_1 l1_1.length c1_1,.slice A1_2 l1_2.length c1_2,.int .i64 a1_3]) (t:=27) ?hr ?_;(case hd=>rfl);(case hg=>rfl);(case hr=>exact zq2);intro gb507 hg w5 hbox hb;have BK507:=aM hbox;have GW507:=aM (zq425:w.heap.size≤gb507);have GE507:=GW507;replace HB:=sB zq93 hb;have NB506_507:=aM (zq426:gb506≠gb507);have NB507_506:=aM (zq427:gb507≠gb506);replace BK506:=bG BK506 hb;clear hb hbox hg));go_upto_region 1 with (first|((with_reducible refine gD 2 rfl ?_);(try (refine gate_guard (by rfl) ?_;dsimp only));refine box_event ?hg (N:=2) ?hd (cs:=#[.int .i64 a0_0,.slice A0_1 l0_1.length c0_1,.slice A0_2 l0_2.length c0_2,.int .i64 a0_3]) (t:=27) ?hr ?_;(case hd=>rfl);(case hg=>rfl);(case hr=>exact zq2);intro gb506 hg w4 hbox hb;have BK506:=aM hbox;have GW506:=aM (zq402:w.heap.size≤gb506);have GE506:=GW506;replace HB:=sB zq3 hb;clear hb hbox hg)|((with_reducible refine gD 3 rfl ?_);(try (refine gate_guard (by rfl) ?_;dsimp only));refine box_event ?hg (N:=3) ?hd (cs:=#[.int .i64 a1_0,.slice A1_1 l1_1.length c1_1,.slice A1_2 l1_2.length c1_2,.int .i64 a1_3]) (t:=27) ?hr ?_;(case hd=>rfl);(case hg=>rfl);(case hr=>exact zq2);intro gb507 hg w5 hbox hb;have BK507:=aM hbox;have GW507:=aM (zq425:w.heap.size≤gb507);have GE507:=GW507;replace HB:=sB zq93 hb;have NB506_507:=aM (zq426:gb506≠gb507);have NB507_506:=aM (zq427:gb507≠gb506);replace BK506:=bG BK506 hb;clear hb hbox hg)))
 (try simp only [Act.put,List.setIfInBounds_toArray,List.set_cons_zero,List.set_cons_succ])
 go_cut [36] (fun v36 wc=>∃ (kq:Nat) (x36_2:Bool),v36 = .bool x36_2∧Aside0 (laws_sameStore.j0 kq x36_2 a0_0 l0_1 l0_2 a0_3 a1_0 l1_1 l1_2 a1_3=some r)∧Aside0 (kq≤k)∧Aside0 (wc.heap[gb506]?=some (.cells #[.int .i64 a0_0,(.slice A0_1 l0_1.length c0_1),(.slice A0_2 l0_2.length c0_2),.int .i64 a0_3] 27 (0,0)))∧Aside0 (wc.heap[gb507]?=some (.cells #[.int .i64 a1_0,(.slice A1_1 l1_1.length c1_1),(.slice A1_2 l1_2.length c1_2),.int .i64 a1_3] 27 (0,0)))∧Aside0 (Below w.heap.size w wc))
 case first =>
  have H:=HC3.out;clear HC3;by_cases c6:a0_0=a1_0
  ·
   rw [if_pos c6] at H;have c6b0:(a0_0 == a1_0)=true:=beq_iff_eq.mpr c6;have c6b1:(a0_0 != a1_0)=false:=bne_eq_false_iff_eq.mpr c6;clear c6
   (first | rw [c6b0]|(simp only [i64_w,i32_w];rw [c6b0])|skip)
   by_cases c7:a0_3=a1_3
   ·
    rw [if_pos c7] at H;have c7b0:(a0_3 == a1_3)=true:=beq_iff_eq.mpr c7;have c7b1:(a0_3 != a1_3)=false:=bne_eq_false_iff_eq.mpr c7;clear c7;by_cases c8:(l0_1.length:Int)=(l1_1.length:Int)
    ·
     rw [if_pos c8] at H;have c8b0:((l0_1.length:Int) == (l1_1.length:Int))=true:=beq_iff_eq.mpr c8;have c8b1:((l0_1.length:Int) != (l1_1.length:Int))=false:=bne_eq_false_iff_eq.mpr c8;have c8b2:(l0_1.length == l1_1.length)=true:=by first | simpa using c8|(simp at c8 ⊢;omega)
     clear c8;have H':=aM H;clear H;have hnb9:=NB506_507.out;have hnc9:=NB507_506.out;have hcz10:=cells4_ (w:=w5) BK506;have hcz11:=cells4_ (w:=w5) BK507;go_wp2
     repeat (go_quiet (fail);try go_wp2)
     go_meet
     case rel=>exact ⟨_,(((l0_2.length:Int) != (l1_2.length:Int))),zq19,H',⟨zq20⟩,⟨zq92⟩,⟨zq94⟩,⟨zq95⟩⟩
    rw [if_neg c8] at H;have c8b0:((l0_1.length:Int) == (l1_1.length:Int))=false:=beq_eq_false_iff_ne.mpr c8;have c8b1:((l0_1.length:Int) != (l1_1.length:Int))=true:=bne_iff_ne.mpr c8;have c8b2:(l0_1.length == l1_1.length)=false:=by first | simpa using c8|(simp at c8 ⊢;omega)
    have H':=aM H;clear H;have hnb12:=NB506_507.out;have hnc12:=NB507_506.out;have hcz13:=cells4_ (w:=w5) BK506;have hcz14:=cells4_ (w:=w5) BK507;go_wp2
    repeat (go_quiet (fail);try go_wp2)
    go_meet
    case rel=>exact ⟨_,(true),zq19,H',⟨zq20⟩,⟨zq92⟩,⟨zq94⟩,⟨zq95⟩⟩
   rw [if_neg c7] at H;have c7b0:(a0_3 == a1_3)=false:=beq_eq_false_iff_ne.mpr c7;have c7b1:(a0_3 != a1_3)=true:=bne_iff_ne.mpr c7;have H':=aM H;clear H;have hnb15:=NB506_507.out;have hnc15:=NB507_506.out;have hcz16:=cells4_ (w:=w5) BK506;have hcz17:=cells4_ (w:=w5) BK507;go_wp2
   repeat (go_quiet (fail);try go_wp2)
   go_meet
   case rel=>exact ⟨_,(true),zq19,H',⟨zq20⟩,⟨zq92⟩,⟨zq94⟩,⟨zq95⟩⟩
  rw [if_neg c6] at H;have c6b0:(a0_0 == a1_0)=false:=beq_eq_false_iff_ne.mpr c6;have c6b1:(a0_0 != a1_0)=true:=bne_iff_ne.mpr c6
  (first | rw [c6b0]|(simp only [i64_w,i32_w];rw [c6b0])|skip)
  have H':=aM H;clear H;have hnb18:=NB506_507.out;have hnc18:=NB507_506.out;have hcz19:=cells4_ (w:=w5) BK506;have hcz20:=cells4_ (w:=w5) BK507;go_wp2
  repeat (go_quiet (fail);try go_wp2)
  go_meet
  case rel=>exact ⟨_,(true),zq19,H',⟨zq20⟩,⟨zq92⟩,⟨zq94⟩,⟨zq95⟩⟩
 case rest =>
  clear HC3
  obtain ⟨kq,x36_2,rfl,HA,HJ2,BK506,BK507,HB⟩:=hcut
  cases kq with
  | zero=>exact absurd HA.out (by simp [laws_sameStore.j0])
  | succ kj2 =>
   have H:=HA.out;clear HA;simp only [laws_sameStore.j0] at H;by_cases c21:x36_2=true
   ·
    subst c21;rw [if_pos rfl] at H;obtain rfl:=Option.some.inj H;go_wp2
    repeat (go_quiet (fail);try go_wp2)
    go_ret;exact ⟨zq24,zq95⟩
   replace c21:=Bool.eq_false_iff.mpr c21;subst c21;rw [if_neg (show ¬ (false=true) by decide)] at H;have H':=aM H;clear H;go_wp2
   repeat (go_quiet (fail);try go_wp2)
   go_loopg [5] kj2 (fun kq v5 w'=>∃ (x5_2:Int),v5 = .int .i64 x5_2∧Aside0 (laws_sameStore.l0 kq x5_2 a0_0 l0_1 l0_2 a0_3 a1_0 l1_1 l1_2 a1_3=some r)∧Aside0 (kq≤kj2)∧Aside0 (w'.heap[gb506]?=some (.cells #[.int .i64 a0_0,(.slice A0_1 l0_1.length c0_1),(.slice A0_2 l0_2.length c0_2),.int .i64 a0_3] 27 (0,0)))∧Aside0 (w'.heap[gb507]?=some (.cells #[.int .i64 a1_0,(.slice A1_1 l1_1.length c1_1),(.slice A1_2 l1_2.length c1_2),.int .i64 a1_3] 27 (0,0)))∧Aside0 (Below w.heap.size w w'))
   case atStart=>exact ⟨(0),zq19,H',⟨Nat.le_refl _⟩,⟨zq92⟩,⟨zq94⟩,⟨zq95⟩⟩
   case round =>
    clear H';(try clear c21)
    obtain ⟨x5_2,rfl,HA,HK2,BK506,BK507,HB⟩:=hrel
    cases gk with
    | zero=>exact absurd HA.out (by simp [laws_sameStore.l0])
    | succ k2 =>
     have H:=HA.out;clear HA;simp only [laws_sameStore.l0] at H;by_cases c22:x5_2 < (l0_1.length:Int)
     ·
      rw [if_pos c22] at H;have c22b0:=decide_eq_true c22;clear c22;by_cases c23:0≤x5_2
      ·
       rw [if_pos c23] at H;have c23b0:=decide_eq_true c23;clear c23;by_cases c24:x5_2 < (l1_1.length:Int)
       ·
        rw [if_pos c24] at H;have c24b0:=decide_eq_true c24;clear c24;by_cases c25:(!((((rd_T56 l0_1 x5_2).f0).toList) == (((rd_T56 l1_1 x5_2).f0).toList)) || (!((((rd_T56 l0_1 x5_2).f1).toList) == (((rd_T56 l1_1 x5_2).f1).toList))))=true
        ·
         rw [if_pos c25] at H;have c25b0:(!((((rd_T56 l0_1 x5_2).f0).toList) == (((rd_T56 l1_1 x5_2).f0).toList)) || (!((((rd_T56 l0_1 x5_2).f1).toList) == (((rd_T56 l1_1 x5_2).f1).toList))))=true:=c25;clear c25;obtain rfl:=Option.some.inj H;have hnb26:=NB506_507.out;have hnc26:=NB507_506.out;have hcz27:=cells4_ (w:=wr) BK506;have p508:0≤(x5_2:Int):=of_decide_eq_true zq34;have q508:x5_2 < (l0_1.length:Int):=of_decide_eq_true zq34;obtain ⟨ad508,e508,hx508_0,hx508_1⟩:=at_T56 HR0_1.out x5_2 p508 q508;cases e508;replace hx508_0:=hxB HB hx508_0;replace hx508_1:=hxB HB hx508_1;replace p508:=eq_true p508;replace q508:=eq_true q508;have hcz28:=cells4_ (w:=wr) BK507;have p509:0≤(x5_2:Int):=of_decide_eq_true zq34;have q509:x5_2 < (l1_1.length:Int):=of_decide_eq_true zq34;obtain ⟨ad509,e509,hx509_0,hx509_1⟩:=at_T56 HR1_1.out x5_2 p509 q509;cases e509;replace hx509_0:=hxB HB hx509_0;replace hx509_1:=hxB HB hx509_1;replace p509:=eq_true p509;replace q509:=eq_true q509;go_wp2
         repeat (go_quiet (fail);try go_wp2)
         go_ret;exact ⟨zq24,zq95⟩
        rw [if_neg c25] at H;have c25b0:(!((((rd_T56 l0_1 x5_2).f0).toList) == (((rd_T56 l1_1 x5_2).f0).toList)) || (!((((rd_T56 l0_1 x5_2).f1).toList) == (((rd_T56 l1_1 x5_2).f1).toList))))=false:=by simpa using c25
        clear c25;have H':=aM H;clear H;have hnb29:=NB506_507.out;have hnc29:=NB507_506.out;have hcz30:=cells4_ (w:=wr) BK506;have p508:0≤(x5_2:Int):=of_decide_eq_true zq34;have q508:x5_2 < (l0_1.length:Int):=of_decide_eq_true zq34;obtain ⟨ad508,e508,hx508_0,hx508_1⟩:=at_T56 HR0_1.out x5_2 p508 q508;cases e508;replace hx508_0:=hxB HB hx508_0;replace hx508_1:=hxB HB hx508_1;replace p508:=eq_true p508;replace q508:=eq_true q508;have hcz31:=cells4_ (w:=wr) BK507;have p509:0≤(x5_2:Int):=of_decide_eq_true zq34;have q509:x5_2 < (l1_1.length:Int):=of_decide_eq_true zq34;obtain ⟨ad509,e509,hx509_0,hx509_1⟩:=at_T56 HR1_1.out x5_2 p509 q509;cases e509;replace hx509_0:=hxB HB hx509_0;replace hx509_1:=hxB HB hx509_1;replace p509:=eq_true p509;replace q509:=eq_true q509;go_wp2
        repeat (go_quiet (fail);try go_wp2)
        go_roundg k2
        case measure=>have:=HJ2.out;have:=HK2.out;omega
        case rel=>exact ⟨(wrap64 (x5_2 + 1)),zq19,H',⟨by have:=HJ2.out;have:=HK2.out;omega⟩,⟨zq92⟩,⟨zq94⟩,⟨zq95⟩⟩
       rw [if_neg c24] at H;exact absurd H (by simp)
      rw [if_neg c23] at H;exact absurd H (by simp)
     rw [if_neg c22] at H;have c22b0:=decide_eq_false c22;clear c22;have H':=aM H;clear H;have hnb32:=NB506_507.out;have hnc32:=NB507_506.out;have hcz33:=cells4_ (w:=wr) BK506;go_wp2
     repeat (go_quiet (fail);try go_wp2)
     go_loopg [6] k2 (fun kq v6 w'=>∃ (x6_3:Int),v6 = .int .i64 x6_3∧Aside0 (laws_sameStore.l1 kq x6_3 a0_0 l0_1 l0_2 a0_3 a1_0 l1_1 l1_2 a1_3=some r)∧Aside0 (kq≤k2)∧Aside0 (w'.heap[gb506]?=some (.cells #[.int .i64 a0_0,(.slice A0_1 l0_1.length c0_1),(.slice A0_2 l0_2.length c0_2),.int .i64 a0_3] 27 (0,0)))∧Aside0 (w'.heap[gb507]?=some (.cells #[.int .i64 a1_0,(.slice A1_1 l1_1.length c1_1),(.slice A1_2 l1_2.length c1_2),.int .i64 a1_3] 27 (0,0)))∧Aside0 (Below w.heap.size w w'))
     case atStart=>exact ⟨(0),zq19,H',⟨Nat.le_refl _⟩,⟨zq92⟩,⟨zq94⟩,⟨zq95⟩⟩
     case round =>
      clear H';(try clear c21);(try clear c22b0)
      (try clear hcz33)
      obtain ⟨x6_3,rfl,HA,HK3,BK506,BK507,HB⟩:=hrel
      cases gk with
      | zero=>exact absurd HA.out (by simp [laws_sameStore.l1])
      | succ k3 =>
       have H:=HA.out;clear HA;simp only [laws_sameStore.l1] at H;by_cases c34:x6_3 < (l0_2.length:Int)
       ·
        rw [if_pos c34] at H;have c34b0:=decide_eq_true c34;clear c34;by_cases c35:0≤x6_3
        ·
         rw [if_pos c35] at H;have c35b0:=decide_eq_true c35;clear c35;by_cases c36:x6_3 < (l1_2.length:Int)
         ·
          rw [if_pos c36] at H;have c36b0:=decide_eq_true c36;clear c36;by_cases c37:(!(((rd_T58 l0_2 x6_3).f0) == ((rd_T58 l1_2 x6_3).f0)) || (!((((rd_T58 l0_2 x6_3).f1).toList) == (((rd_T58 l1_2 x6_3).f1).toList))))=true
          ·
           rw [if_pos c37] at H;have c37b0:(!(((rd_T58 l0_2 x6_3).f0) == ((rd_T58 l1_2 x6_3).f0)) || (!((((rd_T58 l0_2 x6_3).f1).toList) == (((rd_T58 l1_2 x6_3).f1).toList))))=true:=c37;clear c37;obtain rfl:=Option.some.inj H;have hnb38:=NB506_507.out;have hnc38:=NB507_506.out;have hcz39:=cells4_ (w:=wr) BK506;have p510:0≤(x6_3:Int):=of_decide_eq_true zq34;have q510:x6_3 < (l0_2.length:Int):=of_decide_eq_true zq34;obtain ⟨ad510,e510,hx510_0,hx510_1⟩:=at_T58 HR0_2.out x6_3 p510 q510;cases e510;replace hx510_0:=hxB HB hx510_0;replace hx510_1:=hxB HB hx510_1;replace p510:=eq_true p510;replace q510:=eq_true q510;have hcz40:=cells4_ (w:=wr) BK507;have p511:0≤(x6_3:Int):=of_decide_eq_true zq34;have q511:x6_3 < (l1_2.length:Int):=of_decide_eq_true zq34;obtain ⟨ad511,e511,hx511_0,hx511_1⟩:=at_T58 HR1_2.out x6_3 p511 q511;cases e511;replace hx511_0:=hxB HB hx511_0;replace hx511_1:=hxB HB hx511_1;replace p511:=eq_true p511;replace q511:=eq_true q511;go_wp2
           repeat (go_quiet (fail);try go_wp2)
           go_ret;exact ⟨zq24,zq95⟩
          rw [if_neg c37] at H;have c37b0:(!(((rd_T58 l0_2 x6_3).f0) == ((rd_T58 l1_2 x6_3).f0)) || (!((((rd_T58 l0_2 x6_3).f1).toList) == (((rd_T58 l1_2 x6_3).f1).toList))))=false:=by simpa using c37
          clear c37;have H':=aM H;clear H;have hnb41:=NB506_507.out;have hnc41:=NB507_506.out;have hcz42:=cells4_ (w:=wr) BK506;have p510:0≤(x6_3:Int):=of_decide_eq_true zq34;have q510:x6_3 < (l0_2.length:Int):=of_decide_eq_true zq34;obtain ⟨ad510,e510,hx510_0,hx510_1⟩:=at_T58 HR0_2.out x6_3 p510 q510;cases e510;replace hx510_0:=hxB HB hx510_0;replace hx510_1:=hxB HB hx510_1;replace p510:=eq_true p510;replace q510:=eq_true q510;have hcz43:=cells4_ (w:=wr) BK507;have p511:0≤(x6_3:Int):=of_decide_eq_true zq34;have q511:x6_3 < (l1_2.length:Int):=of_decide_eq_true zq34;obtain ⟨ad511,e511,hx511_0,hx511_1⟩:=at_T58 HR1_2.out x6_3 p511 q511;cases e511;replace hx511_0:=hxB HB hx511_0;replace hx511_1:=hxB HB hx511_1;replace p511:=eq_true p511;replace q511:=eq_true q511;go_wp2
          repeat (go_quiet (fail);try go_wp2)
          go_roundg k3
          case measure=>have:=HJ2.out;have:=HK2.out;have:=HK3.out;omega
          case rel=>exact ⟨(wrap64 (x6_3 + 1)),zq19,H',⟨by have:=HJ2.out;have:=HK2.out;have:=HK3.out;omega⟩,⟨zq92⟩,⟨zq94⟩,⟨zq95⟩⟩
         rw [if_neg c36] at H;exact absurd H (by simp)
        rw [if_neg c35] at H;exact absurd H (by simp)
       rw [if_neg c34] at H;have c34b0:=decide_eq_false c34;clear c34;obtain rfl:=Option.some.inj H;have hnb44:=NB506_507.out;have hnc44:=NB507_506.out;have hcz45:=cells4_ (w:=wr) BK506;go_wp2
       repeat (go_quiet (fail);try go_wp2)
       go_ret;exact ⟨zq24,zq95⟩
end Go.Proofs.Ytldpdaifajjaeaa.QFnChunked
