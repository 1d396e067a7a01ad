/- Written by wip/myprint.py of this repo (the kit's print, with additions of this session). -/
import Derived.Test.YtldpdaifajjaeaaQFnChunkedx16
set_option maxRecDepth 100000
namespace Go.Proofs.Ytldpdaifajjaeaa.QFnChunked
set_option maxHeartbeats 8000000
set_option maxRecDepth 100000
open Go.RowKit Go.Proofs.YtldpdaifajjaeaaW.PrintWords Go.Proofs.YtldpdaifajjaeaaW.PrintLast Go.Proofs.YtldpdaifajjaeaaW.PrintMore
attribute [local go_sem] max2_int min2_int max_two min_two max_three min_three max_four min_four
set_option linter.unusedVariables false
set_option linter.unusedSimpArgs false
mutual
def impl_digest.l0:Nat→List Int→List Int→Int→Int→Option (ByteArray)
 | 0,_,_,_,_=>none
 | k + 1,x3,x10,x11,x12=>if x12 < x11 then (if 0≤x12 then (if x12 < (x10.length:Int) then (impl_digest.l1 k x3 (rd x10 x12) 28 x10 x11 x12) else (none)) else (none)) else (some (strOfNums x3))
def impl_digest.l1:Nat→List Int→Int→Int→List Int→Int→Int→Option (ByteArray)
 | 0,_,_,_,_,_,_=>none
 | k + 1,x3,x5,x6,x10,x11,x12=>if x6≥0 then (if 0≤x6 then (if 0≤(Go.bits .and .u32 (shr .u32 x5 x6) 15) then (if (Go.bits .and .u32 (shr .u32 x5 x6) 15) < 16 then (if x3.length < 140737488355328 then (impl_digest.l1 k (x3 ++ [bt (⟨#[48,49,50,51,52,53,54,55,56,57,97,98,99,100,101,102]⟩:ByteArray) (Go.bits .and .u32 (shr .u32 x5 x6) 15)]) x5 (wrap64 (x6 - 4)) x10 x11 x12) else (none)) else (none)) else (none)) else (none)) else (impl_digest.l0 k x3 x10 x11 (wrap64 (x12 + 1)))
end
def impl_digest.f (k:Nat) (a0:ByteArray):Option (ByteArray):=(impl_sum.f a0).bind fun t534=>(impl_digest.l0 k (([115,104,97,50,53,54,58]:List Int)) t534 (t534.length:Int) 0)
theorem impl_digest.mono_l:∀ k,(∀ y0 y1 y2 y3,LeO (impl_digest.l0 k y0 y1 y2 y3) (impl_digest.l0 (k + 1) y0 y1 y2 y3))∧(∀ y0 y1 y2 y3 y4 y5,LeO (impl_digest.l1 k y0 y1 y2 y3 y4 y5) (impl_digest.l1 (k + 1) y0 y1 y2 y3 y4 y5))
 | 0=>⟨fun _ _ _ _ r h=>by simp [impl_digest.l0] at h,fun _ _ _ _ _ _ r h=>by simp [impl_digest.l1] at h⟩
 | k + 1=>by
  obtain ⟨ih0,ih1⟩:=impl_digest.mono_l k;refine ⟨?_,?_⟩ <;> (intros;first | unfold impl_digest.l0 | unfold impl_digest.l1)
  all_goals with_reducible repeat' first | apply ih0 | apply ih1 | exact LeO.refl _ | exact LeO.none _ | refine LeO.ite ?_ ?_ | refine LeO.bind ?_ (fun _=>?_)
theorem impl_digest.mono:∀ a0 k,LeO (impl_digest.f k a0) (impl_digest.f (k + 1) a0):=by
 intro a0 k;obtain ⟨ih0,ih1⟩:=impl_digest.mono_l k;unfold impl_digest.f
 with_reducible repeat' first | apply ih0 | apply ih1 | exact LeO.refl _ | exact LeO.none _ | refine LeO.ite ?_ ?_ | refine LeO.bind ?_ (fun _=>?_)
theorem impl_digest.calls (k:Nat) (a0:ByteArray) (r:ByteArray) (w:World) (h:impl_digest.f k a0=some r) :
  Calls Try.prog 63 #[.string a0] w fun e w'=>e = .returned (.string r)∧Below w.heap.size w w':=by
 have HB:=aM (Below.refl w.heap.size w);unfold impl_digest.f at h;have H:=h;clear h;obtain ⟨y531,hy531⟩:∃ y_:List Int,y_=(([115,104,97,50,53,54,58]:List Int)):=⟨_,rfl⟩;have hy_:=hy531;replace H:((impl_sum.f a0).bind fun t534=>(impl_digest.l0 k y531 t534 (t534.length:Int) 0))=some r:=hyE;clear hy_;have Ny531:=aM hy531;clear hy531;replace H:=Option.bind_eq_some_iff.mp H;obtain ⟨t534,A20,H⟩:=H;(try dsimp only at H);have A2:=aM A20;clear A20;have H':=aM H;clear H;go_enter Try.func63,Try.ntmps63
 go_wp2_with (first|((with_reducible refine gD 7 rfl ?_);refine Kd.R_litc _ 5 ?hg ?hg2 (N:=7) (N2:=8) ?hd ?hd2 22 ?hc (xs:=([115,104,97,50,53,54,58]:List Int)) (inner:=[.int .u8 115,.int .u8 104,.int .u8 97,.int .u8 50,.int .u8 53,.int .u8 54,.int .u8 58]) ?hr ?hin ?hN Try.underlying22 Try.underlying5 rfl (ok:=fun _=>True) trivial (Below.refl _ _) (Nat.le_refl _) (by simp) ?_;(case hd=>rfl);(case hd2=>rfl);(case hg=>rfl);(case hg2=>rfl);(case hc=>rfl);(case hr=>exact zq2);(case hin=>rfl);(case hN=>simp);intro v532 w3 ho4 hb hg_ hnew_;clear hg_ hnew_;(first | rw [← Ny531.out] at ho4|(simp only [Int.reduceToNat] at ho4;rw [← Ny531.out] at ho4));have HO533:=aM (Kd.R_lower ho4 (below_size zq3));replace HB:=sB zq3 hb;clear hb ho4)|((with_reducible refine gC 71 rfl ?_);refine gL 10 Try.func71 #[.string a0] ?_;(with_reducible refine (impl_sum.calls a0 t534 _ A2.out).mono ?_);rintro e w5 ⟨v535,rfl,ho0,hb⟩;refine ⟨_,rfl,?_⟩;replace HO533:=rG HO533 hb;have HO536:=aM (Kd.R_lower ho0 (below_size zq3));replace HB:=sB zq3 hb;clear hb;(try clear ho0);obtain ⟨Ao6,co6,eo6⟩:=Kd.R_slice HO536.out;subst eo6))
 go_loopg [3,12] k (fun kq v3 v12 w'=>∃ (x3_1:List Int) (x12_1:Int),v12 = .int .i64 x12_1∧Aside0 (impl_digest.l0 kq x3_1 t534 (t534.length:Int) x12_1=some r)∧Aside0 (kq≤k)∧Aside0 (Kd.R (Kd.int .u8) 5 w' w.heap.size (fun _=>True) v3 x3_1)∧Aside0 (Kd.R (Kd.int .u32) 62 w' w.heap.size (fun _=>True) (.slice Ao6 t534.length co6) t534)∧Aside0 (Below w.heap.size w w'))
 case atStart=>exact ⟨(y531),(0),zq19,H',⟨Nat.le_refl _⟩,⟨zq115⟩,⟨by refine dR ?_;first | exact HO536.out|(have h_:=HO536.out;simp only [Int.emod_add_emod,Int.add_emod_emod] at h_ ⊢;exact h_)⟩,⟨zq3⟩⟩
 case round =>
  clear H';obtain ⟨x3_1,x12_1,rfl,HA,HK1,HO_3,HO_10,HB⟩:=hrel
  cases gk with
  | zero=>exact absurd HA.out (by simp [impl_digest.l0])
  | succ k1 =>
   have H:=HA.out;clear HA;simp only [impl_digest.l0] at H;by_cases c7:x12_1 < (t534.length:Int)
   ·
    rw [if_pos c7] at H;have c7b0:=decide_eq_true c7;clear c7;by_cases c8:0≤x12_1
    ·
     rw [if_pos c8] at H;have c8b0:=decide_eq_true c8;clear c8;by_cases c9:x12_1 < (t534.length:Int)
     ·
      rw [if_pos c9] at H;have c9b0:=decide_eq_true c9;clear c9;have H':=aM H;clear H;have p537:0≤(x12_1:Int):=of_decide_eq_true zq34;have q537:x12_1 < (t534.length:Int):=of_decide_eq_true zq34;obtain ⟨ad537,e537,hx537_0⟩:=Kd.at_int (Kd.R_reads' HO_10.out).2.2 x12_1 p537 q537;cases e537;replace p537:=eq_true p537;replace q537:=eq_true q537;go_wp2
      go_loopg [3,6] k1 (fun kq v3 v6 w'=>∃ (x3_2:List Int) (x6_2:Int),v6 = .int .i64 x6_2∧Aside0 (impl_digest.l1 kq x3_2 (rd t534 x12_1) x6_2 t534 (t534.length:Int) x12_1=some r)∧Aside0 (kq≤k1)∧Aside0 (Kd.R (Kd.int .u8) 5 w' w.heap.size (fun _=>True) v3 x3_2)∧Aside0 (Kd.R (Kd.int .u32) 62 w' w.heap.size (fun _=>True) (.slice (some ad537) t534.length co6) t534)∧Aside0 (Below w.heap.size w w'))
      case atStart=>exact ⟨(x3_1),(28),zq19,H',⟨Nat.le_refl _⟩,⟨zq107⟩,⟨zq116⟩,⟨zq3⟩⟩
      case round =>
       clear H';(try clear c7b0);(try clear c8b0);(try clear c9b0);(try clear hx537_0);(try clear p537);(try clear q537);obtain ⟨x3_2,x6_2,rfl,HA,HK2,HO_3,HO_10,HB⟩:=hrel
       cases gk with
       | zero=>exact absurd HA.out (by simp [impl_digest.l1])
       | succ k2 =>
        have H:=HA.out;clear HA;simp only [impl_digest.l1] at H;by_cases c10:x6_2≥0
        ·
         rw [if_pos c10] at H;have c10b0:decide (0≤x6_2)=true:=decide_eq_true c10;clear c10;by_cases c11:0≤x6_2
         ·
          rw [if_pos c11] at H;have c11b0:=eq_true c11;have c11b1:=decide_eq_true c11;clear c11;obtain ⟨ji12,hji12⟩:∃ j_:Int,(shr .u32 (rd t534 x12_1) x6_2)=j_:=⟨_,rfl⟩;replace H:(if 0≤(Go.bits .and .u32 (ji12) 15) then (if (Go.bits .and .u32 (ji12) 15) < 16 then (if x3_2.length < 140737488355328 then (impl_digest.l1 k2 (x3_2 ++ [bt (⟨#[48,49,50,51,52,53,54,55,56,57,97,98,99,100,101,102]⟩:ByteArray) (Go.bits .and .u32 (ji12) 15)]) (rd t534 x12_1) (wrap64 (x6_2 - 4)) t534 (t534.length:Int) x12_1) else (none)) else (none)) else (none))=some r:=by first|(rw [hji12] at H;exact H)|(simp only [hji12] at H ⊢;exact H)
          have hji12_:((rd t534 x12_1) / 2 ^ min x6_2.toNat 32)=ji12:=hji12;have hji12z:x6_2≤32→((rd t534 x12_1) / 2 ^ x6_2.toNat)=ji12:=shr_small hji12;by_cases c13:0≤(Go.bits .and .u32 (ji12) 15)
          ·
           rw [if_pos c13] at H;have c13b0:=decide_eq_true c13;clear c13;by_cases c14:(Go.bits .and .u32 (ji12) 15) < 16
           ·
            rw [if_pos c14] at H;have c14b0:=decide_eq_true c14;clear c14;by_cases c16:x3_2.length < 140737488355328
            ·
             rw [if_pos c16] at H;have LMc16:=aM c16;clear c16;obtain ⟨y538,hy538⟩:∃ y_:List Int,y_=(x3_2 ++ [bt (⟨#[48,49,50,51,52,53,54,55,56,57,97,98,99,100,101,102]⟩:ByteArray) (Go.bits .and .u32 (ji12) 15)]):=⟨_,rfl⟩;have hy_:=hy538;replace H:(impl_digest.l1 k2 y538 (rd t534 x12_1) (wrap64 (x6_2 - 4)) t534 (t534.length:Int) x12_1)=some r:=hyE;clear hy_;have Ny538:=aM hy538;clear hy538;have H':=aM H;clear H;have p15:0≤((Go.bits .and .u32 (ji12) 15):Int):=of_decide_eq_true zq34;have q15:(Go.bits .and .u32 (ji12) 15) < (16:Int):=of_decide_eq_true zq34;have hx15:=bt_at (⟨#[48,49,50,51,52,53,54,55,56,57,97,98,99,100,101,102]⟩:ByteArray) (Go.bits .and .u32 (ji12) 15);replace p15:=eq_true p15;replace q15:=eq_true q15
             go_wp2_with (first|((with_reducible refine gate_builtin (b:=.append) (xs:=#[.tmp 20,.tmp 26]) rfl ?_);at_builtin;refine Kd.R_append (Kd.int .u8) (w0:=w) w.heap.size rfl (.tmp 20) (.tmp 26) 22 5 (.int .u8 0) 1 rfl Try.underlying22 info5 rfl (by decide) (by omega) u3 x3_2 (bt (⟨#[48,49,50,51,52,53,54,55,56,57,97,98,99,100,101,102]⟩:ByteArray) (Go.bits .and .u32 (ji12) 15)) [.int .u8 (bt (⟨#[48,49,50,51,52,53,54,55,56,57,97,98,99,100,101,102]⟩:ByteArray) (Go.bits .and .u32 (ji12) 15))] (fun _=>True) (fun _=>False) rfl rfl ?aP (fun _ hk=>hk.elim) ?aF ?aO ?aB ?aS ?aL ?_;(case aP=>exact rfl);(case aB=>exact zq3);(case aF=>exact zq79);(case aO=>exact zq107);(case aS=>exact zq429);(case aL=>have:=LMc16.out;omega);intro v539 w17 ho hb hg hat;rw [← Ny538.out] at ho;have n0_:=aM (Kd.R_over' zq116 (Kd.R_typed zq107) (by decide) hg);have n1_:=aM (hb);have n2_:=aM (ho);clear HO_10;clear HB;clear HO_3;have HO_10:=n0_;have HB:=n1_;have HO540:=n2_;clear n0_ n1_ n2_;clear ho hb hg hat))
             go_roundg k2
             case measure=>have:=HK1.out;have:=HK2.out;omega
             case rel=>exact ⟨(y538),(wrap64 (x6_2 - 4)),zq19,H',⟨zq80⟩,⟨by refine dR ?_;exact HO540.out⟩,⟨zq116⟩,⟨zq3⟩⟩
            rw [if_neg c16] at H;exact absurd H (by simp)
           rw [if_neg c14] at H;exact absurd H (by simp)
          exact zq520
         exact zq523
        rw [if_neg c10] at H;have c10b0:decide (0≤x6_2)=false:=decide_eq_false c10;clear c10;have H':=aM H;clear H;go_wp2
        go_roundg k2
        case measure=>have:=HK1.out;have:=HK2.out;omega
        case rel=>exact ⟨(x3_2),(wrap64 (x12_1 + 1)),zq19,H',⟨zq80⟩,⟨zq107⟩,⟨zq116⟩,⟨zq3⟩⟩
     rw [if_neg c9] at H;exact absurd H (by simp)
    exact zq515
   rw [if_neg c7] at H;have c7b0:=decide_eq_false c7;clear c7;obtain rfl:=Option.some.inj H;have hcv18:=own_string (P:=Try.prog) Try.underlying22 Try.underlying5 Try.underlying9 (Kd.own_of_R HO_3.out);go_wp2;go_ret;exact ⟨zq24,zq3⟩
def impl_digestOf.f (k:Nat) (a0:ByteArray):Option (ByteArray):=(impl_digest.f k a0).bind fun t541=>(some t541)
theorem impl_digestOf.mono:∀ a0 k,LeO (impl_digestOf.f k a0) (impl_digestOf.f (k + 1) a0):=by
 intro a0 k;unfold impl_digestOf.f
 with_reducible repeat' first | apply impl_digest.mono | exact LeO.refl _ | exact LeO.none _ | refine LeO.ite ?_ ?_ | refine LeO.bind ?_ (fun _=>?_)
theorem impl_digestOf.calls (k:Nat) (a0:ByteArray) (r:ByteArray) (w:World) (h:impl_digestOf.f k a0=some r) :
  Calls Try.prog 41 #[.string a0] w fun e w'=>e = .returned (.string r)∧Below w.heap.size w w':=by
 have HB:=aM (Below.refl w.heap.size w);unfold impl_digestOf.f at h;have H:=h;clear h;replace H:=Option.bind_eq_some_iff.mp H;obtain ⟨t541,A20,H⟩:=H;replace H:(some t541)=some r:=H;have A2:=aM A20;clear A20;obtain rfl:=Option.some.inj H;go_enter Try.func41,Try.ntmps41
 go_wp2_with (first|((with_reducible refine gC 63 rfl ?_);refine gL 4 Try.func63 #[.string a0] ?_;(with_reducible refine (impl_digest.calls k a0 t541 _ A2.out).mono ?_);rintro e w3 ⟨rfl,hb⟩;refine ⟨_,rfl,?_⟩;replace HB:=sB zq3 hb;clear hb))
 go_ret;exact ⟨zq24,zq3⟩
def impl_in.f (a0:Int) (a1:Int) (a2:Int):Option (Bool):=if a0≥a1 then (some (decide (a0≤a2))) else (some false)
theorem impl_in.calls (a0:Int) (a1:Int) (a2:Int) (r:Bool) (w:World) (h:impl_in.f a0 a1 a2=some r) :
  Calls Try.prog 55 #[.int .i64 a0,.int .i64 a1,.int .i64 a2] w fun e w'=>e = .returned (.bool r)∧Drawn0 w w':=by
 unfold impl_in.f at h;have H:=h;clear h;by_cases c4:a0≥a1
 ·
  rw [if_pos c4] at H;have c4b0:decide (a1≤a0)=true:=decide_eq_true c4;clear c4;obtain rfl:=Option.some.inj H;go_enter Try.func55,Try.ntmps55;go_wp2;go_ret;exact ⟨zq19,zq104⟩
 rw [if_neg c4] at H;have c4b0:decide (a1≤a0)=false:=decide_eq_false c4;clear c4;obtain rfl:=Option.some.inj H;go_enter Try.func55,Try.ntmps55;go_wp2;go_ret;exact ⟨zq19,zq104⟩
end Go.Proofs.Ytldpdaifajjaeaa.QFnChunked
