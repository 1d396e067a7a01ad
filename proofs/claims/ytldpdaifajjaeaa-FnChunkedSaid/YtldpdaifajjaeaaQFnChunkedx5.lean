/- Written by wip/myprint.py of this repo (the kit's print, with additions of this session). -/
import Derived.Test.YtldpdaifajjaeaaQFnChunkedx4
set_option maxRecDepth 100000
namespace Go.Proofs.Ytldpdaifajjaeaa.QFnChunked
set_option maxHeartbeats 8000000
set_option maxRecDepth 100000
open Go.RowKit Go.Proofs.YtldpdaifajjaeaaW.PrintWords Go.Proofs.YtldpdaifajjaeaaW.PrintLast Go.Proofs.YtldpdaifajjaeaaW.PrintMore
attribute [local go_sem] max2_int min2_int max_two min_two max_three min_three max_four min_four
set_option linter.unusedVariables false
set_option linter.unusedSimpArgs false
mutual
def spec_Sum.l0:Nat→ByteArray→List Int→Option (List Int)
 | 0,_,_=>none
 | k + 1,x0,x3=>if ((x3.length:Int) % 64)=56 then (spec_Sum.l1 k x3 (IntKind.u64.wrap ((IntKind.u64.wrap ((x0.size:Int))) * 8)) 7) else (if x3.length < 140737488355328 then (spec_Sum.l0 k x0 (x3 ++ [0])) else (none))
def spec_Sum.l1:Nat→List Int→Int→Int→Option (List Int)
 | 0,_,_,_=>none
 | k + 1,x3,x4,x5=>if x5≥0 then (if 0≤(IntKind.u64.wrap (wrap64 (8 * x5))) then (if x3.length < 140737488355328 then (spec_Sum.l1 k (x3 ++ [(shr .u64 x4 (IntKind.u64.wrap (wrap64 (8 * x5)))) % 256]) x4 (wrap64 (x5 - 1))) else (none)) else (none)) else ((spec_l1K.f).bind fun t172=>(spec_Sum.l2 k x3 t172 (([1779033703,3144134277,1013904242,2773480762,1359893119,2600822924,528734635,1541459225]:List Int)) 0))
def spec_Sum.l2:Nat→List Int→List Int→List Int→Int→Option (List Int)
 | 0,_,_,_,_=>none
 | k + 1,x3,x6,x7,x8=>if x8 < (x3.length:Int) then (if 0≤x8 then (if x8≤(wrap64 (x8 + 64)) then (if (wrap64 (x8 + 64))≤(x3.length:Int) then ((spec_l1Block.f k x7 x6 ((x3.take ((wrap64 (x8 + 64)):Int).toNat).drop (x8:Int).toNat)).bind fun t182=>(spec_Sum.l2 k x3 x6 t182 (wrap64 (x8 + 64)))) else (none)) else (none)) else (none)) else (some x7)
end
def spec_Sum.f (k:Nat) (a0:ByteArray):Option (List Int):=if (a0.size:Int)≤140737488351232 then ((some (bytesOf a0:List Int)).bind fun y160=>(if y160.length < 140737488355328 then (spec_Sum.l0 k a0 (y160 ++ [128])) else (none))) else (none)
theorem spec_Sum.mono_l:∀ k,(∀ y0 y1,LeO (spec_Sum.l0 k y0 y1) (spec_Sum.l0 (k + 1) y0 y1))∧(∀ y0 y1 y2,LeO (spec_Sum.l1 k y0 y1 y2) (spec_Sum.l1 (k + 1) y0 y1 y2))∧(∀ y0 y1 y2 y3,LeO (spec_Sum.l2 k y0 y1 y2 y3) (spec_Sum.l2 (k + 1) y0 y1 y2 y3))
 | 0=>⟨fun _ _ r h=>by simp [spec_Sum.l0] at h,fun _ _ _ r h=>by simp [spec_Sum.l1] at h,fun _ _ _ _ r h=>by simp [spec_Sum.l2] at h⟩
 | k + 1=>by
  obtain ⟨ih0,ih1,ih2⟩:=spec_Sum.mono_l k;refine ⟨?_,?_,?_⟩ <;> (intros;first | unfold spec_Sum.l0 | unfold spec_Sum.l1 | unfold spec_Sum.l2)
  all_goals with_reducible repeat' first | apply ih0 | apply ih1 | apply ih2 | apply spec_l1Block.mono | exact LeO.refl _ | exact LeO.none _ | refine LeO.ite ?_ ?_ | refine LeO.bind ?_ (fun _=>?_)
theorem spec_Sum.mono:∀ a0 k,LeO (spec_Sum.f k a0) (spec_Sum.f (k + 1) a0):=by
 intro a0 k;obtain ⟨ih0,ih1,ih2⟩:=spec_Sum.mono_l k;unfold spec_Sum.f
 with_reducible repeat' first | apply ih0 | apply ih1 | apply ih2 | apply spec_l1Block.mono | exact LeO.refl _ | exact LeO.none _ | refine LeO.ite ?_ ?_ | refine LeO.bind ?_ (fun _=>?_)
theorem spec_Sum.calls (k:Nat) (a0:ByteArray) (r:List Int) (w:World) (h:spec_Sum.f k a0=some r) :
  Calls Try.prog 33 #[.string a0] w fun e w'=>∃ v0_:Value,e = .returned (v0_)∧Kd.R (Kd.int .u32) 62 w' w.heap.size (fun _=>True) v0_ r∧Below w.heap.size w w':=by
 have HB:=aM (Below.refl w.heap.size w);unfold spec_Sum.f at h;have H:=h;clear h;by_cases c2:(a0.size:Int)≤140737488351232
 ·
  rw [if_pos c2] at H;have c2b0:=eq_true c2;have c2b1:=decide_eq_true c2;clear c2;obtain ⟨y160,hy160⟩:∃ y_:List Int,y_=(bytesOf a0):=⟨_,rfl⟩;have hy_:=hy160;replace H:(if y160.length < 140737488355328 then (spec_Sum.l0 k a0 (y160 ++ [128])) else (none))=some r:=hyE;clear hy_;have Ny160:=aM hy160;clear hy160;by_cases c3:y160.length < 140737488355328
  ·
   rw [if_pos c3] at H;have LMc3:=aM c3;clear c3;obtain ⟨y163,hy163⟩:∃ y_:List Int,y_=(y160 ++ [128]):=⟨_,rfl⟩;have hy_:=hy163;replace H:(spec_Sum.l0 k a0 y163)=some r:=hyE;clear hy_;have Ny163:=aM hy163;clear hy163;have H':=aM H;clear H;go_enter Try.func33,Try.ntmps33
   go_wp2_with (first|((with_reducible refine gD 10 rfl ?_);refine Kd.R_bytes _ 5 rfl (N:=10) rfl 9 22 _ rfl a0 rfl Try.underlying9 Try.underlying22 Try.underlying5 rfl (ok:=fun _=>True) trivial (of_decide_eq_true zq34) (Below.refl _ _) (Nat.le_refl _) ?_;intro v161 w4 ho5 hb hg_ hnew_;clear hg_ hnew_;(first | rw [← Ny160.out] at ho5|(simp only [Int.reduceToNat] at ho5;rw [← Ny160.out] at ho5));have HO162:=aM (Kd.R_lower ho5 (below_size zq3));replace HB:=sB zq3 hb;clear hb ho5)|((with_reducible refine gate_builtin (b:=.append) (xs:=#[.tmp 10,.tmp 11]) rfl ?_);at_builtin;refine Kd.R_append (Kd.int .u8) (w0:=w) w.heap.size rfl (.tmp 10) (.tmp 11) 22 5 (.int .u8 0) 1 rfl Try.underlying22 info5 rfl (by decide) (by omega) v161 y160 128 [.int .u8 128] (fun _=>True) (fun _=>False) rfl rfl ?aP (fun _ hk=>hk.elim) ?aF ?aO ?aB ?aS ?aL ?_;(case aP=>exact rfl);(case aB=>exact zq3);(case aF=>exact zq79);(case aO=>exact zq105);(case aS=>exact zq429);(case aL=>have:=LMc3.out;omega);intro v164 w6 ho hb hg hat;rw [← Ny163.out] at ho;have n0_:=aM (hb);have n1_:=aM (ho);clear HB;clear HO162;have HB:=n0_;have HO165:=n1_;clear n0_ n1_;clear ho hb hg hat))
   go_loopg [3] k (fun kq v3 w'=>∃ (x3_1:List Int),Aside0 (spec_Sum.l0 kq a0 x3_1=some r)∧Aside0 (kq≤k)∧Aside0 (Kd.R (Kd.int .u8) 5 w' w.heap.size (fun _=>True) v3 x3_1)∧Aside0 (Below w.heap.size w w'))
   case atStart=>exact ⟨(y163),H',⟨Nat.le_refl _⟩,⟨by refine dR ?_;exact HO165.out⟩,⟨zq3⟩⟩
   case round =>
    clear H';(try clear c2b0);(try clear c2b1);obtain ⟨x3_1,HA,HK1,HO_3,HB⟩:=hrel
    cases gk with
    | zero=>exact absurd HA.out (by simp [spec_Sum.l0])
    | succ k1 =>
     have H:=HA.out;clear HA;simp only [spec_Sum.l0] at H;by_cases c7:((x3_1.length:Int) % 64)=56
     ·
      rw [if_pos c7] at H;have c7b0:(((x3_1.length:Int) % 64) == 56)=true:=beq_iff_eq.mpr c7;have c7b1:(((x3_1.length:Int) % 64) != 56)=false:=bne_eq_false_iff_eq.mpr c7;clear c7;have H':=aM H;clear H;obtain ⟨Ao8,co8,eo8⟩:=Kd.R_slice HO_3.out;subst eo8;go_wp2
      go_loopg [3,5] k1 (fun kq v3 v5 w'=>∃ (x3_2:List Int) (x5_2:Int),v5 = .int .i64 x5_2∧Aside0 (spec_Sum.l1 kq x3_2 (IntKind.u64.wrap ((IntKind.u64.wrap ((a0.size:Int))) * 8)) x5_2=some r)∧Aside0 (kq≤k1)∧Aside0 (Kd.R (Kd.int .u8) 5 w' w.heap.size (fun _=>True) v3 x3_2)∧Aside0 (Below w.heap.size w w'))
      case atStart=>exact ⟨(x3_1),(7),zq19,H',⟨Nat.le_refl _⟩,⟨zq107⟩,⟨zq3⟩⟩
      case round =>
       clear H';(try clear c2b0);(try clear c2b1);(try clear c7b0);(try clear c7b1);obtain ⟨x3_2,x5_2,rfl,HA,HK2,HO_3,HB⟩:=hrel
       cases gk with
       | zero=>exact absurd HA.out (by simp [spec_Sum.l1])
       | succ k2 =>
        have H:=HA.out;clear HA;simp only [spec_Sum.l1] at H;by_cases c9:x5_2≥0
        ·
         rw [if_pos c9] at H;have c9b0:decide (0≤x5_2)=true:=decide_eq_true c9;clear c9;obtain ⟨ji10,hji10⟩:∃ j_:Int,(IntKind.u64.wrap (wrap64 (8 * x5_2)))=j_:=⟨_,rfl⟩;replace H:(if 0≤(ji10) then (if x3_2.length < 140737488355328 then (spec_Sum.l1 k2 (x3_2 ++ [(shr .u64 (IntKind.u64.wrap ((IntKind.u64.wrap ((a0.size:Int))) * 8)) (ji10)) % 256]) (IntKind.u64.wrap ((IntKind.u64.wrap ((a0.size:Int))) * 8)) (wrap64 (x5_2 - 1))) else (none)) else (none))=some r:=by first|(rw [hji10] at H;exact H)|(simp only [hji10] at H ⊢;exact H)
         by_cases c11:0≤(ji10)
         ·
          rw [if_pos c11] at H;have c11b0:=eq_true c11;have c11b1:=decide_eq_true c11;clear c11;obtain ⟨ji12,hji12⟩:∃ j_:Int,(shr .u64 (IntKind.u64.wrap ((IntKind.u64.wrap ((a0.size:Int))) * 8)) (ji10))=j_:=⟨_,rfl⟩;replace H:(if x3_2.length < 140737488355328 then (spec_Sum.l1 k2 (x3_2 ++ [(ji12) % 256]) (IntKind.u64.wrap ((IntKind.u64.wrap ((a0.size:Int))) * 8)) (wrap64 (x5_2 - 1))) else (none))=some r:=by first|(rw [hji12] at H;exact H)|(simp only [hji12] at H ⊢;exact H)
          have hji12_:((IntKind.u64.wrap ((IntKind.u64.wrap ((a0.size:Int))) * 8)) / 2 ^ min (ji10).toNat 64)=ji12:=hji12;have hji12z:(ji10)≤64→((IntKind.u64.wrap ((IntKind.u64.wrap ((a0.size:Int))) * 8)) / 2 ^ (ji10).toNat)=ji12:=shr_small hji12;by_cases c13:x3_2.length < 140737488355328
          ·
           rw [if_pos c13] at H;have LMc13:=aM c13;clear c13;obtain ⟨y169,hy169⟩:∃ y_:List Int,y_=(x3_2 ++ [(ji12) % 256]):=⟨_,rfl⟩;have hy_:=hy169;replace H:(spec_Sum.l1 k2 y169 (IntKind.u64.wrap ((IntKind.u64.wrap ((a0.size:Int))) * 8)) (wrap64 (x5_2 - 1)))=some r:=hyE;clear hy_;have Ny169:=aM hy169;clear hy169;have H':=aM H;clear H
           go_wp2_with (first|((with_reducible refine gate_builtin (b:=.append) (xs:=#[.tmp 28,.tmp 35]) rfl ?_);at_builtin;refine Kd.R_append (Kd.int .u8) (w0:=w) w.heap.size rfl (.tmp 28) (.tmp 35) 22 5 (.int .u8 0) 1 rfl Try.underlying22 info5 rfl (by decide) (by omega) u3 x3_2 ((ji12) % 256) [.int .u8 ((ji12) % 256)] (fun _=>True) (fun _=>False) rfl rfl ?aP (fun _ hk=>hk.elim) ?aF ?aO ?aB ?aS ?aL ?_;(case aP=>exact rfl);(case aB=>exact zq3);(case aF=>exact zq79);(case aO=>exact zq107);(case aS=>exact zq429);(case aL=>have:=LMc13.out;omega);intro v170 w14 ho hb hg hat;rw [← Ny169.out] at ho;have n0_:=aM (hb);have n1_:=aM (ho);clear HB;clear HO_3;have HB:=n0_;have HO171:=n1_;clear n0_ n1_;clear ho hb hg hat))
           go_roundg k2
           case measure=>have:=HK1.out;have:=HK2.out;omega
           case rel=>exact ⟨(y169),(wrap64 (x5_2 - 1)),zq19,H',⟨zq80⟩,⟨by refine dR ?_;exact HO171.out⟩,⟨zq3⟩⟩
          exact zq520
         exact zq523
        rw [if_neg c9] at H;have c9b0:decide (0≤x5_2)=false:=decide_eq_false c9;clear c9;replace H:=Option.bind_eq_some_iff.mp H;obtain ⟨t172,A150,H⟩:=H;(try dsimp only at H);have A15:=aM A150;clear A150;obtain ⟨y175,hy175⟩:∃ y_:List Int,y_=(([1779033703,3144134277,1013904242,2773480762,1359893119,2600822924,528734635,1541459225]:List Int)):=⟨_,rfl⟩;have hy_:=hy175;replace H:(spec_Sum.l2 k2 x3_2 t172 y175 0)=some r:=hyE;clear hy_;have Ny175:=aM hy175;clear hy175;have H':=aM H;clear H
        go_wp2_with (first|((with_reducible refine gC 56 rfl ?_);refine gL 37 Try.func56 #[] ?_;(with_reducible refine (spec_l1K.calls  t172 _ A15.out).mono ?_);rintro e w16 ⟨v173,rfl,ho0,hb⟩;refine ⟨_,rfl,?_⟩;replace HO_3:=rG HO_3 hb;have HO174:=aM (Kd.R_lower ho0 (below_size zq3));replace HB:=sB zq3 hb;clear hb;(try clear ho0))|((with_reducible refine gD 38 rfl ?_);refine Kd.R_lit (Kd.int .u32) _ 62 ?hg (N:=38) ?hd (xs:=([1779033703,3144134277,1013904242,2773480762,1359893119,2600822924,528734635,1541459225]:List Int)) (inner:=[.int .u32 1779033703,.int .u32 3144134277,.int .u32 1013904242,.int .u32 2773480762,.int .u32 1359893119,.int .u32 2600822924,.int .u32 528734635,.int .u32 1541459225]) (ok:=fun _=>True) (okp:=fun _=>True) ?hr ?hp (fun _ hk=>hk) trivial (Below.refl _ _) (Nat.le_refl _) (by simp) ?_;(case hd=>rfl);(case hg=>rfl);(case hr=>exact zq340);(case hp=>exact (Reps.one (show Kd.M (Kd.int .u32) _ _ _ 1779033703 [.int .u32 1779033703] from rfl) (Reps.one (show Kd.M (Kd.int .u32) _ _ _ 3144134277 [.int .u32 3144134277] from rfl) (Reps.one (show Kd.M (Kd.int .u32) _ _ _ 1013904242 [.int .u32 1013904242] from rfl) (Reps.one (show Kd.M (Kd.int .u32) _ _ _ 2773480762 [.int .u32 2773480762] from rfl) (Reps.one (show Kd.M (Kd.int .u32) _ _ _ 1359893119 [.int .u32 1359893119] from rfl) (Reps.one (show Kd.M (Kd.int .u32) _ _ _ 2600822924 [.int .u32 2600822924] from rfl) (Reps.one (show Kd.M (Kd.int .u32) _ _ _ 528734635 [.int .u32 528734635] from rfl) (Reps.one (show Kd.M (Kd.int .u32) _ _ _ 1541459225 [.int .u32 1541459225] from rfl) (Reps.none _ _))))))))));intro v176 w17 ho18 hb hg_ hnew_;clear hg_ hnew_;(first | rw [← Ny175.out] at ho18|(simp only [Int.reduceToNat] at ho18;rw [← Ny175.out] at ho18));replace HO_3:=rG HO_3 hb;have HO177:=aM (Kd.R_lower (Kd.R_new' ho18 (Kd.R_lt zq347)) (below_size zq3));replace HO174:=aM (Kd.R_elder' zq347 (Kd.R_base ho18) hb);replace HB:=sB zq3 hb;clear hb ho18))
        go_loopg [7,8] k2 (fun kq v7 v8 w'=>∃ (x7_3:List Int) (x8_3:Int),v8 = .int .i64 x8_3∧Aside0 (spec_Sum.l2 kq x3_2 t172 x7_3 x8_3=some r)∧Aside0 (kq≤k2)∧Aside0 (Kd.R (Kd.int .u8) 5 w' w.heap.size (fun _=>True) u3 x3_2)∧Aside0 (Kd.R (Kd.int .u32) 62 w' w.heap.size (fun k_=>some k_≠(v7:Value).ownBlock) v173 t172)∧Aside0 (Kd.R (Kd.int .u32) 62 w' w.heap.size (fun k_=>some k_≠(v173:Value).ownBlock) v7 x7_3)∧Aside0 (Below w.heap.size w w'))
        case atStart=>exact ⟨(y175),(0),zq19,H',⟨Nat.le_refl _⟩,⟨zq107⟩,⟨by refine dR ?_;first | exact Kd.R_mono HO174.out (fun _ hk=>hk.2)|(have h_:=Kd.R_mono HO174.out (fun _ hk=>hk.2);simp only [Int.emod_add_emod,Int.add_emod_emod] at h_ ⊢;exact h_)⟩,⟨by refine dR ?_;first | exact Kd.R_mono HO177.out (fun _ hk=>hk.2)|(have h_:=Kd.R_mono HO177.out (fun _ hk=>hk.2);simp only [Int.emod_add_emod,Int.add_emod_emod] at h_ ⊢;exact h_)⟩,⟨zq3⟩⟩
        case round =>
         clear H';(try clear c2b0);(try clear c2b1);(try clear c7b0);(try clear c7b1);(try clear c9b0);obtain ⟨x7_3,x8_3,rfl,HA,HK3,HO_3,HO_6,HO_7,HB⟩:=hrel
         cases gk with
         | zero=>exact absurd HA.out (by simp [spec_Sum.l2])
         | succ k3 =>
          have H:=HA.out;clear HA;simp only [spec_Sum.l2] at H;by_cases c19:x8_3 < (x3_2.length:Int)
          ·
           rw [if_pos c19] at H;have c19b0:=decide_eq_true c19;clear c19;by_cases c20:0≤x8_3
           ·
            rw [if_pos c20] at H;have c20b0:=eq_true c20;have c20b1:=decide_eq_true c20;clear c20;by_cases c21:x8_3≤(wrap64 (x8_3 + 64))
            ·
             rw [if_pos c21] at H;have c21b0:=eq_true c21;have c21b1:=decide_eq_true c21;by_cases c22:(wrap64 (x8_3 + 64))≤(x3_2.length:Int)
             ·
              rw [if_pos c22] at H;have c22b0:=eq_true c22;have c22b1:=decide_eq_true c22;obtain ⟨y178,hy178⟩:∃ y_:List Int,y_=((x3_2.take ((wrap64 (x8_3 + 64)):Int).toNat).drop (x8_3:Int).toNat):=⟨_,rfl⟩;have hy_:=hy178;replace H:((spec_l1Block.f k3 x7_3 t172 y178).bind fun t182=>(spec_Sum.l2 k3 x3_2 t172 t182 (wrap64 (x8_3 + 64))))=some r:=hyE;clear hy_;have Ny178:=aM hy178;clear hy178;replace H:=Option.bind_eq_some_iff.mp H;obtain ⟨t182,A230,H⟩:=H;(try dsimp only at H);have A23:=aM A230;clear A230;have H':=aM H;clear H;obtain ⟨Ao24,co24,eo24⟩:=Kd.R_slice HO_3.out;subst eo24;have q25:((wrap64 (x8_3 + 64)):Int)≤((x3_2.length:Int):Int):=of_decide_eq_true zq34;obtain ⟨i025,hi025,_,hsz25,_⟩:=info_parts info5;have hroom25:x3_2.length≤co24:=(Kd.R_reads' HO_3.out).2.1;have hC25:Kd.C (Kd.int .u8) _ Ao24 x3_2.length x3_2:=(Kd.R_reads' HO_3.out).2.2;have ql25:(x8_3:Int)≤((wrap64 (x8_3 + 64)):Int):=of_decide_eq_true zq34;have q025:(0:Int)≤(x8_3:Int):=of_decide_eq_true zq34;have hcut25:=cut_mid (P:=Try.prog) 22 5 .i64 .i64 Try.underlying22 hi025 1 hsz25 Ao24 x3_2.length co24 x8_3 (wrap64 (x8_3 + 64)) q025 ql25 q25 hroom25;have hr25:=Kd.C_mid (lo:=(x8_3:Int).toNat) (hi:=((wrap64 (x8_3 + 64)):Int).toNat) (c:=co24) hC25 (by omega) (by omega) hroom25
              obtain ⟨A25,hA25⟩:∃ A1,A1=(if co24=(x8_3:Int).toNat then Ao24 else (Ao24:Option Addr).map (·.add ((x8_3:Int).toNat * 1))):=⟨_,rfl⟩;obtain ⟨c25,hc25⟩:∃ c1,c1=co24 - (x8_3:Int).toNat:=⟨_,rfl⟩;have hy25:y178.length=((wrap64 (x8_3 + 64)):Int).toNat - (x8_3:Int).toNat:=(by rw [Ny178.out,List.length_drop,List.length_take] <;> omega);rw [show ((x3_2).take ((wrap64 (x8_3 + 64)):Int).toNat).drop (x8_3:Int).toNat=y178 from Ny178.out.symm] at hr25;replace hr25:Kd.C (Kd.int .u8) _ A25 y178.length y178:=(by rw [hA25];exact hr25);rw [← hy25,← hA25,← hc25] at hcut25;have HR181:=aM hr25;have HC181:=aM (show y178.length≤c25 from by rw [hy25,hc25];exact Nat.sub_le_sub_right (Nat.le_trans (by omega) hroom25) _);clear hr25 hC25 hroom25 hi025 hsz25 hc25;have KY25:=aM hy25;have KA25:=aM hA25;clear hy25 hA25;have KL25:=aM (show ((wrap64 (x8_3 + 64)):Int).toNat≤x3_2.length from by omega);have KM25:=aM (show (x8_3:Int).toNat≤((wrap64 (x8_3 + 64)):Int).toNat from by omega);replace q25:=eq_true q25;obtain ⟨Ao26,co26,eo26⟩:=Kd.R_slice HO_7.out;subst eo26;obtain ⟨Ao27,co27,eo27⟩:=Kd.R_slice HO_6.out;subst eo27
              go_wp2_with (first|((with_reducible refine gC 57 rfl ?_);refine gL 52 Try.func57 #[.slice Ao26 x7_3.length co26,.slice Ao27 t172.length co27,.slice A25 y178.length c25] ?_;(with_reducible refine (spec_l1Block.calls k3 _ _ x7_3 _ _ t172 _ _ y178 t182 _ ?side1 ?_ ?side3 ?_ ?side5 ?_ A23.out).mono ?_);(case side1=>repeat (first | exact (Kd.R_reads' HO_7.out).2.2|(with_reducible refine Kd.C_alloc ?_ _)|(with_reducible refine Kd.C_drewN ?_ _)|(with_reducible refine Kd.C_drew ?_)));exact (Kd.R_reads' HO_7.out).2.1;(case side3=>repeat (first | exact (Kd.R_reads' HO_6.out).2.2|(with_reducible refine Kd.C_alloc ?_ _)|(with_reducible refine Kd.C_drewN ?_ _)|(with_reducible refine Kd.C_drew ?_)));exact (Kd.R_reads' HO_6.out).2.1;(case side5=>repeat (first | exact zq348|(with_reducible refine Kd.C_alloc ?_ _)|(with_reducible refine Kd.C_drewN ?_ _)|(with_reducible refine Kd.C_drew ?_)));exact HC181.out;rintro e w28 ⟨v183,rfl,ho0,hb⟩;refine ⟨_,rfl,?_⟩;replace HO_3:=rG HO_3 hb;have HO184:=aM (Kd.R_lower (Kd.R_new' (Kd.R_new' ho0 (Kd.R_lt zq349)) (Kd.R_lt zq342)) (below_size zq3));replace HO_6:=aM (Kd.R_elder' zq349 (Kd.R_base ho0) hb);replace HO_7:=aM (Kd.R_elder' zq342 (Kd.R_base ho0) hb);replace HR181:=aM (Kd.C_below zq348 hb);replace HB:=sB zq3 hb;clear hb;(try clear ho0)))
              go_roundg k3
              case measure=>have:=HK1.out;have:=HK2.out;have:=HK3.out;omega
              case rel=>exact ⟨(t182),(wrap64 (x8_3 + 64)),zq19,H',⟨by have:=HK1.out;have:=HK2.out;have:=HK3.out;omega⟩,⟨zq107⟩,⟨by refine dR ?_;first | exact Kd.R_mono HO_6.out (fun _ hk=>hk.2)|(have h_:=Kd.R_mono HO_6.out (fun _ hk=>hk.2);simp only [Int.emod_add_emod,Int.add_emod_emod] at h_ ⊢;exact h_)⟩,⟨by refine dR ?_;first | exact Kd.R_mono HO184.out (fun _ hk=>hk.1.2)|(have h_:=Kd.R_mono HO184.out (fun _ hk=>hk.1.2);simp only [Int.emod_add_emod,Int.add_emod_emod] at h_ ⊢;exact h_)⟩,⟨zq3⟩⟩
             exact zq519
            rw [if_neg c21] at H;exact absurd H (by simp)
           rw [if_neg c20] at H;exact absurd H (by simp)
          rw [if_neg c19] at H;have c19b0:=decide_eq_false c19;clear c19;obtain rfl:=Option.some.inj H;obtain ⟨Ao29,co29,eo29⟩:=Kd.R_slice HO_3.out;subst eo29;go_wp2;go_ret;exact ⟨_,zq24,by refine dR ?_;first | exact Kd.R_mono HO_7.out (fun _ hk=>trivial)|(have h_:=Kd.R_mono HO_7.out (fun _ hk=>trivial);simp only [Int.emod_add_emod,Int.add_emod_emod] at h_ ⊢;exact h_),zq3⟩
     rw [if_neg c7] at H;have c7b0:(((x3_1.length:Int) % 64) == 56)=false:=beq_eq_false_iff_ne.mpr c7;have c7b1:(((x3_1.length:Int) % 64) != 56)=true:=bne_iff_ne.mpr c7;by_cases c30:x3_1.length < 140737488355328
     ·
      rw [if_pos c30] at H;have LMc30:=aM c30;clear c30;obtain ⟨y166,hy166⟩:∃ y_:List Int,y_=(x3_1 ++ [0]):=⟨_,rfl⟩;have hy_:=hy166;replace H:(spec_Sum.l0 k1 a0 y166)=some r:=hyE;clear hy_;have Ny166:=aM hy166;clear hy166;have H':=aM H;clear H;obtain ⟨Ao31,co31,eo31⟩:=Kd.R_slice HO_3.out;subst eo31
      go_wp2_with (first|((with_reducible refine gate_builtin (b:=.append) (xs:=#[.tmp 17,.tmp 18]) rfl ?_);at_builtin;refine Kd.R_append (Kd.int .u8) (w0:=w) w.heap.size rfl (.tmp 17) (.tmp 18) 22 5 (.int .u8 0) 1 rfl Try.underlying22 info5 rfl (by decide) (by omega) (.slice Ao31 x3_1.length co31) x3_1 0 [.int .u8 0] (fun _=>True) (fun _=>False) rfl rfl ?aP (fun _ hk=>hk.elim) ?aF ?aO ?aB ?aS ?aL ?_;(case aP=>exact rfl);(case aB=>exact zq3);(case aF=>exact zq79);(case aO=>exact zq107);(case aS=>exact zq429);(case aL=>have:=LMc30.out;omega);intro v167 w32 ho hb hg hat;rw [← Ny166.out] at ho;have n0_:=aM (hb);have n1_:=aM (ho);clear HB;clear HO_3;have HB:=n0_;have HO168:=n1_;clear n0_ n1_;clear ho hb hg hat))
      go_roundg k1
      case measure=>have:=HK1.out;omega
      case rel=>exact ⟨(y166),H',⟨zq43⟩,⟨by refine dR ?_;exact HO168.out⟩,⟨zq3⟩⟩
     exact zq528
  exact zq514
 rw [if_neg c2] at H;exact absurd H (by simp)
def spec_l1Hex.l0:Nat→Int→List Int→Int→Option (ByteArray)
 | 0,_,_,_=>none
 | k + 1,x0,x3,x4=>if x4≥0 then (if 0≤(IntKind.u64.wrap (wrap64 (4 * x4))) then (if 0≤(Go.bits .and .u32 (shr .u32 x0 (IntKind.u64.wrap (wrap64 (4 * x4)))) 15) then (if (Go.bits .and .u32 (shr .u32 x0 (IntKind.u64.wrap (wrap64 (4 * x4)))) 15) < 16 then (if x3.length < 140737488355328 then (spec_l1Hex.l0 k x0 (x3 ++ [bt (⟨#[48,49,50,51,52,53,54,55,56,57,97,98,99,100,101,102]⟩:ByteArray) (Go.bits .and .u32 (shr .u32 x0 (IntKind.u64.wrap (wrap64 (4 * x4)))) 15)]) (wrap64 (x4 - 1))) else (none)) else (none)) else (none)) else (none)) else (some (strOfNums x3))
def spec_l1Hex.f (k:Nat) (a0:Int):Option (ByteArray):=spec_l1Hex.l0 k a0 (([]:List Int)) 7
theorem spec_l1Hex.mono_l:∀ k,(∀ y0 y1 y2,LeO (spec_l1Hex.l0 k y0 y1 y2) (spec_l1Hex.l0 (k + 1) y0 y1 y2))
 | 0=>fun _ _ _ r h=>by simp [spec_l1Hex.l0] at h
 | k + 1=>by
  have ih0:=spec_l1Hex.mono_l k
  ·
   intro y0 y1 y2;unfold spec_l1Hex.l0
   with_reducible repeat' first | apply ih0 | exact LeO.refl _ | exact LeO.none _ | refine LeO.ite ?_ ?_ | refine LeO.bind ?_ (fun _=>?_)
theorem spec_l1Hex.mono:∀ a0 k,LeO (spec_l1Hex.f k a0) (spec_l1Hex.f (k + 1) a0):=by
 intro a0 k;have ih0:=spec_l1Hex.mono_l k;unfold spec_l1Hex.f
 with_reducible repeat' first | apply ih0 | exact LeO.refl _ | exact LeO.none _ | refine LeO.ite ?_ ?_ | refine LeO.bind ?_ (fun _=>?_)
theorem spec_l1Hex.calls (k:Nat) (a0:Int) (r:ByteArray) (w:World) (h:spec_l1Hex.f k a0=some r) :
  Calls Try.prog 34 #[.int .u32 a0] w fun e w'=>e = .returned (.string r)∧Below w.heap.size w w':=by
 have HB:=aM (Below.refl w.heap.size w);unfold spec_l1Hex.f at h;have H:=h;clear h;obtain ⟨y185,hy185⟩:∃ y_:List Int,y_=(([]:List Int)):=⟨_,rfl⟩;have hy_:=hy185;replace H:(spec_l1Hex.l0 k a0 y185 7)=some r:=hyE;clear hy_;have Ny185:=aM hy185;clear hy185;have H':=aM H;clear H;go_enter Try.func34,Try.ntmps34
 go_wp2_with (first|((with_reducible refine gD 5 rfl ?_);refine Kd.R_lit (Kd.int .u8) _ 5 ?hg (N:=5) ?hd (xs:=([]:List Int)) (inner:=[]) (ok:=fun _=>True) (okp:=fun _=>True) ?hr ?hp (fun _ hk=>hk) trivial (Below.refl _ _) (Nat.le_refl _) (by simp) ?_;(case hd=>rfl);(case hg=>rfl);(case hr=>exact zq2);(case hp=>exact zq108);intro v186 w2 ho3 hb hg_ hnew_;clear hg_ hnew_;(first | rw [← Ny185.out] at ho3|(simp only [Int.reduceToNat] at ho3;rw [← Ny185.out] at ho3));have HO187:=aM (Kd.R_lower ho3 (below_size zq3));replace HB:=sB zq3 hb;clear hb ho3))
 go_loopg [3,4] k (fun kq v3 v4 w'=>∃ (x3_1:List Int) (x4_1:Int),v4 = .int .i64 x4_1∧Aside0 (spec_l1Hex.l0 kq a0 x3_1 x4_1=some r)∧Aside0 (kq≤k)∧Aside0 (Kd.R (Kd.int .u8) 5 w' w.heap.size (fun _=>True) v3 x3_1)∧Aside0 (Below w.heap.size w w'))
 case atStart=>exact ⟨(y185),(7),zq19,H',⟨Nat.le_refl _⟩,⟨by refine dR ?_;exact HO187.out⟩,⟨zq3⟩⟩
 case round =>
  clear H';obtain ⟨x3_1,x4_1,rfl,HA,HK1,HO_3,HB⟩:=hrel
  cases gk with
  | zero=>exact absurd HA.out (by simp [spec_l1Hex.l0])
  | succ k1 =>
   have H:=HA.out;clear HA;simp only [spec_l1Hex.l0] at H;by_cases c4:x4_1≥0
   ·
    rw [if_pos c4] at H;have c4b0:decide (0≤x4_1)=true:=decide_eq_true c4;clear c4;obtain ⟨ji5,hji5⟩:∃ j_:Int,(IntKind.u64.wrap (wrap64 (4 * x4_1)))=j_:=⟨_,rfl⟩;replace H:(if 0≤(ji5) then (if 0≤(Go.bits .and .u32 (shr .u32 a0 (ji5)) 15) then (if (Go.bits .and .u32 (shr .u32 a0 (ji5)) 15) < 16 then (if x3_1.length < 140737488355328 then (spec_l1Hex.l0 k1 a0 (x3_1 ++ [bt (⟨#[48,49,50,51,52,53,54,55,56,57,97,98,99,100,101,102]⟩:ByteArray) (Go.bits .and .u32 (shr .u32 a0 (ji5)) 15)]) (wrap64 (x4_1 - 1))) else (none)) else (none)) else (none)) else (none))=some r:=by first|(rw [hji5] at H;exact H)|(simp only [hji5] at H ⊢;exact H)
    by_cases c6:0≤(ji5)
    ·
     rw [if_pos c6] at H;have c6b0:=eq_true c6;have c6b1:=decide_eq_true c6;clear c6;obtain ⟨ji7,hji7⟩:∃ j_:Int,(shr .u32 a0 (ji5))=j_:=⟨_,rfl⟩;replace H:(if 0≤(Go.bits .and .u32 (ji7) 15) then (if (Go.bits .and .u32 (ji7) 15) < 16 then (if x3_1.length < 140737488355328 then (spec_l1Hex.l0 k1 a0 (x3_1 ++ [bt (⟨#[48,49,50,51,52,53,54,55,56,57,97,98,99,100,101,102]⟩:ByteArray) (Go.bits .and .u32 (ji7) 15)]) (wrap64 (x4_1 - 1))) else (none)) else (none)) else (none))=some r:=by first|(rw [hji7] at H;exact H)|(simp only [hji7] at H ⊢;exact H)
     have hji7_:(a0 / 2 ^ min (ji5).toNat 32)=ji7:=hji7;have hji7z:(ji5)≤32→(a0 / 2 ^ (ji5).toNat)=ji7:=shr_small hji7;by_cases c8:0≤(Go.bits .and .u32 (ji7) 15)
     ·
      rw [if_pos c8] at H;have c8b0:=decide_eq_true c8;clear c8;by_cases c9:(Go.bits .and .u32 (ji7) 15) < 16
      ·
       rw [if_pos c9] at H;have c9b0:=decide_eq_true c9;clear c9;by_cases c11:x3_1.length < 140737488355328
       ·
        rw [if_pos c11] at H;have LMc11:=aM c11;clear c11;obtain ⟨y188,hy188⟩:∃ y_:List Int,y_=(x3_1 ++ [bt (⟨#[48,49,50,51,52,53,54,55,56,57,97,98,99,100,101,102]⟩:ByteArray) (Go.bits .and .u32 (ji7) 15)]):=⟨_,rfl⟩;have hy_:=hy188;replace H:(spec_l1Hex.l0 k1 a0 y188 (wrap64 (x4_1 - 1)))=some r:=hyE;clear hy_;have Ny188:=aM hy188;clear hy188;have H':=aM H;clear H;have p10:0≤((Go.bits .and .u32 (ji7) 15):Int):=of_decide_eq_true zq34;have q10:(Go.bits .and .u32 (ji7) 15) < (16:Int):=of_decide_eq_true zq34;have hx10:=bt_at (⟨#[48,49,50,51,52,53,54,55,56,57,97,98,99,100,101,102]⟩:ByteArray) (Go.bits .and .u32 (ji7) 15);replace p10:=eq_true p10;replace q10:=eq_true q10
        go_wp2_with (first|((with_reducible refine gate_builtin (b:=.append) (xs:=#[.tmp 10,.tmp 18]) rfl ?_);at_builtin;refine Kd.R_append (Kd.int .u8) (w0:=w) w.heap.size rfl (.tmp 10) (.tmp 18) 22 5 (.int .u8 0) 1 rfl Try.underlying22 info5 rfl (by decide) (by omega) u3 x3_1 (bt (⟨#[48,49,50,51,52,53,54,55,56,57,97,98,99,100,101,102]⟩:ByteArray) (Go.bits .and .u32 (ji7) 15)) [.int .u8 (bt (⟨#[48,49,50,51,52,53,54,55,56,57,97,98,99,100,101,102]⟩:ByteArray) (Go.bits .and .u32 (ji7) 15))] (fun _=>True) (fun _=>False) rfl rfl ?aP (fun _ hk=>hk.elim) ?aF ?aO ?aB ?aS ?aL ?_;(case aP=>exact rfl);(case aB=>exact zq3);(case aF=>exact zq79);(case aO=>exact zq107);(case aS=>exact zq429);(case aL=>have:=LMc11.out;omega);intro v189 w12 ho hb hg hat;rw [← Ny188.out] at ho;have n0_:=aM (hb);have n1_:=aM (ho);clear HB;clear HO_3;have HB:=n0_;have HO190:=n1_;clear n0_ n1_;clear ho hb hg hat))
        go_roundg k1
        case measure=>have:=HK1.out;omega
        case rel=>exact ⟨(y188),(wrap64 (x4_1 - 1)),zq19,H',⟨zq43⟩,⟨by refine dR ?_;exact HO190.out⟩,⟨zq3⟩⟩
       exact zq523
      rw [if_neg c9] at H;exact absurd H (by simp)
     exact zq515
    exact zq511
   rw [if_neg c4] at H;have c4b0:decide (0≤x4_1)=false:=decide_eq_false c4;clear c4;obtain rfl:=Option.some.inj H;have hcv13:=own_string (P:=Try.prog) Try.underlying22 Try.underlying5 Try.underlying9 (Kd.own_of_R HO_3.out);go_wp2;go_ret;exact ⟨zq24,zq3⟩
def spec_Digest.l0:Nat→List Int→ByteArray→Int→Option (ByteArray)
 | 0,_,_,_=>none
 | k + 1,x3,x4,x5=>if x5 < 8 then (if 0≤x5 then (if x5 < (x3.length:Int) then ((spec_l1Hex.f k (rd x3 x5)).bind fun t195=>(if x4.size + t195.size≤9223372036854775807 then (spec_Digest.l0 k x3 (x4 ++ t195) (wrap64 (x5 + 1))) else (none))) else (none)) else (none)) else (some x4)
def spec_Digest.f (k:Nat) (a0:ByteArray):Option (ByteArray):=(spec_Sum.f k a0).bind fun t191=>(spec_Digest.l0 k t191 (⟨#[115,104,97,50,53,54,58]⟩:ByteArray) 0)
theorem spec_Digest.mono_l:∀ k,(∀ y0 y1 y2,LeO (spec_Digest.l0 k y0 y1 y2) (spec_Digest.l0 (k + 1) y0 y1 y2))
 | 0=>fun _ _ _ r h=>by simp [spec_Digest.l0] at h
 | k + 1=>by
  have ih0:=spec_Digest.mono_l k
  ·
   intro y0 y1 y2;unfold spec_Digest.l0
   with_reducible repeat' first | apply ih0 | apply spec_Sum.mono | apply spec_l1Hex.mono | exact LeO.refl _ | exact LeO.none _ | refine LeO.ite ?_ ?_ | refine LeO.bind ?_ (fun _=>?_)
theorem spec_Digest.mono:∀ a0 k,LeO (spec_Digest.f k a0) (spec_Digest.f (k + 1) a0):=by
 intro a0 k;have ih0:=spec_Digest.mono_l k;unfold spec_Digest.f
 with_reducible repeat' first | apply ih0 | apply spec_Sum.mono | apply spec_l1Hex.mono | exact LeO.refl _ | exact LeO.none _ | refine LeO.ite ?_ ?_ | refine LeO.bind ?_ (fun _=>?_)
theorem spec_Digest.calls (k:Nat) (a0:ByteArray) (r:ByteArray) (w:World) (h:spec_Digest.f k a0=some r) :
  Calls Try.prog 10 #[.string a0] w fun e w'=>e = .returned (.string r)∧Below w.heap.size w w':=by
 have HB:=aM (Below.refl w.heap.size w);unfold spec_Digest.f at h;have H:=h;clear h;replace H:=Option.bind_eq_some_iff.mp H;obtain ⟨t191,A20,H⟩:=H;(try dsimp only at H);have A2:=aM A20;clear A20;have H':=aM H;clear H;go_enter Try.func10,Try.ntmps10
 go_wp2_with (first|((with_reducible refine gC 33 rfl ?_);refine gL 7 Try.func33 #[.string a0] ?_;(with_reducible refine (spec_Sum.calls k a0 t191 _ A2.out).mono ?_);rintro e w3 ⟨v192,rfl,ho0,hb⟩;refine ⟨_,rfl,?_⟩;have HO193:=aM (Kd.R_lower ho0 (below_size zq3));replace HB:=sB zq3 hb;clear hb;(try clear ho0)))
 go_loopg [4,5] k (fun kq v4 v5 w'=>∃ (x4_1:ByteArray) (x5_1:Int),v4 = .string x4_1∧v5 = .int .i64 x5_1∧Aside0 (spec_Digest.l0 kq t191 x4_1 x5_1=some r)∧Aside0 (kq≤k)∧Aside0 (Kd.R (Kd.int .u32) 62 w' w.heap.size (fun _=>True) v192 t191)∧Aside0 (Below w.heap.size w w'))
 case atStart=>exact ⟨((⟨#[115,104,97,50,53,54,58]⟩:ByteArray)),(0),zq19,zq19,H',⟨Nat.le_refl _⟩,⟨by refine dR ?_;first | exact HO193.out|(have h_:=HO193.out;simp only [Int.emod_add_emod,Int.add_emod_emod] at h_ ⊢;exact h_)⟩,⟨zq3⟩⟩
 case round =>
  clear H';obtain ⟨x4_1,x5_1,rfl,rfl,HA,HK1,HO_3,HB⟩:=hrel
  cases gk with
  | zero=>exact absurd HA.out (by simp [spec_Digest.l0])
  | succ k1 =>
   have H:=HA.out;clear HA;simp only [spec_Digest.l0] at H;by_cases c4:x5_1 < 8
   ·
    rw [if_pos c4] at H;have c4b0:=decide_eq_true c4;clear c4;by_cases c5:0≤x5_1
    ·
     rw [if_pos c5] at H;have c5b0:=decide_eq_true c5;clear c5;by_cases c6:x5_1 < (t191.length:Int)
     ·
      rw [if_pos c6] at H;have c6b0:=decide_eq_true c6;clear c6;replace H:=Option.bind_eq_some_iff.mp H;obtain ⟨t195,A70,H⟩:=H;(try dsimp only at H);have A7:=aM A70;clear A70;by_cases c8:x4_1.size + t195.size≤9223372036854775807
      ·
       rw [if_pos c8] at H;have c8b0:=eq_true c8;have c8b1:=decide_eq_true c8
       try have c8b2:(9223372036854775807 < x4_1.size + t195.size)=False:=eq_false (Nat.not_lt.2 c8)
       have H':=aM H;clear H;obtain ⟨Ao9,co9,eo9⟩:=Kd.R_slice HO_3.out;subst eo9;have p194:0≤(x5_1:Int):=of_decide_eq_true zq34;have q194:x5_1 < (t191.length:Int):=of_decide_eq_true zq34;obtain ⟨ad194,e194,hx194_0⟩:=Kd.at_int (Kd.R_reads' HO_3.out).2.2 x5_1 p194 q194;cases e194;replace p194:=eq_true p194;replace q194:=eq_true q194
       go_wp2_with (first|((with_reducible refine gC 34 rfl ?_);refine gL 17 Try.func34 #[.int .u32 (rd t191 x5_1)] ?_;(with_reducible refine (spec_l1Hex.calls k1 (rd t191 x5_1) t195 _ A7.out).mono ?_);rintro e w10 ⟨rfl,hb⟩;refine ⟨_,rfl,?_⟩;replace HO_3:=rB zq350 hb;replace HB:=sB zq3 hb;clear hb))
       go_roundg k1
       case measure=>have:=HK1.out;omega
       case rel=>exact ⟨(x4_1 ++ t195),(wrap64 (x5_1 + 1)),zq19,zq19,H',⟨zq43⟩,⟨zq350⟩,⟨zq3⟩⟩
      exact zq515
     exact zq511
    exact zq512
   rw [if_neg c4] at H;have c4b0:=decide_eq_false c4;clear c4;obtain rfl:=Option.some.inj H;go_wp2;go_ret;exact ⟨zq24,zq3⟩
def spec_l1In.f (a0:Int) (a1:Int) (a2:Int):Option (Bool):=if a0≥a1 then (some (decide (a0≤a2))) else (some false)
theorem spec_l1In.calls (a0:Int) (a1:Int) (a2:Int) (r:Bool) (w:World) (h:spec_l1In.f a0 a1 a2=some r) :
  Calls Try.prog 49 #[.int .i64 a0,.int .i64 a1,.int .i64 a2] w fun e w'=>e = .returned (.bool r)∧Drawn0 w w':=by
 unfold spec_l1In.f at h;have H:=h;clear h;by_cases c4:a0≥a1
 ·
  rw [if_pos c4] at H;have c4b0:decide (a1≤a0)=true:=decide_eq_true c4;clear c4;obtain rfl:=Option.some.inj H;go_enter Try.func49,Try.ntmps49;go_wp2;go_ret;exact ⟨zq19,zq104⟩
 rw [if_neg c4] at H;have c4b0:decide (a1≤a0)=false:=decide_eq_false c4;clear c4;obtain rfl:=Option.some.inj H;go_enter Try.func49,Try.ntmps49;go_wp2;go_ret;exact ⟨zq19,zq104⟩
mutual
def spec_l6Used.l0:Nat→Int→Int→Int→List (S56)→List (S58)→Int→Option (Int)
 | 0,_,_,_,_,_,_=>none
 | k + 1,x3,x4,x197000,x197001,x197002,x197003=>if x4 < (x197001.length:Int) then (if 0≤x4 then (spec_l6Used.l0 k (wrap64 (x3 + (((rd_T56 x197001 x4).f1).size:Int))) (wrap64 (x4 + 1)) x197000 x197001 x197002 x197003) else (none)) else (spec_l6Used.l1 k x3 0 x197000 x197001 x197002 x197003)
def spec_l6Used.l1:Nat→Int→Int→Int→List (S56)→List (S58)→Int→Option (Int)
 | 0,_,_,_,_,_,_=>none
 | k + 1,x3,x5,x197000,x197001,x197002,x197003=>if x5 < (x197002.length:Int) then (if 0≤x5 then (spec_l6Used.l1 k (wrap64 (x3 + (((rd_T58 x197002 x5).f1).size:Int))) (wrap64 (x5 + 1)) x197000 x197001 x197002 x197003) else (none)) else (some x3)
end
def spec_l6Used.f (k:Nat) (a0_0:Int) (l0_1:List (S56)) (l0_2:List (S58)) (a0_3:Int):Option (Int):=spec_l6Used.l0 k 0 0 a0_0 l0_1 l0_2 a0_3
theorem spec_l6Used.mono_l:∀ k,(∀ y0 y1 y2 y3 y4 y5,LeO (spec_l6Used.l0 k y0 y1 y2 y3 y4 y5) (spec_l6Used.l0 (k + 1) y0 y1 y2 y3 y4 y5))∧(∀ y0 y1 y2 y3 y4 y5,LeO (spec_l6Used.l1 k y0 y1 y2 y3 y4 y5) (spec_l6Used.l1 (k + 1) y0 y1 y2 y3 y4 y5))
 | 0=>⟨fun _ _ _ _ _ _ r h=>by simp [spec_l6Used.l0] at h,fun _ _ _ _ _ _ r h=>by simp [spec_l6Used.l1] at h⟩
 | k + 1=>by
  obtain ⟨ih0,ih1⟩:=spec_l6Used.mono_l k;refine ⟨?_,?_⟩ <;> (intros;first | unfold spec_l6Used.l0 | unfold spec_l6Used.l1)
  all_goals with_reducible repeat' first | apply ih0 | apply ih1 | exact LeO.refl _ | exact LeO.none _ | refine LeO.ite ?_ ?_ | refine LeO.bind ?_ (fun _=>?_)
theorem spec_l6Used.mono:∀ a0 a1 a2 a3 k,LeO (spec_l6Used.f k a0 a1 a2 a3) (spec_l6Used.f (k + 1) a0 a1 a2 a3):=by
 intro a0 a1 a2 a3 k;obtain ⟨ih0,ih1⟩:=spec_l6Used.mono_l k;unfold spec_l6Used.f
 with_reducible repeat' first | apply ih0 | apply ih1 | exact LeO.refl _ | exact LeO.none _ | refine LeO.ite ?_ ?_ | refine LeO.bind ?_ (fun _=>?_)
theorem spec_l6Used.calls (k:Nat) (a0_0:Int) (A0_1:Option Addr) (c0_1:Nat) (l0_1:List (S56)) (A0_2:Option Addr) (c0_2:Nat) (l0_2:List (S58)) (a0_3:Int) (r:Int) (w:World) (hr0_1:Kd.C k56 w A0_1 l0_1.length l0_1) (hc0_1:l0_1.length≤c0_1) (hr0_2:Kd.C k58 w A0_2 l0_2.length l0_2) (hc0_2:l0_2.length≤c0_2) (h:spec_l6Used.f k a0_0 l0_1 l0_2 a0_3=some r) :
  Calls Try.prog 50 #[.agg #[.int .i64 a0_0,.slice A0_1 l0_1.length c0_1,.slice A0_2 l0_2.length c0_2,.int .i64 a0_3]] w fun e w'=>e = .returned (.int .i64 r)∧Below w.heap.size w w':=by
 have hu27:=Try.underlying27;have HR0_1:=aM hr0_1;have HC0_1:=aM hc0_1;clear hr0_1 hc0_1;have HR0_2:=aM hr0_2;have HC0_2:=aM hc0_2;clear hr0_2 hc0_2;have HB:=aM (Below.refl w.heap.size w);unfold spec_l6Used.f at h;have H:=h;clear h;have H':=aM H;clear H;go_enter Try.func50,Try.ntmps50
 go_wp2_with (first|((with_reducible refine gD 1 rfl ?_);refine bE 1 #[.int .i64 a0_0,.slice A0_1 l0_1.length c0_1,.slice A0_2 l0_2.length c0_2,.int .i64 a0_3] 27 ?_;intro gb196 hg w2 hbox hb;have BK196:=aM hbox;have GW196:=aM (zq402:w.heap.size≤gb196);have GE196:=GW196;replace HB:=sB zq3 hb;clear hb hbox hg))
 go_loopg [3,4] k (fun kq v3 v4 w'=>∃ (x3_1:Int) (x4_1:Int),v3 = .int .i64 x3_1∧v4 = .int .i64 x4_1∧Aside0 (spec_l6Used.l0 kq x3_1 x4_1 a0_0 l0_1 l0_2 a0_3=some r)∧Aside0 (kq≤k)∧Aside0 (w'.heap[gb196]?=some (.cells #[.int .i64 a0_0,(.slice A0_1 l0_1.length c0_1),(.slice A0_2 l0_2.length c0_2),.int .i64 a0_3] 27 (0,0)))∧Aside0 (Below w.heap.size w w'))
 case atStart=>exact ⟨(0),(0),zq19,zq19,H',⟨Nat.le_refl _⟩,⟨zq351⟩,⟨zq352⟩⟩
 case round =>
  clear H';obtain ⟨x3_1,x4_1,rfl,rfl,HA,HK1,BK196,HB⟩:=hrel
  cases gk with
  | zero=>exact absurd HA.out (by simp [spec_l6Used.l0])
  | succ k1 =>
   have H:=HA.out;clear HA;simp only [spec_l6Used.l0] at H;by_cases c3:x4_1 < (l0_1.length:Int)
   ·
    rw [if_pos c3] at H;have c3b0:=decide_eq_true c3;clear c3;by_cases c4:0≤x4_1
    ·
     rw [if_pos c4] at H;have c4b0:=decide_eq_true c4;clear c4;have H':=aM H;clear H;have hcz5:=cells4_ (w:=wr) BK196;have p197:0≤(x4_1:Int):=of_decide_eq_true zq34;have q197:x4_1 < (l0_1.length:Int):=of_decide_eq_true zq34;obtain ⟨ad197,e197,hx197_0,hx197_1⟩:=at_T56 HR0_1.out x4_1 p197 q197;cases e197;replace hx197_0:=hxB HB hx197_0;replace hx197_1:=hxB HB hx197_1;replace p197:=eq_true p197;replace q197:=eq_true q197;go_wp2
     go_roundg k1
     case measure=>have:=HK1.out;omega
     case rel=>exact ⟨(wrap64 (x3_1 + (((rd_T56 l0_1 x4_1).f1).size:Int))),(wrap64 (x4_1 + 1)),zq19,zq19,H',⟨zq43⟩,⟨zq351⟩,⟨zq352⟩⟩
    exact zq513
   rw [if_neg c3] at H;have c3b0:=decide_eq_false c3;clear c3;have H':=aM H;clear H;have hcz6:=cells4_ (w:=wr) BK196;go_wp2
   go_loopg [3,5] k1 (fun kq v3 v5 w'=>∃ (x3_2:Int) (x5_2:Int),v3 = .int .i64 x3_2∧v5 = .int .i64 x5_2∧Aside0 (spec_l6Used.l1 kq x3_2 x5_2 a0_0 l0_1 l0_2 a0_3=some r)∧Aside0 (kq≤k1)∧Aside0 (w'.heap[gb196]?=some (.cells #[.int .i64 a0_0,(.slice A0_1 l0_1.length c0_1),(.slice A0_2 l0_2.length c0_2),.int .i64 a0_3] 27 (0,0)))∧Aside0 (Below w.heap.size w w'))
   case atStart=>exact ⟨(x3_1),(0),zq19,zq19,H',⟨Nat.le_refl _⟩,⟨zq351⟩,⟨zq352⟩⟩
   case round =>
    clear H';(try clear c3b0);(try clear hcz6);obtain ⟨x3_2,x5_2,rfl,rfl,HA,HK2,BK196,HB⟩:=hrel
    cases gk with
    | zero=>exact absurd HA.out (by simp [spec_l6Used.l1])
    | succ k2 =>
     have H:=HA.out;clear HA;simp only [spec_l6Used.l1] at H;by_cases c7:x5_2 < (l0_2.length:Int)
     ·
      rw [if_pos c7] at H;have c7b0:=decide_eq_true c7;clear c7;by_cases c8:0≤x5_2
      ·
       rw [if_pos c8] at H;have c8b0:=decide_eq_true c8;clear c8;have H':=aM H;clear H;have hcz9:=cells4_ (w:=wr) BK196;have p198:0≤(x5_2:Int):=of_decide_eq_true zq34;have q198:x5_2 < (l0_2.length:Int):=of_decide_eq_true zq34;obtain ⟨ad198,e198,hx198_0,hx198_1⟩:=at_T58 HR0_2.out x5_2 p198 q198;cases e198;replace hx198_0:=hxB HB hx198_0;replace hx198_1:=hxB HB hx198_1;replace p198:=eq_true p198;replace q198:=eq_true q198;go_wp2
       go_roundg k2
       case measure=>have:=HK1.out;have:=HK2.out;omega
       case rel=>exact ⟨(wrap64 (x3_2 + (((rd_T58 l0_2 x5_2).f1).size:Int))),(wrap64 (x5_2 + 1)),zq19,zq19,H',⟨zq80⟩,⟨zq351⟩,⟨zq352⟩⟩
      exact zq515
     rw [if_neg c7] at H;have c7b0:=decide_eq_false c7;clear c7;obtain rfl:=Option.some.inj H;have hcz10:=cells4_ (w:=wr) BK196;go_wp2;go_ret;exact ⟨zq24,zq352⟩
end Go.Proofs.Ytldpdaifajjaeaa.QFnChunked
