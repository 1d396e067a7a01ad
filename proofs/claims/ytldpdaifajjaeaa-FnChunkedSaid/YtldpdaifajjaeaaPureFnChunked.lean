/- For all drawn stores and data: a blob that comes in two chunks is the blob that it is in one, an upload with another digest is refused and stays, and one that is broken off leaves the store's digests. No condition but the size that the model lets a draw have. -/
import Derived.Test.YtldpdaifajjaeaaQFnChunkedx
import Derived.Test.YtldpdaifajjaeaaDigestFnChunked
import Derived.Test.YtldpdaifajjaeaaOrderFnChunked
namespace Go.Proofs.Ytldpdaifajjaeaa.Pure
open Go.RowKit Go.Proofs.Ytldpdaifajjaeaa.QFnChunked Go.Proofs.YtldpdaifajjaeaaW.PrintWords Go.Proofs.YtldpdaifajjaeaaW.PrintLast Go.Proofs.YtldpdaifajjaeaaW.PrintMore Go.Proofs.Ytldpdaifajjaeaa.Bits Go.Proofs.Ytldpdaifajjaeaa.Num Go.Proofs.Ytldpdaifajjaeaa.Loops Go.Proofs.Ytldpdaifajjaeaa.Sha Go.Proofs.Ytldpdaifajjaeaa.Dig Go.Proofs.Ytldpdaifajjaeaa.FrameRead Go.Proofs.Ytldpdaifajjaeaa.Digest Go.Proofs.Ytldpdaifajjaeaa.Frame Go.Proofs.Ytldpdaifajjaeaa.SetOf Go.Proofs.Ytldpdaifajjaeaa.Order
set_option linter.unusedSimpArgs false
set_option linter.unusedVariables false
namespace KeptOf
theorem spec_rot (x n:Int) (h0:0≤x) (h1:x < 4294967296):spec_Rotate.f x n=some (rotr x (n % 32).toNat):=by
  have ht:=Int.tmod_lt_of_pos n (show (0:Int) < 32 by decide)
  have ht2:-32 < Int.tmod n 32:=by have:=Int.lt_tmod_of_pos n (show (0:Int) < 32 by decide);omega
  have hm:(Int.tmod n 32) % 32=n % 32:=by have:=Int.tmod_add_mul_tdiv n 32;omega
  have hk:IntKind.u64.wrap (Int.tmod (wrap64 ((Int.tmod n 32) + 32)) 32)=n % 32:=by
    have e1:wrap64 ((Int.tmod n 32) + 32)=(Int.tmod n 32) + 32:=by unfold wrap64;omega
    rw [e1,Int.tmod_eq_emod_of_nonneg (by omega),IntKind.wrap_u64];omega
  have hk2:IntKind.u64.wrap (32 - n % 32)=32 - n % 32:=by rw [IntKind.wrap_u64];omega
  unfold spec_Rotate.f
  rw [hk,if_pos (by omega),hk2,if_pos (by omega)]
  have e2:(32 - n % 32).toNat=32 - (n % 32).toNat:=by omega
  unfold shr shl
  rw [show min (n % 32).toNat IntKind.u32.bits=(n % 32).toNat by simp [IntKind.bits];omega,show min (32 - n % 32).toNat IntKind.u32.bits=(32 - n % 32).toNat by simp [IntKind.bits];omega,e2,bits_or_comm,or_rotr x _ h0 h1 (by omega)]
theorem spec_rot1 (x:Int) (hx:0≤x∧x < 4294967296) (n:Int) (m:Nat) (hm:(n % 32).toNat=m):spec_Rotate.f x n=some (rotr x m):=by rw [spec_rot x n hx.1 hx.2,hm]
theorem spec_words (h K b:List Int) (hb:b.length=64) {r:List Int} (hend:Ev (fun k=>spec_l1Block.l0 k h K b (wordsM b 64) 64) r):Ev (fun k=>spec_l1Block.l0 k h K b (List.replicate 64 0) 0) r:=by
  refine fold_loop (n:=64) (F:=fun k w i=>spec_l1Block.l0 k h K b w i) (st:=fun i=>wordsM b i) (fun t ht hr=>?_) hend
  obtain ⟨hl,hR⟩:=wordsM_ok b t
  rw [wordsM_succ] at hr
  refine Ev.step (fun k=>?_) hr
  simp only [spec_l1Block.l0]
  rw [if_pos (by omega),wrap_nat t (by omega)]
  unfold stepW
  generalize wordsM b t=w at hl hR
  by_cases h16:t < 16
  · have e0:wrap64 (4 * (t:Int))=((4 * t:Nat):Int):=by unfold wrap64;omega
    have e1:wrap64 (((4 * t:Nat):Int) + 1)=((4 * t + 1:Nat):Int):=by unfold wrap64;omega
    have e2:wrap64 (((4 * t:Nat):Int) + 2)=((4 * t + 2:Nat):Int):=by unfold wrap64;omega
    have e3:wrap64 (((4 * t:Nat):Int) + 3)=((4 * t + 3:Nat):Int):=by unfold wrap64;omega
    rw [if_pos (by omega),e0,e1,e2,e3]
    repeat rw [if_pos (by omega)]
    rw [Int.toNat_natCast];rfl
  · have e15:wrap64 ((t:Int) - 15)=((t - 15:Nat):Int):=by unfold wrap64;omega
    have e2:wrap64 ((t:Int) - 2)=((t - 2:Nat):Int):=by unfold wrap64;omega
    have e7:wrap64 ((t:Int) - 7)=((t - 7:Nat):Int):=by unfold wrap64;omega
    have e16:wrap64 ((t:Int) - 16)=((t - 16:Nat):Int):=by unfold wrap64;omega
    rw [if_neg (by omega),e15,e2,e7,e16]
    rw [if_pos (by omega),if_pos (by omega),if_pos (by omega),if_pos (by omega),spec_rot1 _ (hR.at _) 7 7 rfl,bindS,spec_rot1 _ (hR.at _) 18 18 rfl,bindS,spec_rot1 _ (hR.at _) 17 17 rfl,bindS,spec_rot1 _ (hR.at _) 19 19 rfl,bindS]
    rw [if_pos (by omega),if_pos (by omega),if_pos (by omega),if_pos (by omega),if_pos (by omega),if_pos (by omega),Int.toNat_natCast,if_neg h16]
    congr 2
    simp only [nextW,sml0,sml1]
    omega
theorem spec_rounds (h K b W:List Int) (hK:K.length=64) (hW:W.length=64) (hl:h.length=8) (hr:R32 h) {r:List Int} (hend:Ev (fun k=>spec_l1Block.l1 k h K W (roundsM K W h 64) 64) r):Ev (fun k=>spec_l1Block.l1 k h K W h 0) r:=by
  refine fold_loop (n:=64) (F:=fun k v i=>spec_l1Block.l1 k h K W v i) (st:=fun i=>roundsM K W h i) (fun t ht hr'=>?_) hend
  obtain ⟨hvl,hR⟩:=roundsM_ok K W h hl hr t
  rw [roundsM_succ] at hr'
  refine Ev.step (fun k=>?_) hr'
  simp only [spec_l1Block.l1]
  generalize roundsM K W h t=v at hvl hR
  rw [if_pos (by omega),if_pos (by omega),if_pos (by omega),if_pos (by omega),spec_rot1 _ (hR.at _) 6 6 rfl,bindS,spec_rot1 _ (hR.at _) 11 11 rfl,bindS,spec_rot1 _ (hR.at _) 25 25 rfl,bindS]
  rw [if_pos (by omega),if_pos (by omega),if_pos (by omega),if_pos (by omega),if_pos (by omega),spec_rot1 _ (hR.at _) 2 2 rfl,bindS,spec_rot1 _ (hR.at _) 13 13 rfl,bindS,spec_rot1 _ (hR.at _) 22 22 rfl,bindS]
  rw [if_pos (by omega),if_pos (by omega),if_pos (by omega),wrap_nat t (by omega)]
  congr 1
  simp only [roundM,oneM,twoM,big0,big1,ch,maj]
  congr 1
  · omega
  · congr 4
    omega
theorem spec_add (h v:List Int) (hl:h.length=8) (hvl:v.length=8):Ev (fun k=>spec_l1Block.l2 k h v [] 0) (addM h v 8):=by
  refine fold_loop (n:=8) (F:=fun k a i=>spec_l1Block.l2 k h v a i) (st:=fun i=>addM h v i) (fun i hi hr=>?_) (Ev.step (f:=fun _=>some (addM h v 8)) (fun k=>?_) (Ev.now _))
  · rw [addM_succ] at hr
    refine Ev.step (fun k=>?_) hr
    have:=addM_len h v i
    simp only [spec_l1Block.l2]
    rw [if_pos (by omega),if_pos (by omega),if_pos (by omega),if_pos (by omega),if_pos (by omega),wrap_nat i (by omega)]
  · simp only [spec_l1Block.l2];rw [if_neg (by omega)]
theorem spec_block (h K b:List Int) (hK:K.length=64) (hb:b.length=64) (hl:h.length=8) (hr:R32 h):Ev (fun k=>spec_l1Block.f k h K b) (blockM h K b):=by
  unfold spec_l1Block.f blockM
  simp only [show (64:Nat)≤70368744177664 by omega,if_true]
  obtain ⟨hwl,_⟩:=wordsM_ok b 64
  refine spec_words h K b hb ?_
  generalize wordsM b 64=W at hwl
  refine Ev.step (f:=fun k=>spec_l1Block.l1 k h K W h 0) (fun k=>?_) ?_
  · simp only [spec_l1Block.l0]
    rw [if_neg (by omega),bindS,if_pos (by simp;omega),List.nil_append]
  · refine spec_rounds h K b W hK hwl hl hr ?_
    obtain ⟨hvl,_⟩:=roundsM_ok K W h hl hr 64
    refine Ev.step (f:=fun k=>spec_l1Block.l2 k h (roundsM K W h 64) [] 0) (fun k=>?_) (spec_add h _ hl hvl)
    simp only [spec_l1Block.l1]
    rw [if_neg (by omega)]
theorem spec_runs (s:ByteArray) (p:List Int) (n:Nat) (hp:p.length=64 * n) (hn:n≤4611686018427387904 / 64):Ev (fun k=>spec_Sum.l2 k p kM hM 0) (runM p n):=by
  have key:∀ d i:Nat,i + d=n→Ev (fun k=>spec_Sum.l2 k p kM (runM p i) ((64 * i:Nat):Int)) (runM p n):=by
    intro d
    induction d with
    | zero =>
      intro i hi
      obtain rfl:i=n:=by omega
      refine Ev.step (f:=fun _=>some (runM p i)) (fun k=>?_) (Ev.now _)
      simp only [spec_Sum.l2];rw [if_neg (by omega)]
    | succ d ih =>
      intro i hi
      obtain ⟨hl,hr⟩:=runM_ok p i
      have hw:wrap64 (((64 * i:Nat):Int) + 64)=((64 * (i + 1):Nat):Int):=by unfold wrap64;omega
      have hbl:((p.drop (64 * i)).take 64).length=64:=by rw [List.length_take,List.length_drop];omega
      have hcut:(p.take (64 * (i + 1))).drop (64 * i)=(p.drop (64 * i)).take 64:=by
        rw [List.drop_take];congr 1;omega
      refine Ev.step (f:=fun k=>(spec_l1Block.f k (runM p i) kM ((p.drop (64 * i)).take 64)).bind fun t=>spec_Sum.l2 k p kM t ((64 * (i + 1):Nat):Int)) (fun k=>?_) (Ev.bind (spec_block _ kM _ rfl hbl hl hr) ?_)
      · simp only [spec_Sum.l2]
        rw [if_pos (by omega),if_pos (by omega),hw,if_pos (by omega),if_pos (by omega),Int.toNat_natCast,Int.toNat_natCast,hcut]
      · rw [← runM_succ];exact ih (i + 1) (by omega)
  exact key n 0 (by omega)
theorem spec_lens (s:ByteArray) (p0:List Int) (n:Int) (hp:p0.length≤4611686018427387904 / 64) {r:List Int} (hl:p0.length < 140737488355320) (hend:Ev (fun k=>spec_Sum.l2 k (p0 ++ lenM n 8) kM hM 0) r):Ev (fun k=>spec_Sum.l1 k p0 n 7) r:=by
  have key:∀ d i:Nat,i + d=8→Ev (fun k=>spec_Sum.l1 k (p0 ++ lenM n i) n (7 - (i:Int))) r:=by
    intro d
    induction d with
    | zero =>
      intro i hi
      obtain rfl:i=8:=by omega
      refine Ev.step (f:=fun k=>spec_Sum.l2 k (p0 ++ lenM n 8) kM hM 0) (fun k=>?_) hend
      simp only [spec_Sum.l1]
      rw [if_neg (by omega)]
      unfold spec_l1K.f
      rw [bindS];rfl
    | succ d ih =>
      intro i hi
      have hi8:i≤7:=by omega
      have e7:(7 - (i:Int))=((7 - i:Nat):Int):=by omega
      have hw:wrap64 ((7 - (i:Int)) - 1)=7 - ((i + 1:Nat):Int):=by unfold wrap64;omega
      have hnn:(0:Int)≤IntKind.u64.wrap (wrap64 (8 * (7 - (i:Int)))):=by rw [IntKind.wrap_u64];omega
      refine Ev.step (fun k=>?_) (ih (i + 1) (by omega))
      simp only [spec_Sum.l1]
      rw [if_pos (by omega),if_pos hnn,if_pos (by rw [List.length_append,lenM_len];omega),hw,List.append_assoc]
      rw [lenM,← e7]
  have:=key 8 0 (by omega)
  simpa [lenM] using this
theorem spec_sum (s:ByteArray) (hs:s.size≤70368744177664):Ev (fun k=>spec_Sum.f k s) (sumM s):=by
  unfold spec_Sum.f
  have hbl:=bytesOf_length s
  simp only [if_pos (show (s.size:Int)≤140737488351232 by omega)]
  refine Ev.bind (Ev.now _) ?_
  simp only [if_pos (show (bytesOf s).length < 140737488355328 by omega)]
  have key:∀ d i:Nat,i + d=zerosM s.size→Ev (fun k=>spec_Sum.l0 k s (bytesOf s ++ [128] ++ List.replicate i 0)) (sumM s):=by
    intro d
    induction d with
    | zero =>
      intro i hi
      obtain rfl:i=zerosM s.size:=by omega
      have hz:zerosM s.size < 64:=by unfold zerosM;omega
      have h56:((bytesOf s ++ [128] ++ List.replicate (zerosM s.size) (0:Int)).length:Int) % 64=56:=by
        simp only [List.length_append,List.length_replicate,List.length_singleton,hbl,zerosM];omega
      have hlen:(bytesOf s ++ [128] ++ List.replicate (zerosM s.size) (0:Int)).length=s.size + 1 + zerosM s.size:=by simp [hbl];omega
      refine Ev.step (f:=fun k=>spec_Sum.l1 k (bytesOf s ++ [128] ++ List.replicate (zerosM s.size) 0) (IntKind.u64.wrap ((IntKind.u64.wrap ((s.size:Int))) * 8)) 7) (fun k=>?_) ?_
      · simp only [spec_Sum.l0];rw [if_pos h56]
      · refine spec_lens s _ _ (by omega) (by omega) ?_
        have hp:=padM_len s
        unfold sumM
        exact spec_runs s (padM s) _ hp (by omega)
    | succ d ih =>
      intro i hi
      have hz:zerosM s.size < 64:=by unfold zerosM;omega
      have h56:¬ ((bytesOf s ++ [128] ++ List.replicate i (0:Int)).length:Int) % 64=56:=by
        simp only [List.length_append,List.length_replicate,List.length_singleton,hbl]
        unfold zerosM at hi hz
        omega
      refine Ev.step (fun k=>?_) (ih (i + 1) (by omega))
      simp only [spec_Sum.l0]
      rw [if_neg h56,if_pos (by simp [hbl];omega),List.append_assoc _ (List.replicate i 0),← List.replicate_succ']
  have:=key (zerosM s.size) 0 (by omega)
  simpa using this
theorem spec_hex (n:Int) (hn:0≤n∧n < 4294967296):Ev (fun k=>spec_l1Hex.f k n) (hexM n):=by
  unfold spec_l1Hex.f
  have key:∀ d i:Nat,i + d=8→Ev (fun k=>spec_l1Hex.l0 k n (hexL n i) (7 - (i:Int))) (hexM n):=by
    intro d
    induction d with
    | zero =>
      intro i hi
      obtain rfl:i=8:=by omega
      exact Ev.step (f:=fun _=>some (hexM n)) (fun k=>by simp only [spec_l1Hex.l0];rw [if_neg (by omega)];rfl) (Ev.now _)
    | succ d ih =>
      intro i hi
      have e7:(7 - (i:Int))=((7 - i:Nat):Int):=by omega
      have hw:wrap64 ((7 - (i:Int)) - 1)=7 - ((i + 1:Nat):Int):=by unfold wrap64;omega
      have hnn:(0:Int)≤IntKind.u64.wrap (wrap64 (4 * (7 - (i:Int)))):=by rw [IntKind.wrap_u64];omega
      have hr:=nib_range n i hn
      have hnib:Go.bits .and .u32 (shr .u32 n (IntKind.u64.wrap (wrap64 (4 * (7 - (i:Int)))))) 15=nibM n i:=by rw [nibM,e7]
      refine Ev.step (fun k=>?_) (ih (i + 1) (by omega))
      simp only [spec_l1Hex.l0]
      rw [if_pos (by omega),if_pos hnn,hnib,if_pos hr.1,if_pos hr.2,if_pos (by rw [hexL_len];omega),hw,hexL_succ]
      rfl
  exact key 8 0 (by omega)
theorem spec_digest (s:ByteArray) (hs:s.size≤70368744177664):Ev (fun k=>spec_Digest.f k s) (digestM s):=by
  unfold spec_Digest.f
  refine Ev.bind (spec_sum s hs) ?_
  obtain ⟨hl,hr⟩:=sumM_ok s
  unfold digestM
  generalize sumM s=h at hl hr
  refine fold_loop (n:=8) (F:=fun k t i=>spec_Digest.l0 k h t i) (st:=fun i=>digL h i) (fun i hi hh=>?_) (Ev.step (f:=fun _=>some (digL h 8)) (fun k=>?_) (Ev.now _))
  · refine Ev.step (f:=fun k=>(spec_l1Hex.f k (rd h (i:Int))).bind fun t=>if (digL h i).size + t.size≤9223372036854775807 then spec_Digest.l0 k h (digL h i ++ t) ((i + 1:Nat):Int) else none) (fun k=>?_) (Ev.bind (spec_hex _ (hr.at _)) ?_)
    · simp only [spec_Digest.l0]
      rw [if_pos (by omega),if_pos (by omega),if_pos (by omega),wrap_nat i (by omega)]
    · simp only [if_pos (show (digL h i).size + (hexM (rd h (i:Int))).size≤9223372036854775807 by rw [digL_size,hexM_size];omega)]
      exact hh
  · simp only [spec_Digest.l0];rw [if_neg (by omega)]
theorem digL_next (h:List Int) (hr:R32 h) (i:Nat):bytesOf (digL h (i + 1))=bytesOf (digL h i) ++ hexL (rd h (i:Int)) 8:=by
  rw [digL,bytesOf_append,hexM,bytesOf_strOfNums _ (fun x hx=>(hexL_hex _ (hr.at _) 8 x hx).2)]
theorem impl_nib (n:Int) (j:Nat) (hj:j < 8):Go.bits .and .u32 (shr .u32 n (28 - 4 * (j:Int))) 15=nibM n j:=by
  unfold nibM
  rw [show IntKind.u64.wrap (wrap64 (4 * ((7 - j:Nat):Int)))=28 - 4 * (j:Int) by rw [IntKind.wrap_u64];unfold wrap64;omega]
theorem impl_word (h:List Int) (hr:R32 h) (i:Nat) (hi:i < 8) (l:Int) {r:ByteArray} (hend:Ev (fun k=>impl_digest.l0 k (bytesOf (digL h (i + 1))) h l ((i + 1:Nat):Int)) r):Ev (fun k=>impl_digest.l1 k (bytesOf (digL h i)) (rd h (i:Int)) 28 h l (i:Int)) r:=by
  have hlen:(bytesOf (digL h i)).length=7 + 8 * i:=by rw [bytesOf_length,digL_size]
  have key:∀ d j:Nat,j + d=8→Ev (fun k=>impl_digest.l1 k (bytesOf (digL h i) ++ hexL (rd h (i:Int)) j) (rd h (i:Int)) (28 - 4 * (j:Int)) h l (i:Int)) r:=by
    intro d
    induction d with
    | zero =>
      intro j hj
      obtain rfl:j=8:=by omega
      refine Ev.step (fun k=>?_) hend
      simp only [impl_digest.l1]
      rw [if_neg (by omega),wrap_nat i (by omega),digL_next h hr i]
    | succ d ih =>
      intro j hj
      have hn:=nib_range (rd h (i:Int)) j (hr.at _)
      refine Ev.step (fun k=>?_) (ih (j + 1) (by omega))
      simp only [impl_digest.l1]
      rw [if_pos (by omega),if_pos (by omega),impl_nib _ j (by omega),if_pos hn.1,if_pos hn.2,if_pos (by rw [List.length_append,hlen,hexL_len];omega),hexL_succ,← List.append_assoc]
      rw [show wrap64 (28 - 4 * (j:Int) - 4)=28 - 4 * ((j + 1:Nat):Int) by unfold wrap64;omega]
      rfl
  have:=key 8 0 (by omega)
  simpa [hexL] using this
theorem impl_digest_ok (s:ByteArray) (hs:s.size≤70368744177664):Ev (fun k=>impl_digest.f k s) (digestM s):=by
  unfold impl_digest.f
  refine Ev.bind (Ev.is (show impl_sum.f s=some (sumM s) by unfold impl_sum.f;rw [if_pos hs])) ?_
  obtain ⟨hl,hr⟩:=sumM_ok s
  unfold digestM
  generalize sumM s=h at hl hr
  have key:∀ d i:Nat,i + d=8→Ev (fun k=>impl_digest.l0 k (bytesOf (digL h i)) h (h.length:Int) (i:Int)) (digL h 8):=by
    intro d
    induction d with
    | zero =>
      intro i hi
      obtain rfl:i=8:=by omega
      refine Ev.step (f:=fun _=>some (digL h 8)) (fun k=>?_) (Ev.now _)
      simp only [impl_digest.l0];rw [if_neg (by omega),strOfNums_bytesOf]
    | succ d ih =>
      intro i hi
      refine Ev.step (f:=fun k=>impl_digest.l1 k (bytesOf (digL h i)) (rd h (i:Int)) 28 h (h.length:Int) (i:Int)) (fun k=>?_) (impl_word h hr i (by omega) _ (ih (i + 1) (by omega)))
      simp only [impl_digest.l0];rw [if_pos (by omega),if_pos (by omega),if_pos (by omega)]
  exact key 8 0 (by omega)
abbrev IB:=S56
abbrev IU:=S58
theorem rdIB (xs:List IB) (i:Nat) (h:i < xs.length):rd_T56 xs (i:Int)=xs[i]:=getD_at xs i _ h
theorem rdIU (xs:List IU) (i:Nat) (h:i < xs.length):rd_T58 xs (i:Int)=xs[i]:=getD_at xs i _ h
def Small (bs:List IB) (us:List IU):Prop:=bs.length≤1048576∧us.length≤1048576∧(∀ x ∈ bs,x.f0.size≤1048576∧x.f1.size≤1048576)∧∀ x ∈ us,x.f1.size≤1048576
theorem l1In_eq (a b c:Int):spec_l1In.f a b c=some (decide (b≤a∧a≤c)):=by
  unfold spec_l1In.f
  by_cases h:a≥b
  · rw [if_pos h];simp [h]
  · rw [if_neg h];simp [h]
theorem in_eq (a b c:Int):impl_in.f a b c=some (decide (b≤a∧a≤c)):=by
  unfold impl_in.f
  by_cases h:a≥b
  · rw [if_pos h];simp [h]
  · rw [if_neg h];simp [h]
theorem all_then {n : Nat} {F : Nat → Int → Option Bool} {p : Nat → Bool} {R : Bool} (hstep : ∀ i : Nat, i < n → ∀ r, Ev (fun k => F k ((i + 1 : Nat) : Int)) r → Ev (fun k => F k (i : Int)) (p i && r)) (hend : Ev (fun k => F k (n : Int)) R) :
    Ev (fun k=>F k 0) ((List.range n).all p && R):=by
  have key:∀ d i:Nat,i + d=n→Ev (fun k=>F k (i:Int)) ((List.range' i d).all p && R):=by
    intro d
    induction d with
    | zero => intro i hi; obtain rfl : i = n := by omega
              simpa using hend
    | succ d ih =>
      intro i hi
      have:=hstep i (by omega) _ (ih (i + 1) (by omega))
      rw [List.range'_succ,List.all_cons,Bool.and_assoc]
      exact this
  rw [List.range_eq_range']
  exact key n 0 (by omega)
def accB (bs:List IB):Nat→Int
  | 0=>0
  | i + 1=>accB bs i + ((rd_T56 bs (i:Int)).f1.size:Int)
def accU (us:List IU):Nat→Int
  | 0=>0
  | i + 1=>accU us i + ((rd_T58 us (i:Int)).f1.size:Int)
theorem accB_bd (bs:List IB) (h:∀ x ∈ bs,x.f0.size≤1048576∧x.f1.size≤1048576) (i:Nat) (hi:i≤bs.length):0≤accB bs i∧accB bs i≤1048576 * (i:Int):=by
  induction i with
  | zero=>exact ⟨Int.le_refl _,by simp [accB]⟩
  | succ i ih =>
    have:=ih (by omega)
    have hx:=(h _ (List.getElem_mem (show i < bs.length by omega))).2
    rw [accB,rdIB bs i (by omega)];omega
theorem accU_bd (us:List IU) (h:∀ x ∈ us,x.f1.size≤1048576) (i:Nat) (hi:i≤us.length):0≤accU us i∧accU us i≤1048576 * (i:Int):=by
  induction i with
  | zero=>exact ⟨Int.le_refl _,by simp [accU]⟩
  | succ i ih =>
    have:=ih (by omega)
    have hx:=h _ (List.getElem_mem (show i < us.length by omega))
    rw [accU,rdIU us i (by omega)];omega
def usedM (bs:List IB) (us:List IU):Int:=accB bs bs.length + accU us us.length
def blM (bs:List IB) (i:Nat):Bool:=decide ((rd_T56 bs (i:Int)).f0.toList=(digestM (rd_T56 bs (i:Int)).f1).toList) && (decide (i=0) || Op.bytesLess ((rd_T56 bs ((i - 1:Nat):Int)).f0.toList) ((rd_T56 bs (i:Int)).f0.toList))
def upM (us:List IU) (nx:Int) (i:Nat):Bool:=decide (1≤(rd_T58 us (i:Int)).f0∧(rd_T58 us (i:Int)).f0≤wrap64 (nx - 1)) && (decide (i=0) || decide (¬ (rd_T58 us (i:Int)).f0≤(rd_T58 us ((i - 1:Nat):Int)).f0))
def storeM (q:Int) (bs:List IB) (us:List IU) (nx:Int):Bool :=
  decide (0≤q∧q≤200000) && (decide (¬ (bs.length:Int) > 60) && (decide (¬ (us.length:Int) > 10) && (decide (1≤nx∧nx≤1000000000000) && (decide (¬ usedM bs us > q) && ((List.range bs.length).all (blM bs) && (List.range us.length).all (upM us nx))))))
theorem spec_used (q:Int) (bs:List IB) (us:List IU) (nx:Int) (hs:Small bs us):Ev (fun k=>spec_l6Used.f k q bs us nx) (usedM bs us):=by
  unfold spec_l6Used.f
  obtain ⟨h1,h2,h3,h4⟩:=hs
  refine fold_loop (n:=bs.length) (F:=fun k v i=>spec_l6Used.l0 k v i q bs us nx) (st:=fun i=>accB bs i) (fun i hi hr=>?_) ?_
  · refine Ev.step (fun k=>?_) hr
    have hb:=accB_bd bs h3 i (by omega)
    have hb2:=accB_bd bs h3 (i + 1) (by omega)
    simp only [spec_l6Used.l0]
    rw [if_pos (by omega),if_pos (by omega),wrap_nat i (by omega),← accB]
    rw [show wrap64 (accB bs (i + 1))=accB bs (i + 1) by unfold wrap64;omega]
  · refine Ev.step (f:=fun k=>spec_l6Used.l1 k (accB bs bs.length) 0 q bs us nx) (fun k=>by simp only [spec_l6Used.l0];rw [if_neg (by omega)]) ?_
    have hb:=accB_bd bs h3 bs.length (Nat.le_refl _)
    have:Ev (fun k=>spec_l6Used.l1 k (accB bs bs.length + accU us 0) 0 q bs us nx) (usedM bs us):=by
      refine fold_loop (n:=us.length) (F:=fun k v i=>spec_l6Used.l1 k v i q bs us nx) (st:=fun i=>accB bs bs.length + accU us i) (fun i hi hr=>?_) (Ev.step (f:=fun _=>some (usedM bs us)) (fun k=>?_) (Ev.now _))
      · refine Ev.step (fun k=>?_) hr
        have hu:=accU_bd us h4 (i + 1) (by omega)
        simp only [spec_l6Used.l1]
        rw [if_pos (by omega),if_pos (by omega),wrap_nat i (by omega),Int.add_assoc,← accU]
        rw [show wrap64 (accB bs bs.length + accU us (i + 1))=accB bs bs.length + accU us (i + 1) by unfold wrap64;omega]
      · simp only [spec_l6Used.l1];rw [if_neg (by omega)];rfl
    rwa [accU,Int.add_zero] at this
theorem impl_used_ok (q:Int) (bs:List IB) (us:List IU) (nx:Int) (hs:Small bs us):Ev (fun k=>impl_used.f k q bs us nx) (usedM bs us):=by
  unfold impl_used.f
  obtain ⟨h1,h2,h3,h4⟩:=hs
  refine fold_loop (n:=bs.length) (F:=fun k v i=>impl_used.l0 k v bs (bs.length:Int) i q bs us nx) (st:=fun i=>accB bs i) (fun i hi hr=>?_) ?_
  · refine Ev.step (fun k=>?_) hr
    have hb:=accB_bd bs h3 i (by omega)
    have hb2:=accB_bd bs h3 (i + 1) (by omega)
    simp only [impl_used.l0]
    rw [if_pos (by omega),if_pos (by omega),if_pos (by omega),wrap_nat i (by omega),← accB]
    rw [show wrap64 (accB bs (i + 1))=accB bs (i + 1) by unfold wrap64;omega]
  · refine Ev.step (f:=fun k=>impl_used.l1 k (accB bs bs.length) us (us.length:Int) 0) (fun k=>by simp only [impl_used.l0];rw [if_neg (by omega)]) ?_
    have hb:=accB_bd bs h3 bs.length (Nat.le_refl _)
    have:Ev (fun k=>impl_used.l1 k (accB bs bs.length + accU us 0) us (us.length:Int) 0) (usedM bs us):=by
      refine fold_loop (n:=us.length) (F:=fun k v i=>impl_used.l1 k v us (us.length:Int) i) (st:=fun i=>accB bs bs.length + accU us i) (fun i hi hr=>?_) (Ev.step (f:=fun _=>some (usedM bs us)) (fun k=>?_) (Ev.now _))
      · refine Ev.step (fun k=>?_) hr
        have hu:=accU_bd us h4 (i + 1) (by omega)
        simp only [impl_used.l1]
        rw [if_pos (by omega),if_pos (by omega),if_pos (by omega),wrap_nat i (by omega),Int.add_assoc,← accU]
        rw [show wrap64 (accB bs bs.length + accU us (i + 1))=accB bs bs.length + accU us (i + 1) by unfold wrap64;omega]
      · simp only [impl_used.l1];rw [if_neg (by omega)];rfl
    rwa [accU,Int.add_zero] at this
theorem spec_storeOk (q:Int) (bs:List IB) (us:List IU) (nx:Int) (hs:Small bs us):Ev (fun k=>spec_StoreOk.f k q bs us nx) (storeM q bs us nx):=by
  have hs':=hs
  obtain ⟨h1,h2,h3,h4⟩:=hs
  have lu:Ev (fun k=>spec_StoreOk.l1 k 0 q bs us nx) ((List.range us.length).all (upM us nx)):=by
    refine all_loop (F:=fun k i=>spec_StoreOk.l1 k i q bs us nx) (fun i hi r hr=>?_) (Ev.step (f:=fun _=>some true) (fun k=>?_) (Ev.now _))
    · have hj : ∀ b : Bool, Ev (fun k => spec_StoreOk.j4 k (i : Int) b q bs us nx) (!b && r) := by
        intro b
        refine Ev.step (f:=fun k=>if b=true then some false else spec_StoreOk.l1 k ((i + 1:Nat):Int) q bs us nx) (fun k=>by simp only [spec_StoreOk.j4];rw [wrap_nat i (by omega)]) ?_
        cases b with
        | true=>exact Ev.now _
        | false=>exact hr
      have hjt:=hj true
      have hjf:=hj false
      simp only [Bool.not_true,Bool.not_false,Bool.false_and,Bool.true_and] at hjt hjf
      unfold upM
      by_cases g1:1≤(rd_T58 us (i:Int)).f0∧(rd_T58 us (i:Int)).f0≤wrap64 (nx - 1)
      · rw [show decide (1≤(rd_T58 us (i:Int)).f0∧(rd_T58 us (i:Int)).f0≤wrap64 (nx - 1))=true from decide_eq_true g1,Bool.true_and]
        by_cases h0:i=0
        · rw [show decide (i=0)=true from decide_eq_true h0,Bool.true_or,Bool.true_and]
          refine Ev.step (fun k=>?_) hjf
          simp only [spec_StoreOk.l1]
          rw [if_pos (by omega),if_pos (by omega),l1In_eq,bindS,if_pos (decide_eq_true g1),if_neg (by omega)]
        · rw [show decide (i=0)=false from decide_eq_false h0,Bool.false_or,show decide (¬ (rd_T58 us (i:Int)).f0≤(rd_T58 us ((i - 1:Nat):Int)).f0) = !decide ((rd_T58 us (i:Int)).f0≤(rd_T58 us ((i - 1:Nat):Int)).f0) from by by_cases h:(rd_T58 us (i:Int)).f0≤(rd_T58 us ((i - 1:Nat):Int)).f0 <;> simp [h]]
          refine Ev.step (fun k=>?_) (hj (decide ((rd_T58 us (i:Int)).f0≤(rd_T58 us ((i - 1:Nat):Int)).f0)))
          simp only [spec_StoreOk.l1]
          rw [if_pos (by omega),if_pos (by omega),l1In_eq,bindS,if_pos (decide_eq_true g1),if_pos (by omega),wrap_pred i (by omega) (by omega),if_pos (by omega),if_pos (by omega)]
      · rw [show decide (1≤(rd_T58 us (i:Int)).f0∧(rd_T58 us (i:Int)).f0≤wrap64 (nx - 1))=false from decide_eq_false g1,Bool.false_and,Bool.false_and]
        refine Ev.step (fun k=>?_) hjt
        simp only [spec_StoreOk.l1]
        rw [if_pos (by omega),if_pos (by omega),l1In_eq,bindS,if_neg (by simp only [decide_eq_true_eq];exact g1)]
    · simp only [spec_StoreOk.l1];rw [if_neg (by omega)]
  have lb:Ev (fun k=>spec_StoreOk.l0 k 0 q bs us nx) ((List.range bs.length).all (blM bs) && (List.range us.length).all (upM us nx)):=by
    refine all_then (F:=fun k i=>spec_StoreOk.l0 k i q bs us nx) (fun i hi r hr=>?_) (Ev.step (fun k=>?_) lu)
    · have hd:=spec_digest (rd_T56 bs (i:Int)).f1 (by rw [rdIB bs i hi];have:=(h3 _ (List.getElem_mem hi)).2;omega)
      have hj:∀ b:Bool,Ev (fun k=>spec_StoreOk.j2 k (i:Int) b q bs us nx) (!b && r):=by
        intro b
        refine Ev.step (f:=fun k=>if b=true then some false else spec_StoreOk.l0 k ((i + 1:Nat):Int) q bs us nx) (fun k=>by simp only [spec_StoreOk.j2];rw [wrap_nat i (by omega)]) ?_
        cases b with
        | true=>exact Ev.now _
        | false=>exact hr
      have hjt:=hj true
      have hjf:=hj false
      simp only [Bool.not_true,Bool.not_false,Bool.false_and,Bool.true_and] at hjt hjf
      unfold blM
      generalize digestM (rd_T56 bs (i:Int)).f1=D at hd
      refine Ev.step (f:=fun k=>(spec_Digest.f k (rd_T56 bs (i:Int)).f1).bind fun t=>if (rd_T56 bs (i:Int)).f0.toList=t.toList then (if (i:Int) > 0 then (if 0≤wrap64 ((i:Int) - 1) then (if wrap64 ((i:Int) - 1) < (bs.length:Int) then spec_StoreOk.j2 k (i:Int) (!(Op.bytesLess ((rd_T56 bs (wrap64 ((i:Int) - 1))).f0.toList) ((rd_T56 bs (i:Int)).f0.toList))) q bs us nx else none) else none) else spec_StoreOk.j2 k (i:Int) false q bs us nx) else spec_StoreOk.j2 k (i:Int) true q bs us nx) (fun k=>?_) (Ev.bind hd ?_)
      · simp only [spec_StoreOk.l0];rw [if_pos (by omega),if_pos (by omega)]
      · by_cases g1:(rd_T56 bs (i:Int)).f0.toList=D.toList
        · simp only [if_pos g1,decide_eq_true g1,Bool.true_and]
          by_cases h0:i=0
          · simp only [if_neg (show ¬ (i:Int) > 0 by omega),decide_eq_true h0,Bool.true_or,Bool.true_and];exact hjf
          · simp only [if_pos (show (i:Int) > 0 by omega),wrap_pred i (by omega) (by omega),if_pos (show (0:Int)≤((i - 1:Nat):Int) by omega),if_pos (show ((i - 1:Nat):Int) < (bs.length:Int) by omega),decide_eq_false h0,Bool.false_or]
            cases Op.bytesLess ((rd_T56 bs ((i - 1:Nat):Int)).f0.toList) ((rd_T56 bs (i:Int)).f0.toList) with
            | true=>simp only [Bool.not_true,Bool.true_and];exact hjf
            | false=>simp only [Bool.not_false,Bool.false_and];exact hjt
        · simp only [if_neg g1,decide_eq_false g1,Bool.false_and];exact hjt
    · simp only [spec_StoreOk.l0];rw [if_neg (by omega)]
  have j0:∀ b:Bool,Ev (fun k=>spec_StoreOk.j0 k b q bs us nx) (!b && ((List.range bs.length).all (blM bs) && (List.range us.length).all (upM us nx))):=by
    intro b
    refine Ev.step (f:=fun k=>if b=true then some false else spec_StoreOk.l0 k 0 q bs us nx) (fun k=>by simp only [spec_StoreOk.j0]) ?_
    cases b with
    | true=>exact Ev.now _
    | false=>exact lb
  have jt:=j0 true
  simp only [Bool.not_true,Bool.false_and] at jt
  unfold spec_StoreOk.f storeM
  simp only [l1In_eq,Option.bind_some]
  by_cases g1:0≤q∧q≤200000
  · simp only [decide_eq_true g1,if_true,Bool.true_and]
    by_cases g2:(bs.length:Int) > 60
    · simp only [if_pos g2,decide_eq_false (show ¬ ¬ (bs.length:Int) > 60 from fun h=>h g2),Bool.false_and];exact jt
    simp only [if_neg g2,decide_eq_true g2,Bool.true_and]
    by_cases g3:(us.length:Int) > 10
    · simp only [if_pos g3,decide_eq_false (show ¬ ¬ (us.length:Int) > 10 from fun h=>h g3),Bool.false_and];exact jt
    simp only [if_neg g3,decide_eq_true g3,Bool.true_and]
    by_cases g4:1≤nx∧nx≤1000000000000
    · simp only [decide_eq_true g4,if_true,Bool.true_and]
      refine Ev.bind (spec_used q bs us nx hs') ?_
      have:=j0 (decide (usedM bs us > q))
      rwa [show (!decide (usedM bs us > q))=decide (¬ usedM bs us > q) by by_cases h:usedM bs us > q <;> simp [h]] at this
    · simp only [decide_eq_false g4,Bool.false_eq_true,if_false,Bool.false_and];exact jt
  · simp only [decide_eq_false g1,Bool.false_eq_true,if_false,Bool.false_and];exact jt
theorem impl_storeOk (q:Int) (bs:List IB) (us:List IU) (nx:Int) (hs:Small bs us):Ev (fun k=>impl_isStore.f k q bs us nx) (storeM q bs us nx):=by
  have hs':=hs
  obtain ⟨h1,h2,h3,h4⟩:=hs
  have lb:Ev (fun k=>impl_isStore.l1 k bs (bs.length:Int) 0 q bs us nx) ((List.range bs.length).all (blM bs)):=by
    refine all_loop (F:=fun k i=>impl_isStore.l1 k bs (bs.length:Int) i q bs us nx) (fun i hi r hr=>?_) (Ev.step (f:=fun _=>some true) (fun k=>?_) (Ev.now _))
    · have hd : Ev (fun k => impl_digestOf.f k (rd_T56 bs (i : Int)).f1) (digestM (rd_T56 bs (i : Int)).f1) := by
        unfold impl_digestOf.f
        exact Ev.bind (impl_digest_ok _ (by rw [rdIB bs i hi];have:=(h3 _ (List.getElem_mem hi)).2;omega)) (Ev.now _)
      have hj:∀ b:Bool,Ev (fun k=>impl_isStore.j4 k bs (bs.length:Int) (i:Int) b q bs us nx) (!b && r):=by
        intro b
        refine Ev.step (f:=fun k=>if b=true then some false else impl_isStore.l1 k bs (bs.length:Int) ((i + 1:Nat):Int) q bs us nx) (fun k=>by simp only [impl_isStore.j4];rw [wrap_nat i (by omega)]) ?_
        cases b with
        | true=>exact Ev.now _
        | false=>exact hr
      have hjt:=hj true
      simp only [Bool.not_true,Bool.false_and] at hjt
      unfold blM
      generalize digestM (rd_T56 bs (i:Int)).f1=D at hd
      have tail:Ev (fun k=>(impl_digestOf.f k (rd_T56 bs (i:Int)).f1).bind fun t=>impl_isStore.j4 k bs (bs.length:Int) (i:Int) ((rd_T56 bs (i:Int)).f0.toList != t.toList) q bs us nx) (decide ((rd_T56 bs (i:Int)).f0.toList=D.toList) && r):=by
        refine Ev.bind hd ?_
        have h:=hj ((rd_T56 bs (i:Int)).f0.toList != D.toList)
        rwa [show (!((rd_T56 bs (i:Int)).f0.toList != D.toList))=decide ((rd_T56 bs (i:Int)).f0.toList=D.toList) from by by_cases h:(rd_T56 bs (i:Int)).f0.toList=D.toList <;> simp [h]] at h
      by_cases h0:i=0
      · rw [show decide (i=0)=true from decide_eq_true h0,Bool.true_or,Bool.and_true]
        refine Ev.step (fun k=>?_) tail
        simp only [impl_isStore.l1];rw [if_pos (by omega),if_pos (by omega),if_pos (by omega),if_neg (by omega)]
      · rw [show decide (i=0)=false from decide_eq_false h0,Bool.false_or,Bool.and_comm (decide _) (Op.bytesLess _ _),Bool.and_assoc]
        cases hb:Op.bytesLess ((rd_T56 bs ((i - 1:Nat):Int)).f0.toList) ((rd_T56 bs (i:Int)).f0.toList) with
        | true =>
          rw [Bool.true_and]
          refine Ev.step (fun k=>?_) tail
          simp only [impl_isStore.l1];rw [if_pos (by omega),if_pos (by omega),if_pos (by omega),if_pos (by omega),wrap_pred i (by omega) (by omega),if_pos (by omega),if_pos (by omega),hb,if_pos rfl]
        | false =>
          rw [Bool.false_and]
          refine Ev.step (fun k=>?_) hjt
          simp only [impl_isStore.l1];rw [if_pos (by omega),if_pos (by omega),if_pos (by omega),if_pos (by omega),wrap_pred i (by omega) (by omega),if_pos (by omega),if_pos (by omega),hb,if_neg (by decide)]
    · simp only [impl_isStore.l1];rw [if_neg (by omega)]
  have lu:Ev (fun k=>impl_isStore.l0 k us (us.length:Int) 0 q bs us nx) ((List.range us.length).all (upM us nx) && (List.range bs.length).all (blM bs)):=by
    refine all_then (F:=fun k i=>impl_isStore.l0 k us (us.length:Int) i q bs us nx) (fun i hi r hr=>?_) (Ev.step (fun k=>?_) lb)
    · have hj : ∀ b : Bool, Ev (fun k => impl_isStore.j2 k us (us.length : Int) (i : Int) b q bs us nx) (!b && r) := by
        intro b
        refine Ev.step (f:=fun k=>if b=true then some false else impl_isStore.l0 k us (us.length:Int) ((i + 1:Nat):Int) q bs us nx) (fun k=>by simp only [impl_isStore.j2];rw [wrap_nat i (by omega)]) ?_
        cases b with
        | true=>exact Ev.now _
        | false=>exact hr
      have hjt:=hj true
      have hjf:=hj false
      simp only [Bool.not_true,Bool.not_false,Bool.false_and,Bool.true_and] at hjt hjf
      unfold upM
      by_cases g1:1≤(rd_T58 us (i:Int)).f0∧(rd_T58 us (i:Int)).f0≤wrap64 (nx - 1)
      · rw [show decide (1≤(rd_T58 us (i:Int)).f0∧(rd_T58 us (i:Int)).f0≤wrap64 (nx - 1))=true from decide_eq_true g1,Bool.true_and]
        by_cases h0:i=0
        · rw [show decide (i=0)=true from decide_eq_true h0,Bool.true_or,Bool.true_and]
          refine Ev.step (fun k=>?_) hjf
          simp only [impl_isStore.l0]
          rw [if_pos (by omega),if_pos (by omega),if_pos (by omega),in_eq,bindS,if_pos (decide_eq_true g1),if_neg (by omega)]
        · rw [show decide (i=0)=false from decide_eq_false h0,Bool.false_or,show decide (¬ (rd_T58 us (i:Int)).f0≤(rd_T58 us ((i - 1:Nat):Int)).f0) = !decide ((rd_T58 us (i:Int)).f0≤(rd_T58 us ((i - 1:Nat):Int)).f0) from by by_cases h:(rd_T58 us (i:Int)).f0≤(rd_T58 us ((i - 1:Nat):Int)).f0 <;> simp [h]]
          refine Ev.step (fun k=>?_) (hj (decide ((rd_T58 us (i:Int)).f0≤(rd_T58 us ((i - 1:Nat):Int)).f0)))
          simp only [impl_isStore.l0]
          rw [if_pos (by omega),if_pos (by omega),if_pos (by omega),in_eq,bindS,if_pos (decide_eq_true g1),if_pos (by omega),wrap_pred i (by omega) (by omega),if_pos (by omega),if_pos (by omega)]
      · rw [show decide (1≤(rd_T58 us (i:Int)).f0∧(rd_T58 us (i:Int)).f0≤wrap64 (nx - 1))=false from decide_eq_false g1,Bool.false_and,Bool.false_and]
        refine Ev.step (fun k=>?_) hjt
        simp only [impl_isStore.l0]
        rw [if_pos (by omega),if_pos (by omega),if_pos (by omega),in_eq,bindS,if_neg (by simp only [decide_eq_true_eq];exact g1)]
    · simp only [impl_isStore.l0];rw [if_neg (by omega)]
  rw [Bool.and_comm] at lu
  have j0:∀ b:Bool,Ev (fun k=>impl_isStore.j0 k b q bs us nx) (!b && ((List.range bs.length).all (blM bs) && (List.range us.length).all (upM us nx))):=by
    intro b
    refine Ev.step (f:=fun k=>if b=true then some false else impl_isStore.l0 k us (us.length:Int) 0 q bs us nx) (fun k=>by simp only [impl_isStore.j0]) ?_
    cases b with
    | true=>exact Ev.now _
    | false=>exact lu
  have jt:=j0 true
  simp only [Bool.not_true,Bool.false_and] at jt
  unfold impl_isStore.f storeM
  simp only [in_eq,Option.bind_some]
  by_cases g1:0≤q∧q≤200000
  · simp only [decide_eq_true g1,if_true,Bool.true_and]
    by_cases g2:(bs.length:Int) > 60
    · simp only [if_pos g2,decide_eq_false (show ¬ ¬ (bs.length:Int) > 60 from fun h=>h g2),Bool.false_and];exact jt
    simp only [if_neg g2,decide_eq_true g2,Bool.true_and]
    by_cases g3:(us.length:Int) > 10
    · simp only [if_pos g3,decide_eq_false (show ¬ ¬ (us.length:Int) > 10 from fun h=>h g3),Bool.false_and];exact jt
    simp only [if_neg g3,decide_eq_true g3,Bool.true_and]
    by_cases g4:1≤nx∧nx≤1000000000000
    · simp only [decide_eq_true g4,if_true,Bool.true_and]
      refine Ev.bind (impl_used_ok q bs us nx hs') ?_
      have:=j0 (decide (usedM bs us > q))
      rwa [show (!decide (usedM bs us > q))=decide (¬ usedM bs us > q) by by_cases h:usedM bs us > q <;> simp [h]] at this
    · simp only [decide_eq_false g4,Bool.false_eq_true,if_false,Bool.false_and];exact jt
  · simp only [decide_eq_false g1,Bool.false_eq_true,if_false,Bool.false_and];exact jt
theorem spec_copy (q:Int) (bs:List IB) (us:List IU) (nx:Int) (hb:bs.length≤2097152) (hu:us.length≤2097152):spec_l6Copy.f q bs us nx=some (q,bs,us,nx):=by
  unfold spec_l6Copy.f
  simp only [Option.bind_some,List.length_nil,List.nil_append]
  rw [if_pos (by omega),if_pos (by omega)]
theorem impl_copy (q:Int) (bs:List IB) (us:List IU) (nx:Int) (hb:bs.length≤2097152) (hu:us.length≤2097152):impl_copyStore.f q bs us nx=some (q,bs,us,nx):=by
  unfold impl_copyStore.f
  simp only [Option.bind_some,List.length_nil,List.nil_append]
  rw [if_pos (by omega),if_pos (by omega)]
def upFrom (l:List IU) (x:Int):Nat→Nat→Int
  | 0,_=>-1
  | d + 1,i=>if (rd_T58 l (i:Int)).f0=x then (i:Int) else upFrom l x d (i + 1)
def upAt (us:List IU) (id:Int):Int:=upFrom us id us.length 0
theorem at_lt (us:List IU) (id:Int):∀ d i:Nat,i + d=us.length→upFrom us id d i = -1∨(0≤upFrom us id d i∧upFrom us id d i < (us.length:Int)):=by
  intro d
  induction d with
  | zero=>intro i hi;exact .inl rfl
  | succ d ih =>
    intro i hi
    unfold upFrom
    split
    · exact .inr ⟨by omega,by omega⟩
    · exact ih (i + 1) (by omega)
theorem spec_at (q:Int) (bs:List IB) (us:List IU) (nx:Int) (id:Int) (hu:us.length≤1048576):Ev (fun k=>spec_l6Upload.f k q bs us nx id) (upAt us id):=by
  unfold spec_l6Upload.f
  have key:∀ d i:Nat,i + d=us.length→Ev (fun k=>spec_l6Upload.l0 k id (i:Int) q bs us nx) (upFrom us id d i):=by
    intro d
    induction d with
    | zero =>
      intro i hi
      refine Ev.step (f:=fun _=>some (-1)) (fun k=>?_) (Ev.now _)
      simp only [spec_l6Upload.l0];rw [if_neg (by omega)]
    | succ d ih =>
      intro i hi
      unfold upFrom
      by_cases h:(rd_T58 us (i:Int)).f0=id
      · rw [if_pos h]
        refine Ev.step (f:=fun _=>some (i:Int)) (fun k=>?_) (Ev.now _)
        simp only [spec_l6Upload.l0];rw [if_pos (by omega),if_pos (by omega),if_pos h]
      · rw [if_neg h]
        refine Ev.step (fun k=>?_) (ih (i + 1) (by omega))
        simp only [spec_l6Upload.l0];rw [if_pos (by omega),if_pos (by omega),if_neg h,wrap_nat i (by omega)]
  exact key us.length 0 (by omega)
theorem upAt_lt (us:List IU) (id:Int):upAt us id = -1∨(0≤upAt us id∧upAt us id < (us.length:Int)):=at_lt us id us.length 0 (by omega)
theorem rdU_small (us:List IU) (hs:∀ x ∈ us,x.f1.size≤1048576) (t:Int) (h0:0≤t) (h1:t < (us.length:Int)):(rd_T58 us t).f1.size≤1048576:=by
  obtain ⟨i,rfl⟩:=Int.eq_ofNat_of_zero_le h0
  rw [rdIU us i (by omega)]
  exact hs _ (List.getElem_mem _)
def begM (q:Int) (bs:List IB) (us:List IU) (nx:Int):Int×List IB×List IU×Int×Int×Int :=
  if (us.length:Int)=10 then (q,bs,us,nx,0,2) else if nx=1000000000000 then (q,bs,us,nx,0,2) else (q,bs,us ++ [(⟨nx,(⟨#[]⟩:ByteArray)⟩:IU)],wrap64 (nx + 1),nx,0)
theorem spec_begin6 (q:Int) (bs:List IB) (us:List IU) (nx:Int) (hb:bs.length≤2097152) (hu:us.length≤2097152):spec_l6Begin.f q bs us nx=some (begM q bs us nx):=by
  unfold spec_l6Begin.f begM
  rw [spec_copy q bs us nx hb hu,Option.bind_some]
  split
  · rfl
  · split
    · rfl
    · rw [if_pos (show us.length < 5864062014805 by omega)]
def chkM (q:Int) (bs:List IB) (us:List IU) (nx id off:Int) (data:ByteArray):Int×List IB×List IU×Int×Int :=
  if upAt us id < 0 then (q,bs,us,nx,3)
  else if off=((rd_T58 us (upAt us id)).f1.size:Int) then (if wrap64 (usedM bs us + (data.size:Int)) > q then (q,bs,us,nx,5) else (q,bs,us.set (upAt us id).toNat ⟨(rd_T58 us (upAt us id)).f0,(rd_T58 us (upAt us id)).f1 ++ data⟩,nx,0))
  else (q,bs,us,nx,4)
theorem spec_chunk6 (q:Int) (bs:List IB) (us:List IU) (nx id off:Int) (data:ByteArray) (hs:Small bs us) (hd:data.size≤1048576):Ev (fun k=>spec_l6Chunk.f k q bs us nx id off data) (chkM q bs us nx id off data):=by
  unfold spec_l6Chunk.f chkM
  have h1:=hs.1;have h2:=hs.2.1
  rw [spec_copy q bs us nx (by omega) (by omega)]
  simp only [Option.bind_some]
  refine Ev.bind (spec_at q bs us nx id h2) ?_
  have hlt:=upAt_lt us id
  generalize upAt us id=t at hlt
  by_cases g:t < 0
  · simp only [if_pos g];exact Ev.now _
  have h0:0≤t:=by omega
  have h3:t < (us.length:Int):=by omega
  have h4:=rdU_small us hs.2.2.2 t h0 h3
  simp only [if_neg g,if_pos h0,if_pos h3]
  by_cases g2:off=((rd_T58 us t).f1.size:Int)
  · simp only [if_pos g2]
    refine Ev.bind (spec_used q bs us nx hs) ?_
    by_cases g3:wrap64 (usedM bs us + (data.size:Int)) > q
    · simp only [if_pos g3];exact Ev.now _
    · simp only [if_neg g3,if_pos (show (rd_T58 us t).f1.size + data.size≤9223372036854775807 by omega)];exact Ev.now _
  · simp only [if_neg g2];exact Ev.now _
theorem cmp_lt:∀ a b:List UInt8,Lib.compareBytes a b < 0↔a < b
  | [],[]=>by simp [Lib.compareBytes]
  | [],_ :: _=>by simp [Lib.compareBytes]
  | _ :: _,[]=>by simp [Lib.compareBytes]
  | a :: as_,b :: bs=>by
    unfold Lib.compareBytes
    rw [List.cons_lt_cons_iff]
    by_cases h:a < b
    · simp [h]
    · by_cases k:b < a
      · have:a≠b:=fun e=>by subst e;exact h k
        simp [h,k,this]
      · have:a=b:=UInt8.le_antisymm (UInt8.not_lt.1 k) (UInt8.not_lt.1 h)
        simp [h,k,this,cmp_lt as_ bs]
theorem cmp_eq0:∀ a b:List UInt8,Lib.compareBytes a b=0↔a=b
  | [],[]=>by simp [Lib.compareBytes]
  | [],_ :: _=>by simp [Lib.compareBytes]
  | _ :: _,[]=>by simp [Lib.compareBytes]
  | a :: as_,b :: bs=>by
    unfold Lib.compareBytes
    by_cases h:a < b
    · have:a≠b:=fun e=>by subst e;exact absurd h (UInt8.lt_irrefl a)
      simp [h,this]
    · by_cases k:b < a
      · have:a≠b:=fun e=>by subst e;exact h k
        simp [h,k,this]
      · have:a=b:=UInt8.le_antisymm (UInt8.not_lt.1 k) (UInt8.not_lt.1 h)
        simp [h,k,this,cmp_eq0 as_ bs]
theorem cmp_less (a b:ByteArray):Lib.compareBytes a.data.toList b.data.toList < 0↔less a b=true:=by rw [cmp_lt,less_iff]
theorem cmp_same (a b:ByteArray):Lib.compareBytes a.data.toList b.data.toList=0↔a=b:=by
  rw [cmp_eq0];exact ⟨byte_ext,fun h=>by rw [h]⟩
def digs (bs:List IB):List ByteArray:=bs.map fun x=>x.f0
theorem digs_len (bs:List IB):(digs bs).length=bs.length:=by simp [digs]
theorem rd_digs (bs:List IB) (i:Nat) (h:i < bs.length):(rd_T56 bs (i:Int)).f0=(digs bs)[i]'(by rw [digs_len];exact h):=by rw [rdIB bs i h];simp [digs]
theorem storeM_rising {q:Int} {bs:List IB} {us:List IU} {nx:Int} (h:storeM q bs us nx=true):Rising (digs bs):=by
  unfold storeM at h
  simp only [Bool.and_eq_true] at h
  have hb:=h.2.2.2.2.2.1
  rw [List.all_eq_true] at hb
  refine rising_of _ fun i hi=>?_
  rw [digs_len] at hi
  have:=hb (i + 1) (List.mem_range.2 hi)
  unfold blM at this
  simp only [Bool.and_eq_true,Bool.or_eq_true,decide_eq_true_eq] at this
  have h2:=this.2.resolve_left (by omega)
  rw [show i + 1 - 1=i from rfl,rd_digs bs i (by omega),rd_digs bs (i + 1) hi] at h2
  exact h2
theorem bs_place {bs:List IB} {d:ByteArray} (hr:Rising (digs bs)):∀ k i j:Nat,i≤j→j≤bs.length→j - i≤k→(∀ (q:Nat) (h:q < (digs bs).length),q < i→less (digs bs)[q] d=true)→(∀ (q:Nat) (h:q < (digs bs).length),j≤q→¬ less (digs bs)[q] d=true)→PlaceS (digs bs) d (impl_blobOf.bs bs d k i j):=by
  have hl:=digs_len bs
  have done:∀ i j:Nat,i≤j→j≤bs.length→¬ i < j→(∀ (q:Nat) (h:q < (digs bs).length),q < i→less (digs bs)[q] d=true)→(∀ (q:Nat) (h:q < (digs bs).length),j≤q→¬ less (digs bs)[q] d=true)→PlaceS (digs bs) d i:=fun i j h1 h2 h3 ha hb=>⟨by omega,ha,fun q h hq=>hb q h (by omega)⟩
  intro k
  induction k with
  | zero=>intro i j h1 h2 h3 ha hb;exact done i j h1 h2 (by omega) ha hb
  | succ k ih =>
    intro i j h1 h2 h3 ha hb
    unfold impl_blobOf.bs
    by_cases g:i < j
    · rw [if_pos g]
      have hm:(i + j) / 2 < bs.length:=by omega
      by_cases c:Lib.compareBytes (rd_T56 bs (((i + j) / 2:Nat):Int)).f0.data.toList d.data.toList < 0
      · rw [if_pos c]
        rw [cmp_less,rd_digs bs _ hm] at c
        refine ih _ _ (by omega) h2 (by omega) (fun q h hq=>?_) hb
        by_cases e:q=(i + j) / 2
        · subst e;exact c
        · exact less_trans (hr q _ h (by omega) (by omega)) c
      · rw [if_neg c]
        rw [cmp_less,rd_digs bs _ hm] at c
        refine ih _ _ (by omega) (by omega) (by omega) ha (fun q h hq=>?_)
        by_cases e:q=(i + j) / 2
        · subst e;exact c
        · exact fun hh=>c (less_trans (hr _ q (by omega) h (by omega)) hh)
    · rw [if_neg g];exact done i j h1 h2 g ha hb
def plB (bs:List IB) (d:ByteArray):Nat:=impl_blobOf.bs bs d bs.length 0 bs.length
theorem plB_is {bs:List IB} {d:ByteArray} (hr:Rising (digs bs)):PlaceS (digs bs) d (plB bs d) :=
  bs_place hr bs.length 0 bs.length (by omega) (by omega) (by omega) (fun q h hq=>absurd hq (by omega)) (fun q h hq=>by rw [digs_len] at h;omega)
def thB (bs:List IB) (d:ByteArray):Bool:=at? (digs bs) d (plB bs d)
theorem impl_blob (q:Int) (bs:List IB) (us:List IU) (nx:Int) (d:ByteArray) (hb:bs.length≤1048576):impl_blobOf.f q bs us nx d=some ((plB bs d:Int),thB bs d):=by
  unfold impl_blobOf.f
  rw [if_pos (by omega)]
  show some ((plB bs d:Int),decide (plB bs d < bs.length) && decide (Lib.compareBytes (rd_T56 bs (plB bs d:Int)).f0.data.toList d.data.toList=0))=_
  have:(decide (plB bs d < bs.length) && decide (Lib.compareBytes (rd_T56 bs (plB bs d:Int)).f0.data.toList d.data.toList=0))=thB bs d:=by
    unfold thB at?
    by_cases h:plB bs d < bs.length
    · rw [decide_eq_true h,Bool.true_and,rd_digs bs _ h,List.getElem?_eq_getElem (by rw [digs_len];exact h)]
      simp only [cmp_same,Option.some.injEq]
    · rw [decide_eq_false h,Bool.false_and,List.getElem?_eq_none (by rw [digs_len];omega)];rfl
  rw [this]
def linB (bs:List IB) (d:ByteArray):Nat→Nat→Int
  | 0,_=>-1
  | k + 1,i=>if (rd_T56 bs (i:Int)).f0=d then (i:Int) else linB bs d k (i + 1)
theorem linB_is (bs:List IB) (d:ByteArray):∀ k i:Nat,i + k=bs.length→(linB bs d k i = -1∧∀ (q:Nat) (h:q < (digs bs).length),i≤q→(digs bs)[q]≠d)∨∃ (q:Nat) (h:q < (digs bs).length),linB bs d k i=(q:Int)∧(digs bs)[q]=d:=by
  have hl:=digs_len bs
  intro k
  induction k with
  | zero=>intro i hi;exact .inl ⟨rfl,fun q h hq=>by omega⟩
  | succ k ih =>
    intro i hi
    unfold linB
    by_cases g:(rd_T56 bs (i:Int)).f0=d
    · rw [if_pos g]
      rw [rd_digs bs i (by omega)] at g
      exact .inr ⟨i,by omega,rfl,g⟩
    · rw [if_neg g]
      rw [rd_digs bs i (by omega)] at g
      rcases ih (i + 1) (by omega) with ⟨h1,h2⟩ | h
      · refine .inl ⟨h1,fun q h hq=>?_⟩
        by_cases e:q=i
        · subst e;exact g
        · exact h2 q h (by omega)
      · exact .inr h
theorem spec_lin (q:Int) (bs:List IB) (us:List IU) (nx:Int) (d:ByteArray) (hb:bs.length≤1048576):Ev (fun k=>spec_l6Blob.f k q bs us nx d) (linB bs d bs.length 0):=by
  unfold spec_l6Blob.f
  have key:∀ n i:Nat,i + n=bs.length→Ev (fun k=>spec_l6Blob.l0 k d (i:Int) q bs us nx) (linB bs d n i):=by
    intro n
    induction n with
    | zero =>
      intro i hi
      refine Ev.step (f:=fun _=>some (-1)) (fun k=>?_) (Ev.now _)
      simp only [spec_l6Blob.l0];rw [if_neg (by omega)]
    | succ n ih =>
      intro i hi
      unfold linB
      by_cases h:(rd_T56 bs (i:Int)).f0=d
      · rw [if_pos h]
        refine Ev.step (f:=fun _=>some (i:Int)) (fun k=>?_) (Ev.now _)
        simp only [spec_l6Blob.l0];rw [if_pos (by omega),if_pos (by omega),if_pos (by rw [h])]
      · rw [if_neg h]
        refine Ev.step (fun k=>?_) (ih (i + 1) (by omega))
        simp only [spec_l6Blob.l0];rw [if_pos (by omega),if_pos (by omega),if_neg (fun e=>h ((same_is _ _).1 e)),wrap_nat i (by omega)]
  exact key bs.length 0 (by omega)
theorem lin_pl {bs:List IB} {d:ByteArray} (hr:Rising (digs bs)):linB bs d bs.length 0=if thB bs d=true then (plB bs d:Int) else -1:=by
  have hp:=plB_is (d:=d) hr
  have hi:thB bs d=true↔d ∈ digs bs:=at_iff hr hp
  rcases linB_is bs d bs.length 0 (by omega) with ⟨h1,h2⟩ | ⟨q,h,h1,h2⟩
  · rw [h1,if_neg]
    intro ht
    obtain ⟨q,h,e⟩:=List.getElem_of_mem (hi.1 ht)
    exact h2 q h (by omega) e
  · have hm:d ∈ digs bs:=h2 ▸ List.getElem_mem h
    rw [h1,if_pos (hi.2 hm)]
    have:=place_of_mem hr hp hm
    obtain ⟨hl,e⟩:=List.getElem?_eq_some_iff.1 this
    have hq:q=plB bs d:=by
      rcases Nat.lt_trichotomy q (plB bs d) with c | c | c
      · exact absurd (hr q _ h hl c) (by rw [h2,e];exact less_irrefl d)
      · exact c
      · exact absurd (hr _ q hl h c) (by rw [h2,e];exact less_irrefl d)
    rw [hq]
def finM (q:Int) (bs:List IB) (us:List IU) (nx id:Int) (d:ByteArray):Int×List IB×List IU×Int×Int :=
  if upAt us id < 0 then (q,bs,us,nx,3) else
  if d=digestM (rd_T58 us (upAt us id)).f1 then
    (if thB bs d=true then (q,bs,us.eraseIdx (upAt us id).toNat,nx,0) else
     if (bs.length:Int)=60 then (q,bs,us,nx,2) else
     (q,bs.take (plB bs d) ++ [⟨d,(rd_T58 us (upAt us id)).f1⟩] ++ bs.drop (plB bs d),us.eraseIdx (upAt us id).toNat,nx,0))
  else (q,bs,us,nx,6)
theorem fin_j2 (q:Int) (bs:List IB) (us:List IU) (nx t:Int) (hu:us.length≤1048576) (h0:0≤t) (h1:t < (us.length:Int)):Ev (fun k=>spec_l6Finish.j2 k t q bs us nx) (q,bs,us.eraseIdx t.toNat,nx,0):=by
  have ew:wrap64 (t + 1)=t + 1:=by unfold wrap64;omega
  refine Ev.step (f:=fun _=>some (q,bs,us.eraseIdx t.toNat,nx,0)) (fun k=>?_) (Ev.now _)
  simp only [spec_l6Finish.j2]
  rw [if_pos h0,if_pos (by omega),ew,if_pos (by omega),if_pos (by omega)]
theorem fin_j1 (q : Int) (bs : List IB) (us : List IU) (nx : Int) (d data : ByteArray) (t : Int) (hb : bs.length ≤ 1048576) (hu : us.length ≤ 1048576) (i : Nat) (hi : i ≤ bs.length) (h0 : 0 ≤ t) (h1 : t < (us.length : Int)) :
    Ev (fun k=>spec_l6Finish.j1 k d t data q bs us nx q (bs.take i) us nx) (q,bs.take i ++ [⟨d,data⟩] ++ bs.drop i,us.eraseIdx t.toNat,nx,0):=by
  have htl:(bs.take i).length=i:=by rw [List.length_take];omega
  have c1:i < 4398046511104:=by omega
  have c2:(0:Int)≤(i:Int):=by omega
  have c3:(i:Int)≤(bs.length:Int):=by omega
  have c4:(bs.take i ++ [(⟨d,data⟩:IB)]).length + (bs.drop i).length < 4398046511104:=by rw [List.length_append,htl,List.length_drop];simp only [List.length_singleton];omega
  refine Ev.step (fun k=>?_) (fin_j2 q (bs.take i ++ [⟨d,data⟩] ++ bs.drop i) us nx t hu h0 h1)
  simp only [spec_l6Finish.j1]
  simp only [htl,if_pos c1,Option.bind_some,if_pos c2,if_pos c3,Int.toNat_natCast,if_pos c4]
theorem fin_loop (q : Int) (bs : List IB) (us : List IU) (nx : Int) (d data : ByteArray) (t : Int) (hb : bs.length ≤ 1048576) (hu : us.length ≤ 1048576) (p : Nat) (hp : PlaceS (digs bs) d p) (h0 : 0 ≤ t) (h1 : t < (us.length : Int)) :
    ∀ n i:Nat,i + n=p→Ev (fun k=>spec_l6Finish.l0 k d t data (i:Int) q bs us nx q (bs.take i) us nx) (q,bs.take p ++ [⟨d,data⟩] ++ bs.drop p,us.eraseIdx t.toNat,nx,0):=by
  have hl:=digs_len bs
  have hpl:p≤bs.length:=by have:=hp.1;omega
  intro n
  induction n with
  | zero =>
    intro i hi
    obtain rfl:i=p:=by omega
    refine Ev.step (fun k=>?_) (fin_j1 q bs us nx d data t hb hu i hpl h0 h1)
    simp only [spec_l6Finish.l0]
    by_cases g:(i:Int) < (bs.length:Int)
    · rw [if_pos g, if_pos (by omega), if_neg (show ¬ Op.bytesLess ((rd_T56 bs (i : Int)).f0.toList) d.toList = true by
        rw [rd_digs bs i (by omega)];exact hp.2.2 i (by omega) (Nat.le_refl _))]
    · rw [if_neg g]
  | succ n ih =>
    intro i hi
    have htl:(bs.take i).length=i:=by rw [List.length_take];omega
    have hil:i < bs.length:=by omega
    refine Ev.step (fun k=>?_) (ih (i + 1) (by omega))
    simp only [spec_l6Finish.l0]
    rw [if_pos (show (i:Int) < (bs.length:Int) by omega),if_pos (show (0:Int)≤(i:Int) by omega),if_pos (show Op.bytesLess ((rd_T56 bs (i:Int)).f0.toList) d.toList=true by
      rw [rd_digs bs i hil];exact hp.2.1 i (by omega) (by omega)),if_pos (by rw [htl];omega),wrap_nat i (by omega)]
    have e:bs.take i ++ [(⟨(rd_T56 bs (i:Int)).f0,(rd_T56 bs (i:Int)).f1⟩:IB)]=bs.take (i + 1):=by
      rw [rdIB bs i hil,List.take_add_one,List.getElem?_eq_getElem hil];rfl
    rw [e]
theorem spec_fin6 (q:Int) (bs:List IB) (us:List IU) (nx id:Int) (d:ByteArray) (hs:Small bs us) (hr:Rising (digs bs)):Ev (fun k=>spec_l6Finish.f k q bs us nx id d) (finM q bs us nx id d):=by
  unfold spec_l6Finish.f finM
  have h1:=hs.1;have h2:=hs.2.1
  rw [spec_copy q bs us nx (by omega) (by omega)]
  simp only [Option.bind_some]
  refine Ev.bind (spec_at q bs us nx id h2) ?_
  have hlt:=upAt_lt us id
  generalize upAt us id=t at hlt
  by_cases g:t < 0
  · simp only [if_pos g];exact Ev.now _
  have ew:wrap64 (t + 1)=t + 1:=by unfold wrap64;omega
  simp only [if_neg g,if_pos (show 0≤t by omega),if_pos (show t < (us.length:Int) by omega)]
  refine Ev.bind (spec_digest _ (by have:=rdU_small us (fun x hx=>hs.2.2.2 x hx) t (by omega) (by omega);omega)) ?_
  by_cases hd:d=digestM (rd_T58 us t).f1
  · rw [if_pos hd]
    have e1:d.toList=(digestM (rd_T58 us t).f1).toList:=by rw [← hd]
    simp only [if_pos e1]
    refine Ev.bind (spec_lin q bs us nx d h1) ?_
    rw [lin_pl (d:=d) hr]
    by_cases ht:thB bs d=true
    · simp only [if_pos ht,if_neg (show ¬ ((plB bs d:Nat):Int) < 0 by omega)]
      exact fin_j2 q bs us nx t h2 (by omega) (by omega)
    · simp only [if_neg ht,if_pos (show (-1:Int) < 0 by omega)]
      by_cases h60:(bs.length:Int)=60
      · simp only [if_pos h60];exact Ev.now _
      simp only [if_neg h60]
      exact fin_loop q bs us nx d _ t h1 h2 (plB bs d) (plB_is hr) (by omega) (by omega) (plB bs d) 0 (by omega)
  · rw [if_neg hd]
    simp only [if_neg (show ¬ d.toList=(digestM (rd_T58 us t).f1).toList from fun e=>hd ((same_is _ _).1 e))]
    exact Ev.now _
theorem empty_app (data:ByteArray):(⟨#[]⟩:ByteArray) ++ data=data:=ByteArray.ext (by rw [ByteArray.data_append];simp)
theorem rd_snoc (us:List IU) (z:IU):rd_T58 (us ++ [z]) (us.length:Int)=z:=by
  rw [rdIU _ _ (by rw [List.length_append,List.length_singleton];omega),List.getElem_append_right (Nat.le_refl _)];simp
theorem at_snoc (us:List IU) (z:IU) (id:Int) (hu:∀ x ∈ us,x.f0≠id) (hz:z.f0=id):∀ d i:Nat,i + d=us.length→upFrom (us ++ [z]) id (d + 1) i=(us.length:Int):=by
  intro d
  induction d with
  | zero =>
    intro i hi
    obtain rfl:i=us.length:=by omega
    unfold upFrom
    rw [rd_snoc,if_pos hz]
  | succ d ih =>
    intro i hi
    have h1:i < us.length:=by omega
    unfold upFrom
    rw [rdIU _ i (by rw [List.length_append];omega),List.getElem_append_left h1,if_neg (hu _ (List.getElem_mem h1))]
    exact ih (i + 1) (by omega)
theorem upAt_snoc (us:List IU) (z:IU) (id:Int) (hu:∀ x ∈ us,x.f0≠id) (hz:z.f0=id):upAt (us ++ [z]) id=(us.length:Int):=by
  unfold upAt
  rw [List.length_append,List.length_singleton]
  exact at_snoc us z id hu hz us.length 0 (by omega)
theorem accU_snoc (us:List IU) (z:IU):∀ i:Nat,i≤us.length→accU (us ++ [z]) i=accU us i:=by
  intro i
  induction i with
  | zero=>intro _;rfl
  | succ i ih =>
    intro hi
    rw [accU,accU,ih (by omega),rdIU _ i (by rw [List.length_append];omega),rdIU us i (by omega),List.getElem_append_left (by omega)]
theorem used_snoc (bs:List IB) (us:List IU) (z:IU) (hz:z.f1.size=0):usedM bs (us ++ [z])=usedM bs us:=by
  unfold usedM
  rw [List.length_append,List.length_singleton,accU,accU_snoc us z _ (Nat.le_refl _),rd_snoc,hz];omega
theorem storeM_ids {q:Int} {bs:List IB} {us:List IU} {nx:Int} (h:storeM q bs us nx=true):(1≤nx∧nx≤1000000000000)∧us.length≤10∧∀ x ∈ us,x.f0≠nx:=by
  unfold storeM at h
  simp only [Bool.and_eq_true,decide_eq_true_eq] at h
  obtain ⟨_,_,h10,hnx,_,_,hall⟩:=h
  refine ⟨hnx,by omega,fun x hx e=>?_⟩
  obtain ⟨i,hi,rfl⟩:=List.getElem_of_mem hx
  rw [List.all_eq_true] at hall
  have:=hall i (List.mem_range.2 hi)
  unfold upM at this
  simp only [Bool.and_eq_true,decide_eq_true_eq] at this
  have h2:=this.1.2
  rw [rdIU us i hi] at h2
  have ew:wrap64 (nx - 1)=nx - 1:=by unfold wrap64;omega
  rw [ew,e] at h2
  omega
def kepM (q:Int) (bs:List IB) (us:List IU) (nx:Int) (data:ByteArray):Int×List IB×List IU×Int×Int :=
  if (us.length:Int)=10 then (q,bs,us,nx,2) else if nx=1000000000000 then (q,bs,us,nx,2) else
  if wrap64 (usedM bs us + (data.size:Int)) > q then (q,bs,us,nx,5) else
  if thB bs (digestM data)=true then (q,bs,us,wrap64 (nx + 1),0) else
  if (bs.length:Int)=60 then (q,bs,us,nx,2) else
  (q,bs.take (plB bs (digestM data)) ++ [⟨digestM data,data⟩] ++ bs.drop (plB bs (digestM data)),us,wrap64 (nx + 1),0)
theorem chk_new (q : Int) (bs : List IB) (us : List IU) (nx nx' : Int) (data : ByteArray) (hu : ∀ x ∈ us, x.f0 ≠ nx) :
    chkM q bs (us ++ [(⟨nx,(⟨#[]⟩:ByteArray)⟩:IU)]) nx' nx 0 data=if wrap64 (usedM bs us + (data.size:Int)) > q then (q,bs,us ++ [(⟨nx,(⟨#[]⟩:ByteArray)⟩:IU)],nx',5) else (q,bs,us ++ [(⟨nx,data⟩:IU)],nx',0):=by
  unfold chkM
  rw [upAt_snoc us _ nx hu rfl,if_neg (by omega),rd_snoc,used_snoc bs us _ rfl,if_pos (show (0:Int)=(((⟨#[]⟩:ByteArray).size:Nat):Int) from rfl),Int.toNat_natCast,List.set_append_right _ _ (Nat.le_refl _),Nat.sub_self,empty_app]
  rfl
theorem fin_new (q : Int) (bs : List IB) (us : List IU) (nx nx' : Int) (data : ByteArray) (hu : ∀ x ∈ us, x.f0 ≠ nx) :
    finM q bs (us ++ [(⟨nx,data⟩:IU)]) nx' nx (digestM data)=if thB bs (digestM data)=true then (q,bs,us,nx',0) else if (bs.length:Int)=60 then (q,bs,us ++ [(⟨nx,data⟩:IU)],nx',2) else (q,bs.take (plB bs (digestM data)) ++ [⟨digestM data,data⟩] ++ bs.drop (plB bs (digestM data)),us,nx',0):=by
  unfold finM
  have e:(us ++ [(⟨nx,data⟩:IU)]).eraseIdx us.length=us:=by rw [List.eraseIdx_append_of_length_le (Nat.le_refl _),Nat.sub_self];simp
  rw [upAt_snoc us _ nx hu rfl,if_neg (by omega),rd_snoc,if_pos rfl,Int.toNat_natCast,e]
theorem keep_bad (q : Int) (bs : List IB) (us : List IU) (nx : Int) (data : ByteArray) (id code : Int) (hc : ¬ code = 0) (q' : Int) (bs' : List IB) (us' : List IU) (nx' : Int) (hb : bs.length ≤ 2097152) (hu : us.length ≤ 2097152) :
    Ev (fun k=>spec_l6Keep.j1 k code q bs us nx q' bs' us' nx') (q,bs,us,nx,code):=by
  refine Ev.step (f:=fun _=>some (q,bs,us,nx,code)) (fun k=>?_) (Ev.now _)
  simp only [spec_l6Keep.j1]
  rw [if_neg hc,spec_copy q bs us nx hb hu];rfl
theorem keep_bad0 (q : Int) (bs : List IB) (us : List IU) (nx : Int) (data : ByteArray) (id code : Int) (hc : ¬ code = 0) (q' : Int) (bs' : List IB) (us' : List IU) (nx' : Int) (hb : bs.length ≤ 2097152) (hu : us.length ≤ 2097152) :
    Ev (fun k=>spec_l6Keep.j0 k data id code q bs us nx q' bs' us' nx') (q,bs,us,nx,code):=by
  refine Ev.step (fun k=>?_) (keep_bad q bs us nx data id code hc q' bs' us' nx' hb hu)
  simp only [spec_l6Keep.j0]
  rw [if_neg hc]
theorem small_snoc {bs:List IB} {us:List IU} (hs:Small bs us) (h10:us.length≤10) (z:IU) (hz:z.f1.size≤1048576):Small bs (us ++ [z]):=by
  refine ⟨hs.1,by rw [List.length_append,List.length_singleton];omega,hs.2.2.1,fun x hx=>?_⟩
  rcases List.mem_append.1 hx with h | h
  · exact hs.2.2.2 x h
  · rw [List.mem_singleton.1 h];exact hz
theorem spec_kep6 (q:Int) (bs:List IB) (us:List IU) (nx:Int) (data:ByteArray) (hs:Small bs us) (hd:data.size≤1048576) (hS:storeM q bs us nx=true):Ev (fun k=>spec_l6Keep.f k q bs us nx data) (kepM q bs us nx data):=by
  have hr:=storeM_rising hS
  obtain ⟨hnx,h10,hid⟩:=storeM_ids hS
  have h1:=hs.1;have h2:=hs.2.1
  unfold spec_l6Keep.f kepM
  rw [spec_begin6 q bs us nx (by omega) (by omega)]
  simp only [Option.bind_some]
  unfold begM
  by_cases g1:(us.length:Int)=10
  · simp only [if_pos g1,if_neg (show ¬ (2:Int)=0 by omega)]
    exact keep_bad0 q bs us nx data _ 2 (by omega) _ _ _ _ (by omega) (by omega)
  simp only [if_neg g1]
  by_cases g2:nx=1000000000000
  · simp only [if_pos g2,if_neg (show ¬ (2:Int)=0 by omega)]
    exact keep_bad0 q bs us nx data _ 2 (by omega) _ _ _ _ (by omega) (by omega)
  simp only [if_neg g2,if_true]
  refine Ev.bind (spec_chunk6 q bs _ (wrap64 (nx + 1)) nx 0 data (small_snoc hs h10 _ (by show (0:Nat)≤_;omega)) hd) ?_
  rw [chk_new q bs us nx (wrap64 (nx + 1)) data hid]
  by_cases g3:wrap64 (usedM bs us + (data.size:Int)) > q
  · simp only [if_pos g3]
    exact keep_bad0 q bs us nx data _ 5 (by omega) _ _ _ _ (by omega) (by omega)
  simp only [if_neg g3]
  refine Ev.step (fun k=>by simp only [spec_l6Keep.j0,if_true];rfl) ?_
  refine Ev.bind (spec_digest data (by omega)) ?_
  refine Ev.bind (spec_fin6 q bs _ (wrap64 (nx + 1)) nx (digestM data) (small_snoc hs h10 _ hd) hr) ?_
  rw [fin_new q bs us nx (wrap64 (nx + 1)) data hid]
  by_cases g4:thB bs (digestM data)=true
  · simp only [if_pos g4]
    exact Ev.step (f:=fun _=>some (q,bs,us,wrap64 (nx + 1),0)) (fun k=>by simp only [spec_l6Keep.j1,if_true]) (Ev.now _)
  simp only [if_neg g4]
  by_cases g5:(bs.length:Int)=60
  · simp only [if_pos g5]
    exact keep_bad q bs us nx data 0 2 (by omega) _ _ _ _ (by omega) (by omega)
  simp only [if_neg g5]
  exact Ev.step (f:=fun _=>some (q,bs.take (plB bs (digestM data)) ++ [⟨digestM data,data⟩] ++ bs.drop (plB bs (digestM data)),us,wrap64 (nx + 1),0)) (fun k=>by simp only [spec_l6Keep.j1,if_true]) (Ev.now _)
def keepM (q:Int) (bs:List IB) (us:List IU) (nx:Int) (data:ByteArray):Int×List IB×List IU×Int×Int :=
  if storeM q bs us nx=true then kepM q bs us nx data else (0,[],[],0,1)
theorem spec_keep (q:Int) (bs:List IB) (us:List IU) (nx:Int) (data:ByteArray) (hs:Small bs us) (hd:data.size≤1048576):Ev (fun k=>spec_Keep.f k q bs us nx data) (keepM q bs us nx data):=by
  unfold spec_Keep.f keepM
  refine Ev.bind (spec_storeOk q bs us nx hs) ?_
  have hk:=spec_kep6 q bs us nx data hs hd
  generalize storeM q bs us nx=S at hk
  cases S with
  | true=>simp only [if_true];exact Ev.bind (hk rfl) (Ev.now _)
  | false=>simp only [Bool.false_eq_true,if_false];exact Ev.now _
section
variable {l:List Int} (hb:∀ x ∈ l,(Lit.int .u8 x).wf=true) (hm:l.length≤140737488351232)
include hb in
theorem rd_u8 (i:Int):0≤rd l i∧rd l i≤255:=by
  unfold rd
  rw [List.getD_eq_getElem?_getD]
  by_cases h:i.toNat < l.length
  · rw [List.getElem?_eq_getElem h];exact wf_u8 (hb _ (List.getElem_mem h))
  · rw [List.getElem?_eq_none (by omega)];simp
include hb hm in
theorem next_ok (p:Int) (h0:0≤p) (h1:p≤l.length):∃ c q,spec_l1Rd_next.f l p=some (c,q)∧0≤c∧c≤255∧0≤q∧q≤l.length:=by
  unfold spec_l1Rd_next.f
  by_cases h:p≥(l.length:Int)
  · exact ⟨0,p,by rw [if_pos h],by omega,by omega,h0,h1⟩
  · have e1:wrap64 (p + 1)=p + 1:=by unfold wrap64;omega
    have e2:wrap64 (p + 1 - 1)=p:=by unfold wrap64;omega
    obtain ⟨r0,r1⟩:=rd_u8 hb p
    have e3:wrap64 (rd l p)=rd l p:=by unfold wrap64;omega
    exact ⟨rd l p,p + 1,by rw [if_neg h,e1,e2,if_pos h0,if_pos (by omega),e3],r0,r1,by omega,by omega⟩
include hb hm in
theorem below_ok (p n:Int) (h0:0≤p) (h1:p≤l.length) (n0:1≤n) (n1:n≤1000000):∃ c q,spec_l1Rd_below.f l p n=some (c,q)∧0≤c∧c < n∧0≤q∧q≤l.length:=by
  unfold spec_l1Rd_below.f
  by_cases h:n≤1
  · exact ⟨0,p,by rw [if_pos h],by omega,by omega,h0,h1⟩
  · rw [if_neg h]
    obtain ⟨c,q,hc,c0,c1,q0,q1⟩:=next_ok hb hm p h0 h1
    by_cases h2:n≤256
    · refine ⟨c % n,q,?_,Int.emod_nonneg _ (by omega),Int.emod_lt_of_pos _ (by omega),q0,q1⟩
      rw [if_pos h2,hc];simp only [Option.bind_some];rw [if_neg (by omega),Int.tmod_eq_emod_of_nonneg c0]
    · obtain ⟨d,q',hd,d0,d1,q0',q1'⟩:=next_ok hb hm q q0 q1
      have e:wrap64 (wrap64 (c * 256) + d)=c * 256 + d:=by unfold wrap64;omega
      refine ⟨(c * 256 + d) % n,q',?_,Int.emod_nonneg _ (by omega),Int.emod_lt_of_pos _ (by omega),q0',q1'⟩
      rw [if_neg h2,hc];simp only [Option.bind_some];rw [hd];simp only [Option.bind_some];rw [if_neg (by omega),e,Int.tmod_eq_emod_of_nonneg (by omega)]
include hb hm in
theorem once_ok (p n:Int) (h0:0≤p) (h1:p≤l.length) (n0:1≤n) (n1:n≤1000000):∃ b q,spec_l1Rd_once.f l p n=some (b,q)∧0≤q∧q≤l.length:=by
  unfold spec_l1Rd_once.f
  obtain ⟨c,q,hc,c0,c1,q0,q1⟩:=below_ok hb hm p n h0 h1 n0 n1
  exact ⟨_,q,by rw [hc];rfl,q0,q1⟩
include hb hm in
theorem data_ok (p:Int) (h0:0≤p) (h1:p≤l.length):∃ (s:ByteArray) (q:Int),spec_l1Rd_data.f l p=some (s,q)∧s.size≤6∧0≤q∧q≤l.length:=by
  unfold spec_l1Rd_data.f
  obtain ⟨c,q,hc,c0,c1,q0,q1⟩:=below_ok hb hm p 8 h0 h1 (by omega) (by omega)
  simp only [Option.bind_some,hc]
  rw [if_pos c0,if_pos (by simp only [List.length_cons,List.length_nil];omega)]
  refine ⟨_,q,rfl,?_,q0,q1⟩
  have:c=0∨c=1∨c=2∨c=3∨c=4∨c=5∨c=6∨c=7:=by omega
  rcases this with rfl | rfl | rfl | rfl | rfl | rfl | rfl | rfl <;> decide
theorem or_u64_range (x y:Int):0≤Go.bits .or .u64 x y∧Go.bits .or .u64 x y≤18446744073709551615:=by
  simp only [Go.bits,IntKind.wrap_u64];omega
include hb hm in
theorem word_loop (d:Nat):∀ (x j p:Int),j + d=8→0≤j→0≤x→x≤18446744073709551615→0≤p→p≤l.length→∃ r q,Ev (fun k=>spec_l1Rd_word.l0 k x j l p) (r,q)∧0≤r∧r≤18446744073709551615∧0≤q∧q≤l.length:=by
  induction d with
  | zero =>
    intro x j p hj hj0 x0 x1 h0 h1
    refine ⟨x,p,Ev.step (f:=fun _=>some (x,p)) (fun k=>?_) (Ev.now _),x0,x1,h0,h1⟩
    simp only [spec_l1Rd_word.l0];rw [if_neg (by omega)]
  | succ d ih =>
    intro x j p hj hj0 x0 x1 h0 h1
    obtain ⟨c,q,hc,c0,c1,q0,q1⟩:=next_ok hb hm p h0 h1
    obtain ⟨r0,r1⟩:=or_u64_range (IntKind.u64.wrap (x * 256)) (IntKind.u64.wrap c)
    obtain ⟨r,q',hr,h⟩:=ih _ (j + 1) q (by omega) (by omega) r0 r1 q0 q1
    refine ⟨r,q',Ev.step (f:=fun k=>spec_l1Rd_word.l0 k (Go.bits .or .u64 (IntKind.u64.wrap (x * 256)) (IntKind.u64.wrap c)) (j + 1) l q) (fun k=>?_) hr,h⟩
    simp only [spec_l1Rd_word.l0];rw [if_pos (by omega),hc];simp only [Option.bind_some]
    rw [show wrap64 (j + 1)=j + 1 by unfold wrap64;omega]
include hb hm in
theorem word_ok (p:Int) (h0:0≤p) (h1:p≤l.length):∃ r q,Ev (fun k=>spec_l1Rd_word.f k l p) (r,q)∧0≤r∧r≤18446744073709551615∧0≤q∧q≤l.length:=by
  unfold spec_l1Rd_word.f
  exact word_loop hb hm 8 0 0 p (by omega) (by omega) (by omega) (by omega) h0 h1
include hb hm in
theorem near_ok (p lo hi : Int) (h0 : 0 ≤ p) (h1 : p ≤ l.length) (b0 : -4611686018427387904 ≤ lo) (b1 : lo ≤ hi) (b2 : hi ≤ 4611686018427387903) :
    ∃ r q,Ev (fun k=>spec_l1Rd_near.f k l p lo hi) (r,q)∧lo≤r∧r≤hi∧0≤q∧q≤l.length:=by
  unfold spec_l1Rd_near.f
  obtain ⟨c,q,hc,c0,c1,q0,q1⟩:=below_ok hb hm p 8 h0 h1 (by omega) (by omega)
  simp only [hc,Option.bind_some]
  by_cases z0:c=0
  · exact ⟨lo,q,by simp only [if_pos z0];exact Ev.now _,by omega,by omega,q0,q1⟩
  by_cases z1:c=1
  · exact ⟨hi,q,by simp only [if_neg z0,if_pos z1];exact Ev.now _,by omega,by omega,q0,q1⟩
  obtain ⟨r,q',hr,r0,r1,q0',q1'⟩:=word_ok hb hm q q0 q1
  have e1:IntKind.u64.wrap (wrap64 (wrap64 (hi - lo) + 1))=hi - lo + 1:=by rw [IntKind.wrap_u64];unfold wrap64;omega
  have m0:0≤(r / 2) % (hi - lo + 1):=Int.emod_nonneg _ (by omega)
  have m1:(r / 2) % (hi - lo + 1) < hi - lo + 1:=Int.emod_lt_of_pos _ (by omega)
  have e2:wrap64 (lo + wrap64 (Int.tmod (r / 2) (hi - lo + 1)))=lo + (r / 2) % (hi - lo + 1):=by
    rw [Int.tmod_eq_emod_of_nonneg (by omega)];unfold wrap64;omega
  refine ⟨lo + (r / 2) % (hi - lo + 1),q',?_,by omega,by omega,q0',q1'⟩
  simp only [if_neg z0,if_neg z1,if_neg (show ¬ hi < lo by omega),e1,if_neg (show ¬ hi - lo + 1=0 by omega)]
  refine Ev.bind hr ?_
  simp only [e2];exact Ev.now _
include hb hm in
theorem off_ok (p lo hi : Int) (h0 : 0 ≤ p) (h1 : p ≤ l.length) (b0 : -4611686018427387904 ≤ lo) (b1 : lo ≤ hi) (b2 : hi ≤ 4611686018427387903) :
    ∃ r q,Ev (fun k=>spec_l1Rd_off.f k l p lo hi) (r,q)∧-9223372036854775808≤r∧r≤9223372036854775807∧0≤q∧q≤l.length:=by
  unfold spec_l1Rd_off.f
  obtain ⟨b,q,hc,q0,q1⟩:=once_ok hb hm p 24 h0 h1 (by omega) (by omega)
  simp only [hc,Option.bind_some]
  cases b with
  | true =>
    obtain ⟨c,q',hd,c0,c1,q0',q1'⟩:=below_ok hb hm q 4 q0 q1 (by omega) (by omega)
    simp only [hd,Option.bind_some,if_true]
    rw [if_pos c0,if_pos (by simp;omega)]
    refine ⟨_,q',Ev.now _,?_,?_,q0',q1'⟩
    all_goals
      have:c=0∨c=1∨c=2∨c=3:=by omega
      rcases this with rfl | rfl | rfl | rfl <;> simp [rd] <;> unfold wrap64 <;> omega
  | false =>
    obtain ⟨r,q',hr,r0,r1,q0',q1'⟩:=near_ok hb hm q lo hi q0 q1 b0 b1 b2
    refine ⟨r,q',?_,by omega,by omega,q0',q1'⟩
    simp only [Bool.false_eq_true,if_false]
    exact Ev.bind hr (Ev.now _)
theorem dec_loop (d:Nat):∀ (n:Int) (acc:ByteArray),0≤n→n.toNat≤d→acc.size + d≤1000→∃ t,Ev (fun k=>spec_l1Dec.l0 k n acc) t∧t.size≤1000:=by
  induction d with
  | zero =>
    intro n acc h0 h1 hs
    exact ⟨acc,Ev.step (f:=fun _=>some acc) (fun k=>by simp only [spec_l1Dec.l0];rw [if_neg (by omega)]) (Ev.now _),by omega⟩
  | succ d ih =>
    intro n acc h0 h1 hs
    by_cases hz:n > 0
    · have e1:wrap64 (Int.tdiv n 10)=n / 10:=by rw [Int.tdiv_eq_ediv_of_nonneg h0];unfold wrap64;omega
      have sz:(strOfNums [wrap64 (48 + Int.tmod n 10) % 256]).size=1:=by rw [size_strOfNums];rfl
      obtain ⟨t,ht,hts⟩:=ih (n / 10) (strOfNums [wrap64 (48 + Int.tmod n 10) % 256] ++ acc) (by omega) (by omega) (by rw [ByteArray.size_append,sz];omega)
      refine ⟨t,Ev.step (fun k=>?_) ht,hts⟩
      simp only [spec_l1Dec.l0];rw [if_pos hz,bindS,if_pos (by rw [sz];omega),e1]
    · exact ⟨acc,Ev.step (f:=fun _=>some acc) (fun k=>by simp only [spec_l1Dec.l0];rw [if_neg hz]) (Ev.now _),by omega⟩
theorem dec_ok (n:Int) (h0:0≤n) (h1:n≤999):∃ t,Ev (fun k=>spec_l1Dec.f k n) t∧t.size≤1000:=by
  unfold spec_l1Dec.f
  by_cases hz:n=0
  · exact ⟨_,by simp only [if_pos hz];exact Ev.now _,by decide⟩
  · obtain ⟨t,ht,hs⟩:=dec_loop n.toNat n ⟨#[]⟩ h0 (Nat.le_refl _) (by show 0 + n.toNat≤_;omega)
    exact ⟨t,by simp only [if_neg hz];exact ht,hs⟩
include hb hm in
theorem size_ok (p per most:Int) (h0:0≤p) (h1:p≤l.length) (a0:1≤per) (b0:1≤most) (b1:most≤1000):∃ c q,spec_l1Rd_size.f l p per most=some (c,q)∧1≤c∧c≤most∧0≤q∧q≤l.length:=by
  unfold spec_l1Rd_size.f
  rw [if_neg (by omega)]
  have hd:0≤(l.length:Int) / per:=Int.ediv_nonneg (by omega) (by omega)
  have hd2:(l.length:Int) / per≤l.length:=Int.ediv_le_self _ (by omega)
  generalize (l.length:Int) / per=D at hd hd2
  have e:wrap64 (1 + wrap64 D)=1 + D:=by unfold wrap64;omega
  rw [e]
  clear e
  by_cases h:1 + D > most
  · obtain ⟨c,q,hc,c0,c1,q0,q1⟩:=below_ok hb hm p most h0 h1 (by omega) (by omega)
    refine ⟨1 + c,q,?_,by omega,by omega,q0,q1⟩
    rw [if_pos h,hc,Option.bind_some,show wrap64 (1 + c)=1 + c by unfold wrap64;omega]
  · obtain ⟨c,q,hc,c0,c1,q0,q1⟩:=below_ok hb hm p (1 + D) h0 h1 (by omega) (by omega)
    refine ⟨1 + c,q,?_,by omega,by omega,q0,q1⟩
    rw [if_neg h,hc,Option.bind_some,show wrap64 (1 + c)=1 + c by unfold wrap64;omega]
def Bd (n:Nat) (bs:List IB) (us:List IU):Prop:=bs.length≤n∧us.length≤n∧(∀ x ∈ bs,x.f0.size≤2000∧x.f1.size≤2000)∧∀ x ∈ us,x.f1.size≤10 * n
theorem Bd.small {n:Nat} {bs:List IB} {us:List IU} (h:Bd n bs us) (hn:n≤1000):Small bs us :=
  ⟨by have:=h.1;omega,by have:=h.2.1;omega,fun x hx=>by have:=h.2.2.1 x hx;omega,fun x hx=>by have:=h.2.2.2 x hx;omega⟩
theorem Bd.mono {n m:Nat} {bs:List IB} {us:List IU} (h:Bd n bs us) (hn:n≤m):Bd m bs us :=
  ⟨by have:=h.1;omega,by have:=h.2.1;omega,h.2.2.1,fun x hx=>by have:=h.2.2.2 x hx;omega⟩
theorem Bd.none (n:Nat):Bd n [] []:=⟨Nat.zero_le _,Nat.zero_le _,fun x hx=>absurd hx List.not_mem_nil,fun x hx=>absurd hx List.not_mem_nil⟩
theorem Bd.put {n:Nat} {bs:List IB} {us:List IU} (h:Bd n bs us) (p:Nat) (z:IB) (hz:z.f0.size≤2000∧z.f1.size≤2000):Bd (n + 1) (bs.take p ++ [z] ++ bs.drop p) us:=by
  have h1:=h.1
  refine ⟨by simp only [List.length_append,List.length_take,List.length_drop,List.length_singleton];omega,by have:=h.2.1;omega,fun x hx=>?_,fun x hx=>by have:=h.2.2.2 x hx;omega⟩
  rcases List.mem_append.1 hx with hx | hx
  · rcases List.mem_append.1 hx with hx | hx
    · exact h.2.2.1 x (List.mem_of_mem_take hx)
    · rw [List.mem_singleton.1 hx];exact hz
  · exact h.2.2.1 x (List.mem_of_mem_drop hx)
theorem keep_bd {n:Nat} {q:Int} {bs:List IB} {us:List IU} {nx:Int} {data:ByteArray} (h:Bd n bs us) (hd:data.size≤2000):Bd (n + 1) (keepM q bs us nx data).2.1 (keepM q bs us nx data).2.2.1:=by
  have h1:Bd (n + 1) bs us:=h.mono (by omega)
  have hz:=digestM_size data
  unfold keepM kepM
  split
  · split
    · exact h1
    · split
      · exact h1
      · split
        · exact h1
        · split
          · exact h1
          · split
            · exact h1
            · exact h.put _ _ ⟨by show (digestM data).size≤_;omega,hd⟩
  · exact Bd.none _
def beginM (q:Int) (bs:List IB) (us:List IU) (nx:Int):Int×List IB×List IU×Int×Int×Int:=if storeM q bs us nx=true then begM q bs us nx else (0,[],[],0,0,1)
theorem spec_begin (q:Int) (bs:List IB) (us:List IU) (nx:Int) (hs:Small bs us):Ev (fun k=>spec_Begin.f k q bs us nx) (beginM q bs us nx):=by
  unfold spec_Begin.f beginM
  refine Ev.bind (spec_storeOk q bs us nx hs) ?_
  cases storeM q bs us nx with
  | true=>simp only [if_true,spec_begin6 q bs us nx (by have:=hs.1;omega) (by have:=hs.2.1;omega),Option.bind_some];exact Ev.now _
  | false=>simp only [Bool.false_eq_true,if_false];exact Ev.now _
theorem begin_bd {n:Nat} {q:Int} {bs:List IB} {us:List IU} {nx:Int} (h:Bd n bs us):Bd (n + 1) (beginM q bs us nx).2.1 (beginM q bs us nx).2.2.1:=by
  have h1:Bd (n + 1) bs us:=h.mono (by omega)
  unfold beginM begM
  split
  · split
    · exact h1
    · split
      · exact h1
      · refine ⟨h1.1,by have:=h.2.1;simp only [List.length_append,List.length_singleton];omega,h.2.2.1,fun x hx=>?_⟩
        rcases List.mem_append.1 hx with hx | hx
        · have:=h.2.2.2 x hx;omega
        · rw [List.mem_singleton.1 hx];exact Nat.zero_le _
  · exact Bd.none _
def chunkM (q:Int) (bs:List IB) (us:List IU) (nx id off:Int) (data:ByteArray):Int×List IB×List IU×Int×Int:=if storeM q bs us nx=true then chkM q bs us nx id off data else (0,[],[],0,1)
theorem spec_chunk (q:Int) (bs:List IB) (us:List IU) (nx id off:Int) (data:ByteArray) (hs:Small bs us) (hd:data.size≤1048576):Ev (fun k=>spec_Chunk.f k q bs us nx id off data) (chunkM q bs us nx id off data):=by
  unfold spec_Chunk.f chunkM
  refine Ev.bind (spec_storeOk q bs us nx hs) ?_
  cases storeM q bs us nx with
  | true=>simp only [if_true];exact Ev.bind (spec_chunk6 q bs us nx id off data hs hd) (Ev.now _)
  | false=>simp only [Bool.false_eq_true,if_false];exact Ev.now _
theorem rdU_le (us:List IU) (n:Nat) (hs:∀ x ∈ us,x.f1.size≤n) (t:Int) (h0:0≤t) (h1:t < (us.length:Int)):(rd_T58 us t).f1.size≤n:=by
  obtain ⟨i,rfl⟩:∃ i:Nat,t=(i:Int):=⟨t.toNat,by omega⟩
  rw [rdIU us i (by omega)]
  exact hs _ (List.getElem_mem _)
theorem chunk_bd {n:Nat} {q:Int} {bs:List IB} {us:List IU} {nx id off:Int} {data:ByteArray} (h:Bd n bs us) (hd:data.size≤10):Bd (n + 1) (chunkM q bs us nx id off data).2.1 (chunkM q bs us nx id off data).2.2.1:=by
  have h1:Bd (n + 1) bs us:=h.mono (by omega)
  have hlt:=upAt_lt us id
  unfold chunkM chkM
  split
  · split
    · exact h1
    · rename_i hn
      split
      · split
        · exact h1
        · refine ⟨h1.1,by show (us.set _ _).length≤_;rw [List.length_set];exact h1.2.1,h1.2.2.1,fun x hx=>?_⟩
          rcases List.mem_or_eq_of_mem_set hx with hx | rfl
          · exact h1.2.2.2 x hx
          · have:=rdU_le us _ h.2.2.2 (upAt us id) (by omega) (by omega)
            show ((rd_T58 us (upAt us id)).f1 ++ data).size≤_
            rw [ByteArray.size_append];omega
      · exact h1
  · exact Bd.none _
theorem fill_ok (p q:Int) (bs:List IB) (d:Nat):∀ (us:List IU) (nx:Int) (m:Nat),10 - us.length≤d→Bd m bs us→∃ (us':List IU) (nx':Int),Ev (fun k=>spec_l1Rd_store.l1 k l p q bs us nx) (q,bs,us',nx',p)∧Bd (m + d) bs us':=by
  induction d with
  | zero =>
    intro us nx m hd hB
    refine ⟨us,nx,Ev.step (f:=fun _=>some (q,bs,us,nx,p)) (fun k=>?_) (Ev.now _),hB⟩
    simp only [spec_l1Rd_store.l1];rw [if_neg (by omega)]
  | succ d ih =>
    intro us nx m hd hB
    by_cases h:us.length < 10
    · have hB2 : Bd (m + 1) bs (us ++ [(⟨nx, (⟨#[]⟩ : ByteArray)⟩ : IU)]) := by
        refine ⟨by have:=hB.1;omega,by have:=hB.2.1;simp only [List.length_append,List.length_singleton];omega,hB.2.2.1,fun x hx=>?_⟩
        rcases List.mem_append.1 hx with hx | hx
        · have:=hB.2.2.2 x hx;omega
        · rw [List.mem_singleton.1 hx];exact Nat.zero_le _
      obtain ⟨us',nx',he,hB3⟩:=ih (us ++ [(⟨nx,(⟨#[]⟩:ByteArray)⟩:IU)]) (wrap64 (nx + 1)) (m + 1) (by rw [List.length_append,List.length_singleton];omega) hB2
      refine ⟨us',nx',Ev.step (fun k=>?_) he,by rw [show m + (d + 1)=m + 1 + d by omega];exact hB3⟩
      simp only [spec_l1Rd_store.l1];rw [if_pos (by omega),if_pos (by omega)]
    · refine ⟨us,nx,Ev.step (f:=fun _=>some (q,bs,us,nx,p)) (fun k=>?_) (Ev.now _),hB.mono (by omega)⟩
      simp only [spec_l1Rd_store.l1];rw [if_neg (by omega)]
def Gives (F:Nat→Option (Int×List IB×List IU×Int×Int)) (L:Int):Prop:=∃ (q:Int) (bs:List IB) (us:List IU) (nx p:Int),Ev F (q,bs,us,nx,p)∧Bd 200 bs us∧0≤p∧p≤L
theorem Gives.step {F G:Nat→Option (Int×List IB×List IU×Int×Int)} {L:Int} (h:∀ k,F (k + 1)=G k) (hG:Gives G L):Gives F L:=by
  obtain ⟨q,bs,us,nx,p,he,h2⟩:=hG
  exact ⟨q,bs,us,nx,p,Ev.step h he,h2⟩
theorem Gives.bind {α:Type} {g:Nat→Option α} {a:α} {F:Nat→α→Option (Int×List IB×List IU×Int×Int)} {L:Int} (h:Ev g a) (hF:Gives (fun k=>F k a) L):Gives (fun k=>(g k).bind (F k)) L:=by
  obtain ⟨q,bs,us,nx,p,he,h2⟩:=hF
  exact ⟨q,bs,us,nx,p,Ev.bind h he,h2⟩
include hb hm in
theorem store_loop (d:Nat):∀ (n p q:Int) (bs:List IB) (us:List IU) (nx:Int) (m:Nat),n.toNat≤d→m + d≤100→Bd m bs us→0≤p→p≤l.length→Gives (fun k=>spec_l1Rd_store.l0 k n l p q bs us nx) l.length:=by
  have stop:∀ (n p q:Int) (bs:List IB) (us:List IU) (nx:Int) (m:Nat),¬ n > 0→m≤100→Bd m bs us→0≤p→p≤l.length→Gives (fun k=>spec_l1Rd_store.l0 k n l p q bs us nx) l.length:=by
    intro n p q bs us nx m hn hm1 hB h0 h1
    obtain ⟨c,p2,hc,c0,c1,q0,q1⟩:=below_ok hb hm p 40 h0 h1 (by omega) (by omega)
    by_cases z0:c=0
    · obtain ⟨r,p3,hr,_,_,q30,q31⟩:=off_ok hb hm p2 0 40 q0 q1 (by omega) (by omega) (by omega)
      refine Gives.step (G:=fun k=>(spec_l1Rd_off.f k l p2 0 40).bind fun bt=>some (bt.1,bs,us,nx,bt.2)) (fun k=>?_) (Gives.bind hr ⟨r,bs,us,nx,p3,Ev.now _,hB.mono (by omega),q30,q31⟩)
      simp only [spec_l1Rd_store.l0,if_neg hn,hc,bindS,if_pos z0]
    by_cases z1:c=1
    · by_cases hl:(bs.length:Int) > 0
      · have hx:=hB.2.2.1 _ (List.getElem_mem (show 0 < bs.length by omega))
        have e0:rd_T56 bs 0=bs[0]'(by omega):=rdIB bs 0 (by omega)
        refine ⟨q,bs.set (0:Int).toNat (⟨(rd_T56 bs 0).f0,(⟨#[111,116,104,101,114]⟩:ByteArray)⟩:IB),us,nx,p2,Ev.step (f:=fun _=>some (q,bs.set (0:Int).toNat (⟨(rd_T56 bs 0).f0,(⟨#[111,116,104,101,114]⟩:ByteArray)⟩:IB),us,nx,p2)) (fun k=>?_) (Ev.now _),?_,q0,q1⟩
        · simp only [spec_l1Rd_store.l0,if_neg hn,hc,bindS,if_neg z0,if_pos z1,if_pos hl,if_pos (show (0:Int) < (bs.length:Int) by omega)]
        · refine ⟨by rw [List.length_set];have:=hB.1;omega,by have:=hB.2.1;omega,fun x hx2=>?_,fun x hx2=>by have:=hB.2.2.2 x hx2;omega⟩
          rcases List.mem_or_eq_of_mem_set hx2 with hx2 | rfl
          · exact hB.2.2.1 x hx2
          · rw [e0];exact ⟨hx.1,by show (⟨#[111,116,104,101,114]⟩:ByteArray).size≤2000;decide⟩
      · refine ⟨q,bs,us,nx,p2,Ev.step (f:=fun _=>some (q,bs,us,nx,p2)) (fun k=>?_) (Ev.now _),hB.mono (by omega),q0,q1⟩
        simp only [spec_l1Rd_store.l0,if_neg hn,hc,bindS,if_neg z0,if_pos z1,if_neg hl]
    by_cases z2:c=2
    · obtain ⟨r,p3,hr,_,_,q30,q31⟩:=off_ok hb hm p2 1 1000000000000 q0 q1 (by omega) (by omega) (by omega)
      refine Gives.step (G:=fun k=>(spec_l1Rd_off.f k l p2 1 1000000000000).bind fun bt=>some (q,bs,us,bt.1,bt.2)) (fun k=>?_) (Gives.bind hr ⟨q,bs,us,r,p3,Ev.now _,hB.mono (by omega),q30,q31⟩)
      simp only [spec_l1Rd_store.l0,if_neg hn,hc,bindS,if_neg z0,if_neg z1,if_pos z2]
    by_cases z3:c=3
    · obtain ⟨us',nx',he,hB2⟩:=fill_ok (l:=l) p2 q bs 10 us nx m (by omega) hB
      refine Gives.step (G:=fun k=>spec_l1Rd_store.l1 k l p2 q bs us nx) (fun k=>?_) ⟨q,bs,us',nx',p2,he,hB2.mono (by omega),q0,q1⟩
      simp only [spec_l1Rd_store.l0,if_neg hn,hc,bindS,if_neg z0,if_neg z1,if_neg z2,if_pos z3]
    · refine ⟨q,bs,us,nx,p2,Ev.step (f:=fun _=>some (q,bs,us,nx,p2)) (fun k=>?_) (Ev.now _),hB.mono (by omega),q0,q1⟩
      simp only [spec_l1Rd_store.l0,if_neg hn,hc,bindS,if_neg z0,if_neg z1,if_neg z2,if_neg z3]
  induction d with
  | zero=>intro n p q bs us nx m hd hmd hB h0 h1;exact stop n p q bs us nx m (by omega) (by omega) hB h0 h1
  | succ d ih =>
    intro n p q bs us nx m hd hmd hB h0 h1
    by_cases hn:n > 0
    case neg=>exact stop n p q bs us nx m hn (by omega) hB h0 h1
    obtain ⟨c,p2,hc,c0,c1,q0,q1⟩:=below_ok hb hm p 4 h0 h1 (by omega) (by omega)
    have ew:wrap64 (n - 1)=n - 1:=by unfold wrap64;omega
    have hSm:=hB.small (by omega)
    have j2:∀ (x p3 q':Int) (bs':List IB) (us':List IU) (nx':Int),Bd (m + 1) bs' us'→0≤p3→p3≤l.length→Gives (fun k=>spec_l1Rd_store.j2 k n x l p3 q bs us nx q' bs' us' nx') l.length:=by
      intro x p3 q' bs' us' nx' hB' a0 a1
      by_cases hx:x=0
      · exact Gives.step (fun k=>by simp only [spec_l1Rd_store.j2,if_pos hx,ew]) (ih (n - 1) p3 q' bs' us' nx' (m + 1) (by omega) (by omega) hB' a0 a1)
      · exact Gives.step (fun k=>by simp only [spec_l1Rd_store.j2,if_neg hx,ew]) (ih (n - 1) p3 q bs us nx (m + 1) (by omega) (by omega) (hB.mono (by omega)) a0 a1)
    have keep:Gives (fun k=>spec_l1Rd_store.j1 k n 0 c true l p2 q bs us nx q bs us nx) l.length:=by
      obtain ⟨s,p3,hd2,hz,q30,q31⟩:=data_ok hb hm p2 q0 q1
      refine Gives.step (G:=fun k=>(spec_Keep.f k q bs us nx s).bind fun bt429=>(spec_l1Rd_store.j2 k n bt429.2.2.2.2 l p3 q bs us nx bt429.1 bt429.2.1 bt429.2.2.1 bt429.2.2.2.1)) (fun k=>by simp only [spec_l1Rd_store.j1,if_true,hd2,bindS]) ?_
      exact Gives.bind (spec_keep q bs us nx s hSm (by omega)) (j2 _ _ _ _ _ _ (keep_bd hB (by omega)) q30 q31)
    have other:¬ c=0→¬ c=1→Gives (fun k=>spec_l1Rd_store.j1 k n 0 c false l p2 q bs us nx q bs us nx) l.length:=by
      intro z0 z1
      by_cases z2:c=2
      · refine Gives.step (G:=fun k=>(spec_Begin.f k q bs us nx).bind fun bt438=>(spec_l1Rd_store.j2 k n bt438.2.2.2.2.2 l p2 q bs us nx bt438.1 bt438.2.1 bt438.2.2.1 bt438.2.2.2.1)) (fun k=>by simp only [spec_l1Rd_store.j1,Bool.false_eq_true,if_false,if_pos z2]) ?_
        exact Gives.bind (spec_begin q bs us nx hSm) (j2 _ _ _ _ _ _ (begin_bd hB) q0 q1)
      · have z3:c=3:=by omega
        by_cases hl:(us.length:Int) > 0
        · have hul:=hB.2.1
          obtain ⟨e,p3,he,e0,e1,q30,q31⟩:=below_ok hb hm p2 (us.length:Int) q0 q1 (by omega) (by omega)
          obtain ⟨s,p4,hd2,hz,q40,q41⟩:=data_ok hb hm p3 q30 q31
          refine Gives.step (G:=fun k=>(spec_Chunk.f k q bs us nx ((rd_T58 us e).f0) (((rd_T58 us e).f1).size:Int) s).bind fun bt454=>(spec_l1Rd_store.j2 k n bt454.2.2.2.2 l p4 q bs us nx bt454.1 bt454.2.1 bt454.2.2.1 bt454.2.2.2.1)) (fun k=>by simp only [spec_l1Rd_store.j1,Bool.false_eq_true,if_false,if_neg z2,if_pos z3,if_pos hl,he,bindS,if_pos e0,if_pos e1,hd2]) ?_
          exact Gives.bind (spec_chunk q bs us nx _ _ s hSm (by omega)) (j2 _ _ _ _ _ _ (chunk_bd hB (by omega)) q40 q41)
        · exact Gives.step (fun k=>by simp only [spec_l1Rd_store.j1,Bool.false_eq_true,if_false,if_neg z2,if_pos z3,if_neg hl]) (j2 0 p2 q bs us nx (hB.mono (by omega)) q0 q1)
    by_cases z0:c=0
    · refine Gives.step (fun k=>?_) keep
      simp only [spec_l1Rd_store.l0,if_pos hn,hc,bindS,z0,if_true,beq_self_eq_true]
    · by_cases z1:c=1
      · refine Gives.step (fun k=>?_) keep
        simp only [spec_l1Rd_store.l0,if_pos hn,hc,bindS,if_neg z0,beq_iff_eq.2 z1]
      · refine Gives.step (fun k=>?_) (other z0 z1)
        simp only [spec_l1Rd_store.l0,if_pos hn,hc,bindS,if_neg z0,beq_eq_false_iff_ne.2 z1]
include hb hm in
theorem store_ok (p:Int) (h0:0≤p) (h1:p≤l.length):Gives (fun k=>spec_l1Rd_store.f k l p) l.length:=by
  unfold spec_l1Rd_store.f
  obtain ⟨c,p2,hc,c0,c1,q0,q1⟩:=below_ok hb hm p 3 h0 h1 (by omega) (by omega)
  obtain ⟨n,p3,hn,n0,n1,q30,q31⟩:=size_ok hb hm p2 4 8 q0 q1 (by omega) (by omega) (by omega)
  simp only [bindS,hc,if_pos c0,if_pos (show c < (([1000,30,12]:List Int).length:Int) by simp only [List.length_cons,List.length_nil];omega),hn]
  exact store_loop hb hm 8 n p3 _ [] [] 1 0 (by omega) (by omega) (Bd.none _) q30 q31
include hb hm in
theorem kept_end (p q:Int) (bs:List IB) (us:List IU) (nx:Int) (h0:0≤p) (h1:p≤l.length):∃ data:ByteArray,Ev (fun k=>spec_DrawKeep.j1 k l p q bs us nx) (q,bs,us,nx,data)∧data.size≤6:=by
  obtain ⟨s,p2,hd,hz,_,_⟩:=data_ok hb hm p h0 h1
  exact ⟨s,Ev.step (f:=fun _=>some (q,bs,us,nx,s)) (fun k=>by simp only [spec_DrawKeep.j1,hd,bindS]) (Ev.now _),hz⟩
include hb hm in
theorem kept_fill (p:Int) (h0:0≤p) (h1:p≤l.length) (d:Nat):∀ (i:Nat) (q:Int) (bs:List IB) (us:List IU) (nx:Int),i + d=60→Bd i bs us→∃ (q':Int) (bs':List IB) (us':List IU) (nx':Int) (data:ByteArray),Ev (fun k=>spec_DrawKeep.l0 k (i:Int) l p q bs us nx) (q',bs',us',nx',data)∧Bd 200 bs' us'∧data.size≤6:=by
  induction d with
  | zero =>
    intro i q bs us nx hi hB
    obtain ⟨s,he,hz⟩:=kept_end hb hm p q bs us nx h0 h1
    exact ⟨q,bs,us,nx,s,Ev.step (fun k=>by simp only [spec_DrawKeep.l0];rw [if_neg (by omega)]) he,hB.mono (by omega),hz⟩
  | succ d ih =>
    intro i q bs us nx hi hB
    obtain ⟨t,ht,htz⟩:=dec_ok (i:Int) (by omega) (by omega)
    have hz:((⟨#[98,108,111,98]⟩:ByteArray) ++ t).size≤2000:=by rw [ByteArray.size_append,show (⟨#[98,108,111,98]⟩:ByteArray).size=4 from rfl];omega
    have hk:=spec_keep q bs us nx ((⟨#[98,108,111,98]⟩:ByteArray) ++ t) (hB.small (by omega)) (by omega)
    have hB2:=keep_bd (q:=q) (nx:=nx) hB hz
    generalize keepM q bs us nx ((⟨#[98,108,111,98]⟩:ByteArray) ++ t)=R at hk hB2
    obtain ⟨q',bs',us',nx',s,he,hr⟩:=ih (i + 1) R.1 R.2.1 R.2.2.1 R.2.2.2.1 (by omega) hB2
    refine ⟨q',bs',us',nx',s,Ev.step (f:=fun k=>(spec_l1Dec.f k (i:Int)).bind fun t492=>(if 4 + t492.size≤9223372036854775807 then ((spec_Keep.f k q bs us nx ((⟨#[98,108,111,98]⟩:ByteArray) ++ t492)).bind fun bt493=>(spec_DrawKeep.l0 k ((i + 1:Nat):Int) l p bt493.1 bt493.2.1 bt493.2.2.1 bt493.2.2.2.1)) else (none))) (fun k=>?_) (Ev.bind ht ?_),hr⟩
    · simp only [spec_DrawKeep.l0];rw [if_pos (by omega),wrap_nat i (by omega)]
    · simp only [if_pos (show 4 + t.size≤9223372036854775807 by omega)];exact Ev.bind hk he
include hb hm in
theorem draw_ok:∃ (q:Int) (bs:List IB) (us:List IU) (nx:Int) (data:ByteArray),Ev (fun k=>spec_DrawKeep.f k l) (q,bs,us,nx,data)∧Bd 200 bs us∧data.size≤6:=by
  unfold spec_DrawKeep.f spec_l1Open.f
  obtain ⟨q,bs,us,nx,p,he,hB,q0,q1⟩:=store_ok hb hm 0 (by omega) (by omega)
  obtain ⟨b,p2,hc,q20,q21⟩:=once_ok hb hm p 40 q0 q1 (by omega) (by omega)
  simp only [bindS]
  cases b with
  | true =>
    obtain ⟨q',bs',us',nx',s,he2,hr⟩:=kept_fill hb hm p2 q20 q21 60 0 1000 [] [] 1 (by omega) (Bd.none _)
    refine ⟨q',bs',us',nx',s,Ev.bind he ?_,hr⟩
    simp only [hc,bindS,if_true];exact he2
  | false =>
    obtain ⟨s,he2,hz⟩:=kept_end hb hm p2 q bs us nx q20 q21
    refine ⟨q,bs,us,nx,s,Ev.bind he ?_,hB,hz⟩
    simp only [hc,bindS,Bool.false_eq_true,if_false];exact he2
end
theorem up_is (us:List IU) (id:Int):∀ d i:Nat,impl_uploadOf.at us id d i=upFrom us id d i:=by
  intro d
  induction d with
  | zero=>intro i;rfl
  | succ d ih=>intro i;unfold impl_uploadOf.at upFrom;rw [ih]
theorem impl_at (q:Int) (bs:List IB) (us:List IU) (nx:Int) (id:Int) (hu:us.length≤1048576):impl_uploadOf.f q bs us nx id=some (upAt us id):=by
  unfold impl_uploadOf.f
  rw [if_pos (by omega),up_is];rfl
theorem impl_begin (q:Int) (bs:List IB) (us:List IU) (nx:Int) (hs:Small bs us):Ev (fun k=>impl_Begin.f k q bs us nx) (beginM q bs us nx):=by
  unfold impl_Begin.f beginM
  rw [impl_copy q bs us nx (by have:=hs.1;omega) (by have:=hs.2.1;omega)]
  simp only [Option.bind_some]
  refine Ev.bind (impl_storeOk q bs us nx hs) ?_
  have h2:=hs.2.1
  cases storeM q bs us nx with
  | true =>
    simp only [if_true]
    unfold begM
    split
    · exact Ev.now _
    · split
      · exact Ev.now _
      · rw [if_pos (show us.length < 5864062014805 by omega)];exact Ev.now _
  | false=>simp only [Bool.false_eq_true,if_false];exact Ev.now _
theorem impl_chunk (q:Int) (bs:List IB) (us:List IU) (nx id off:Int) (data:ByteArray) (hs:Small bs us) (hd:data.size≤1048576):Ev (fun k=>impl_Chunk.f k q bs us nx id off data) (chunkM q bs us nx id off data):=by
  unfold impl_Chunk.f chunkM
  have h1:=hs.1;have h2:=hs.2.1
  rw [impl_copy q bs us nx (by omega) (by omega),impl_at q bs us nx id h2]
  simp only [Option.bind_some]
  refine Ev.bind (impl_storeOk q bs us nx hs) ?_
  cases storeM q bs us nx with
  | false=>simp only [Bool.false_eq_true,if_false];exact Ev.now _
  | true =>
    simp only [if_true]
    unfold chkM
    have hlt:=upAt_lt us id
    generalize upAt us id=t at hlt
    by_cases g:t < 0
    · simp only [if_pos g];exact Ev.now _
    have h0:0≤t:=by omega
    have h3:t < (us.length:Int):=by omega
    have h4:=rdU_small us hs.2.2.2 t h0 h3
    simp only [if_neg g,if_pos h0,if_pos h3]
    by_cases g2:off=((rd_T58 us t).f1.size:Int)
    · simp only [if_pos g2]
      refine Ev.bind (impl_used_ok q bs us nx hs) ?_
      by_cases g3:wrap64 (usedM bs us + (data.size:Int)) > q
      · simp only [if_pos g3];exact Ev.now _
      · simp only [if_neg g3,if_pos (show (rd_T58 us t).f1.size + data.size≤9223372036854775807 by omega)];exact Ev.now _
    · simp only [if_neg g2];exact Ev.now _
def finishM (q:Int) (bs:List IB) (us:List IU) (nx id:Int) (d:ByteArray):Int×List IB×List IU×Int×Int :=
  if storeM q bs us nx=true then finM q bs us nx id d else (0,[],[],0,1)
theorem impl_finish (q:Int) (bs:List IB) (us:List IU) (nx id:Int) (d:ByteArray) (hs:Small bs us):Ev (fun k=>impl_Finish.f k q bs us nx id d) (finishM q bs us nx id d):=by
  unfold impl_Finish.f finishM
  have h1:=hs.1;have h2:=hs.2.1
  rw [impl_copy q bs us nx (by omega) (by omega),impl_at q bs us nx id h2]
  simp only [Option.bind_some]
  refine Ev.bind (impl_storeOk q bs us nx hs) ?_
  have hr:=@storeM_rising q bs us nx
  generalize storeM q bs us nx=S at hr
  cases S with
  | false=>simp only [Bool.false_eq_true,if_false];exact Ev.now _
  | true =>
    simp only [if_true]
    unfold finM
    have hlt:=upAt_lt us id
    generalize upAt us id=t at hlt
    by_cases g:t < 0
    · simp only [if_pos g];exact Ev.now _
    have ew:wrap64 (t + 1)=t + 1:=by unfold wrap64;omega
    simp only [if_neg g,if_pos (show 0≤t by omega),if_pos (show t < (us.length:Int) by omega)]
    have hdig:Ev (fun k=>impl_digestOf.f k (rd_T58 us t).f1) (digestM (rd_T58 us t).f1):=by
      unfold impl_digestOf.f
      exact Ev.bind (impl_digest_ok _ (by have:=rdU_small us (fun x hx=>hs.2.2.2 x hx) t (by omega) (by omega);omega)) (Ev.now _)
    refine Ev.bind hdig ?_
    by_cases hd:d=digestM (rd_T58 us t).f1
    · rw [if_pos hd]
      have e1:d.toList=(digestM (rd_T58 us t).f1).toList:=by rw [← hd]
      simp only [if_pos e1]
      rw [impl_blob q bs us nx d h1]
      simp only [Option.bind_some]
      have eup:impl_Upload.f us t (wrap64 (t + 1))=some (us.eraseIdx t.toNat):=by
        unfold impl_Upload.f
        rw [ew,if_pos ⟨by omega,rfl,by omega⟩]
      have hj:∀ bs':List IB,Ev (fun k=>impl_Finish.j0 k t q bs' us nx) (q,bs',us.eraseIdx t.toNat,nx,0):=fun bs'=>Ev.step (f:=fun _=>some (q,bs',us.eraseIdx t.toNat,nx,0)) (fun k=>by simp only [impl_Finish.j0,eup,Option.bind_some]) (Ev.now _)
      by_cases ht:thB bs d=true
      · simp only [if_pos ht];exact hj _
      · simp only [if_neg ht]
        by_cases h60:(bs.length:Int)=60
        · simp only [if_pos h60];exact Ev.now _
        simp only [if_neg h60]
        have hpl:plB bs d≤bs.length:=by have:=(plB_is (d:=d) (hr rfl)).1;rw [digs_len] at this;exact this
        have eib:impl_Blob.f bs ((plB bs d:Nat):Int) [⟨d,(rd_T58 us t).f1⟩]=some (bs.take (plB bs d) ++ [⟨d,(rd_T58 us t).f1⟩] ++ bs.drop (plB bs d)):=by
          unfold impl_Blob.f
          rw [if_pos ⟨by omega,by omega,by simp,by simp only [List.length_singleton];omega⟩,Int.toNat_natCast]
        simp only [eib,Option.bind_some]
        exact hj _
    · rw [if_neg hd]
      simp only [if_neg (show ¬ d.toList=(digestM (rd_T58 us t).f1).toList from fun e=>hd ((same_is _ _).1 e))]
      exact Ev.now _
def aboM (q:Int) (bs:List IB) (us:List IU) (nx id:Int):Int×List IB×List IU×Int×Int :=
  if upAt us id < 0 then (q,bs,us,nx,3) else (q,bs,us.eraseIdx (upAt us id).toNat,nx,0)
def abortM (q:Int) (bs:List IB) (us:List IU) (nx id:Int):Int×List IB×List IU×Int×Int :=
  if storeM q bs us nx=true then aboM q bs us nx id else (0,[],[],0,1)
theorem impl_abort (q:Int) (bs:List IB) (us:List IU) (nx id:Int) (hs:Small bs us):Ev (fun k=>impl_Abort.f k q bs us nx id) (abortM q bs us nx id):=by
  unfold impl_Abort.f abortM
  have h1:=hs.1;have h2:=hs.2.1
  rw [impl_copy q bs us nx (by omega) (by omega),impl_at q bs us nx id h2]
  simp only [Option.bind_some]
  refine Ev.bind (impl_storeOk q bs us nx hs) ?_
  cases storeM q bs us nx with
  | false=>simp only [Bool.false_eq_true,if_false];exact Ev.now _
  | true =>
    simp only [if_true]
    unfold aboM
    have hlt:=upAt_lt us id
    generalize upAt us id=t at hlt
    by_cases g:t < 0
    · simp only [if_pos g];exact Ev.now _
    have ew:wrap64 (t + 1)=t + 1:=by unfold wrap64;omega
    simp only [if_neg g]
    unfold impl_Upload.f
    simp only [ew,if_pos (show 0≤t∧True∧t + 1≤(us.length:Int) from ⟨by omega,trivial,by omega⟩),Option.bind_some]
    exact Ev.now _
def digsM (bs:List IB) (i:Nat):List ByteArray:=(List.range i).map fun (j:Nat)=>(rd_T56 bs (j:Int)).f0
theorem digsM_len (bs:List IB) (i:Nat):(digsM bs i).length=i:=by simp [digsM]
theorem digsM_succ (bs:List IB) (i:Nat):digsM bs (i + 1)=digsM bs i ++ [(rd_T56 bs (i:Int)).f0]:=by
  unfold digsM;rw [List.range_succ,List.map_append];rfl
def digestsM (q:Int) (bs:List IB) (us:List IU) (nx:Int):List ByteArray:=if storeM q bs us nx=true then digsM bs bs.length else []
theorem impl_digestsOf (q:Int) (bs:List IB) (us:List IU) (nx:Int) (hs:Small bs us):Ev (fun k=>impl_DigestsOf.f k q bs us nx) (digestsM q bs us nx):=by
  unfold impl_DigestsOf.f digestsM
  refine Ev.bind (impl_storeOk q bs us nx hs) ?_
  have h1:=hs.1
  cases storeM q bs us nx with
  | false=>simp only [Bool.false_eq_true,if_false];exact Ev.now _
  | true =>
    simp only [if_true]
    refine fold_loop (n:=bs.length) (F:=fun k v i=>impl_DigestsOf.l0 k v bs (bs.length:Int) i) (st:=fun i=>digsM bs i) (fun i hi hr=>?_) (Ev.step (f:=fun _=>some (digsM bs bs.length)) (fun k=>?_) (Ev.now _))
    · refine Ev.step (fun k=>?_) hr
      simp only [impl_DigestsOf.l0];rw [if_pos (by omega),if_pos (by omega),if_pos (by omega),if_pos (by rw [digsM_len];omega),digsM_succ,wrap_nat i (by omega)]
    · simp only [impl_DigestsOf.l0];rw [if_neg (by omega)]
theorem spec_digestsOf (q:Int) (bs:List IB) (us:List IU) (nx:Int) (hs:Small bs us):Ev (fun k=>spec_DigestsOf.f k q bs us nx) (digestsM q bs us nx):=by
  unfold spec_DigestsOf.f digestsM
  refine Ev.bind (Ev.now _) (Ev.bind (spec_storeOk q bs us nx hs) ?_)
  have h1:=hs.1
  cases storeM q bs us nx with
  | false=>simp only [Bool.false_eq_true,if_false];exact Ev.now _
  | true =>
    simp only [if_true]
    refine fold_loop (n:=bs.length) (F:=fun k v i=>spec_DigestsOf.l0 k v i q bs us nx) (st:=fun i=>digsM bs i) (fun i hi hr=>?_) (Ev.step (f:=fun _=>some (digsM bs bs.length)) (fun k=>?_) (Ev.now _))
    · refine Ev.step (fun k=>?_) hr
      simp only [spec_DigestsOf.l0];rw [if_pos (by omega),if_pos (by omega),if_pos (by rw [digsM_len];omega),digsM_succ,wrap_nat i (by omega)]
    · simp only [spec_DigestsOf.l0];rw [if_neg (by omega)]
theorem sameT_refl (l:List ByteArray) (hl:l.length≤2097152):Ev (fun k=>laws_sameTexts.f k l l) true:=by
  unfold laws_sameTexts.f
  simp only [if_true]
  refine on_loop (n:=l.length) (F:=fun k i=>laws_sameTexts.l0 k l l i) (fun i hi k=>?_) (Ev.step (f:=fun _=>some true) (fun k=>?_) (Ev.now _))
  · simp only [laws_sameTexts.l0];rw [if_pos (by omega),if_pos (by omega),if_pos (by omega),if_pos trivial,wrap_nat i (by omega)]
  · simp only [laws_sameTexts.l0];rw [if_neg (by omega)]
def sumB:List IB→Int
  | []=>0
  | x :: l=>(x.f1.size:Int) + sumB l
theorem sumB_app (a b:List IB):sumB (a ++ b)=sumB a + sumB b:=by
  induction a with
  | nil=>simp [sumB]
  | cons x a ih=>rw [List.cons_append,sumB,sumB,ih];omega
theorem sumB_nn (a:List IB):0≤sumB a:=by
  induction a with
  | nil=>exact Int.le_refl _
  | cons x a ih=>rw [sumB];omega
theorem accB_sum (bs:List IB):∀ i:Nat,i≤bs.length→accB bs i=sumB (bs.take i):=by
  intro i
  induction i with
  | zero=>intro _;rw [List.take_zero];rfl
  | succ i ih =>
    intro hi
    rw [accB,ih (by omega),List.take_succ_eq_append_getElem (by omega),sumB_app,rdIB bs i (by omega)]
    simp [sumB]
theorem used_sum (bs:List IB) (us:List IU):usedM bs us=sumB bs + accU us us.length:=by
  rw [usedM,accB_sum bs _ (Nat.le_refl _),List.take_length]
structure Right (q:Int) (bs:List IB) (us:List IU) (nx:Int):Prop where
  q0:0≤q∧q≤200000
  bl:bs.length≤60
  ul:us.length≤10
  nn:1≤nx∧nx≤1000000000000
  used:usedM bs us≤q
  dig:∀ x ∈ bs,x.f0=digestM x.f1
  rise:Rising (digs bs)
  ids:∀ i:Nat,i < us.length→upM us nx i=true
theorem right_of {q:Int} {bs:List IB} {us:List IU} {nx:Int} (h:storeM q bs us nx=true):Right q bs us nx:=by
  have hr:=storeM_rising h
  unfold storeM at h
  simp only [Bool.and_eq_true,decide_eq_true_eq] at h
  obtain ⟨h1,h2,h3,h4,h5,h6,h7⟩:=h
  rw [List.all_eq_true] at h6 h7
  refine ⟨h1,by omega,by omega,h4,by omega,fun x hx=>?_,hr,fun i hi=>h7 i (List.mem_range.2 hi)⟩
  obtain ⟨i,hi,rfl⟩:=List.getElem_of_mem hx
  have:=h6 i (List.mem_range.2 hi)
  unfold blM at this
  simp only [Bool.and_eq_true,decide_eq_true_eq] at this
  have e:=this.1
  rw [rdIB bs i hi] at e
  exact (same_is _ _).1 e
theorem of_right {q:Int} {bs:List IB} {us:List IU} {nx:Int} (h:Right q bs us nx):storeM q bs us nx=true:=by
  unfold storeM
  have hb:=h.bl;have hu:=h.ul;have hq:=h.used
  simp only [Bool.and_eq_true,decide_eq_true_eq]
  refine ⟨h.q0,by omega,by omega,h.nn,by omega,?_,?_⟩
  · rw [List.all_eq_true]
    intro i hi
    rw [List.mem_range] at hi
    unfold blM
    simp only [Bool.and_eq_true,Bool.or_eq_true,decide_eq_true_eq]
    refine ⟨by rw [rdIB bs i hi];rw [← h.dig _ (List.getElem_mem hi)],?_⟩
    by_cases h0:i=0
    · exact .inl h0
    · refine .inr ?_
      have:=h.rise (i - 1) i (by rw [digs_len];omega) (by rw [digs_len];exact hi) (by omega)
      rw [rd_digs bs (i - 1) (by omega),rd_digs bs i hi]
      exact this
  · rw [List.all_eq_true]
    intro i hi
    exact h.ids i (List.mem_range.1 hi)
theorem upM_next {us:List IU} {nx:Int} (hn:1≤nx∧nx < 1000000000000) {i:Nat} (h:upM us nx i=true):upM us (wrap64 (nx + 1)) i=true:=by
  unfold upM at h ⊢
  have e1:wrap64 (nx - 1)=nx - 1:=by unfold wrap64;omega
  have e2:wrap64 (nx + 1)=nx + 1:=by unfold wrap64;omega
  have e3:wrap64 (nx + 1 - 1)=nx:=by unfold wrap64;omega
  rw [e1] at h
  rw [e2,e3]
  simp only [Bool.and_eq_true,decide_eq_true_eq] at h ⊢
  exact ⟨⟨h.1.1,by omega⟩,h.2⟩
theorem sameS_refl (q:Int) (bs:List IB) (us:List IU) (nx:Int) (hb:bs.length≤2097152) (hu:us.length≤2097152):Ev (fun k=>laws_sameStore.f k q bs us nx q bs us nx) true:=by
  unfold laws_sameStore.f
  simp only [if_true,bne_self_eq_false]
  refine Ev.step (f:=fun k=>laws_sameStore.l0 k 0 q bs us nx q bs us nx) (fun k=>by simp only [laws_sameStore.j0,Bool.false_eq_true,if_false]) ?_
  refine on_loop (n:=bs.length) (F:=fun k i=>laws_sameStore.l0 k i q bs us nx q bs us nx) (fun i hi k=>?_) (Ev.step (f:=fun k=>laws_sameStore.l1 k 0 q bs us nx q bs us nx) (fun k=>?_) ?_)
  · simp only [laws_sameStore.l0,beq_self_eq_true,Bool.not_true,Bool.or_self,Bool.false_eq_true,if_false];rw [if_pos (by omega),if_pos (by omega),if_pos (by omega),wrap_nat i (by omega)]
  · simp only [laws_sameStore.l0];rw [if_neg (by omega)]
  · refine on_loop (n:=us.length) (F:=fun k i=>laws_sameStore.l1 k i q bs us nx q bs us nx) (fun i hi k=>?_) (Ev.step (f:=fun _=>some true) (fun k=>?_) (Ev.now _))
    · simp only [laws_sameStore.l1,beq_self_eq_true,Bool.not_true,Bool.or_self,Bool.false_eq_true,if_false];rw [if_pos (by omega),if_pos (by omega),if_pos (by omega),wrap_nat i (by omega)]
    · simp only [laws_sameStore.l1];rw [if_neg (by omega)]
theorem mod_in (a b:Nat):∃ m:Nat,Aside0 ((a:Int) % ((b:Int) + 1)=(m:Int))∧m≤b:=by
  have h0:=Int.emod_nonneg (a:Int) (show (b:Int) + 1≠0 by omega)
  have h1:=Int.emod_lt_of_pos (a:Int) (show (0:Int) < (b:Int) + 1 by omega)
  obtain ⟨m,hm⟩:=Int.eq_ofNat_of_zero_le h0
  exact ⟨m,⟨hm⟩,by omega⟩
theorem wrap_le {a:Int} {b:Nat} {q:Int} (h0:0≤a) (h1:a + (b:Int)≤q) (h2:q≤200000):¬ wrap64 (a + (b:Int)) > q:=by
  unfold wrap64;omega
theorem chk_on (q : Int) (bs : List IB) (us : List IU) (nx nx' : Int) (x data : ByteArray) (hu : ∀ y ∈ us, y.f0 ≠ nx) :
    chkM q bs (us ++ [(⟨nx,x⟩:IU)]) nx' nx (x.size:Int) data=if wrap64 (usedM bs (us ++ [(⟨nx,x⟩:IU)]) + (data.size:Int)) > q then (q,bs,us ++ [(⟨nx,x⟩:IU)],nx',5) else (q,bs,us ++ [(⟨nx,x ++ data⟩:IU)],nx',0):=by
  unfold chkM
  rw [upAt_snoc us _ nx hu rfl,if_neg (by omega),rd_snoc,if_pos rfl,Int.toNat_natCast,List.set_append_right _ _ (Nat.le_refl _),Nat.sub_self]
  rfl
theorem used_on (bs:List IB) (us:List IU) (z:IU):usedM bs (us ++ [z])=usedM bs us + (z.f1.size:Int):=by
  unfold usedM
  rw [List.length_append,List.length_singleton,accU,accU_snoc us z _ (Nat.le_refl _),rd_snoc];omega
theorem right_on {q:Int} {bs:List IB} {us:List IU} {nx:Int} (h:Right q bs us nx) (h10:us.length < 10) (hn:nx < 1000000000000) (x:ByteArray) (hx:usedM bs us + (x.size:Int)≤q):Right q bs (us ++ [(⟨nx,x⟩:IU)]) (nx + 1):=by
  have hnn:=h.nn
  have e1:wrap64 (nx - 1)=nx - 1:=by unfold wrap64;omega
  have e2:wrap64 (nx + 1 - 1)=nx:=by unfold wrap64;omega
  refine ⟨h.q0,h.bl,by rw [List.length_append,List.length_singleton];omega,by omega,by rw [used_on];exact hx,h.dig,h.rise,fun i hi=>?_⟩
  rw [List.length_append,List.length_singleton] at hi
  have old:∀ j:Nat,j < us.length→rd_T58 (us ++ [(⟨nx,x⟩:IU)]) (j:Int)=rd_T58 us (j:Int):=fun j hj=>by
    rw [rdIU _ j (by rw [List.length_append];omega),rdIU us j hj,List.getElem_append_left hj]
  have up:∀ j:Nat,j < us.length→(1≤(rd_T58 us (j:Int)).f0∧(rd_T58 us (j:Int)).f0≤nx - 1)∧(j=0∨¬ (rd_T58 us (j:Int)).f0≤(rd_T58 us ((j - 1:Nat):Int)).f0):=fun j hj=>by
    have:=h.ids j hj
    unfold upM at this
    rw [e1] at this
    simpa only [Bool.and_eq_true,Bool.or_eq_true,decide_eq_true_eq] using this
  unfold upM
  rw [e2]
  simp only [Bool.and_eq_true,Bool.or_eq_true,decide_eq_true_eq]
  by_cases hl:i < us.length
  · have hu:=up i hl
    rw [old i hl]
    refine ⟨⟨hu.1.1,by omega⟩,?_⟩
    by_cases h0:i=0
    · exact .inl h0
    · rw [old (i - 1) (by omega)]
      exact .inr (hu.2.resolve_left h0)
  · obtain rfl:i=us.length:=by omega
    rw [rd_snoc]
    refine ⟨⟨hnn.1,Int.le_refl _⟩,?_⟩
    by_cases h0:us.length=0
    · exact .inl h0
    · have hu:=up (us.length - 1) (by omega)
      rw [old (us.length - 1) (by omega)]
      exact .inr (by show ¬ nx≤_;omega)
theorem used_nn (bs:List IB) (us:List IU):0≤usedM bs us:=by
  have h1:=sumB_nn bs
  have h2:∀ i:Nat,0≤accU us i:=fun i=>by
    induction i with
    | zero=>exact Int.le_refl _
    | succ i ih=>rw [accU];omega
  have:=h2 us.length
  rw [used_sum];omega
theorem cut_two (d:ByteArray) (m:Nat) (h:m≤d.size):d.extract 0 m ++ d.extract m d.size=d :=
  ByteArray.ext (by rw [ByteArray.data_append,ByteArray.data_extract,ByteArray.data_extract,Array.extract_append_extract,Nat.min_eq_left (Nat.zero_le _),Nat.max_eq_right h];exact Array.extract_size)
theorem kept_is {q : Int} {bs : List IB} {us : List IU} {nx : Int} {data : ByteArray} (hc : (keepM q bs us nx data).2.2.2.2 = 0) (hd : data.size ≤ 1000) :
    Right q bs us nx∧us.length < 10∧nx < 1000000000000∧usedM bs us + (data.size:Int)≤q∧keepM q bs us nx data=finM q bs (us ++ [(⟨nx,data⟩:IU)]) (nx + 1) nx (digestM data):=by
  unfold keepM at hc ⊢
  by_cases hS:storeM q bs us nx=true
  · rw [if_pos hS] at hc ⊢
    have hR:=right_of hS
    have hq:=hR.q0;have hn:=hR.nn;have hu:=hR.used;have hul:=hR.ul;have hun:=used_nn bs us
    have en:wrap64 (nx + 1)=nx + 1:=by unfold wrap64;omega
    have ew:wrap64 (usedM bs us + (data.size:Int))=usedM bs us + data.size:=by unfold wrap64;omega
    rw [fin_new q bs us nx (nx + 1) data (storeM_ids hS).2.2]
    unfold kepM at hc ⊢
    rw [ew,en] at hc ⊢
    by_cases g1:(us.length:Int)=10
    · rw [if_pos g1] at hc;exact absurd (show (2:Int)=0 from hc) (by decide)
    rw [if_neg g1] at hc ⊢
    by_cases g2:nx=1000000000000
    · rw [if_pos g2] at hc;exact absurd (show (2:Int)=0 from hc) (by decide)
    rw [if_neg g2] at hc ⊢
    by_cases g3:usedM bs us + (data.size:Int) > q
    · rw [if_pos g3] at hc;exact absurd (show (5:Int)=0 from hc) (by decide)
    rw [if_neg g3] at hc ⊢
    refine ⟨hR,by omega,by omega,by omega,?_⟩
    by_cases g4:thB bs (digestM data)=true
    · rw [if_pos g4,if_pos g4]
    rw [if_neg g4] at hc
    rw [if_neg g4,if_neg g4]
    by_cases g5:(bs.length:Int)=60
    · rw [if_pos g5] at hc;exact absurd (show (2:Int)=0 from hc) (by decide)
    rw [if_neg g5,if_neg g5]
  · rw [if_neg hS] at hc;exact absurd (show (1:Int)=0 from hc) (by decide)
theorem fin_other (q:Int) (bs:List IB) (us:List IU) (nx nx':Int) (data d:ByteArray) (hu:∀ x ∈ us,x.f0≠nx) (hd:¬ d=digestM data):finM q bs (us ++ [(⟨nx,data⟩:IU)]) nx' nx d=(q,bs,us ++ [(⟨nx,data⟩:IU)],nx',6):=by
  unfold finM
  rw [upAt_snoc us _ nx hu rfl,if_neg (by omega),rd_snoc,if_neg hd]
theorem abo_new (q:Int) (bs:List IB) (us:List IU) (nx nx':Int) (data:ByteArray) (hu:∀ x ∈ us,x.f0≠nx):aboM q bs (us ++ [(⟨nx,data⟩:IU)]) nx' nx=(q,bs,us,nx',0):=by
  unfold aboM
  rw [upAt_snoc us _ nx hu rfl,if_neg (by omega),Int.toNat_natCast,List.eraseIdx_append_of_length_le (Nat.le_refl _),Nat.sub_self];simp
end KeptOf
open KeptOf
theorem FnChunked:laws_FnChunked.Pure:=by
  intro l _ hl2 hb
  have hm:l.length≤140737488351232:=by omega
  refine Ev.rounds (g:=fun k=>laws_FnChunked.f k l) ?_
  unfold laws_FnChunked.f laws_big.f
  simp only [Option.bind_some]
  by_cases hbig:(l.length:Int) > 1048576
  · simp only [decide_eq_true hbig,if_true];exact Ev.now _
  simp only [decide_eq_false hbig,Bool.false_eq_true,if_false]
  obtain ⟨q,bs,us,nx,data,hdraw,hB,hd⟩:=draw_ok hb hm
  have hs:=hB.small (by omega)
  refine Ev.bind hdraw (Ev.bind (spec_keep q bs us nx data hs (by omega)) ?_)
  have hlen:(keepM q bs us nx data).2.1.length≤2097152∧(keepM q bs us nx data).2.2.1.length≤2097152:=by
    have h:=keep_bd (q:=q) (nx:=nx) hB (show data.size≤2000 by omega)
    exact ⟨Nat.le_trans h.1 (by omega),Nat.le_trans h.2.1 (by omega)⟩
  have hkept:=@kept_is q bs us nx data
  generalize keepM q bs us nx data=W at hkept hlen ⊢
  obtain ⟨q',bs',us',nx',c'⟩:=W
  by_cases hc:c'=0
  case neg=>simp only [if_neg hc];exact Ev.now _
  subst hc
  obtain ⟨hR,h10,hnx,hq,hK⟩:=hkept rfl (by omega)
  clear hkept
  have hS:=of_right hR
  have hids:=(storeM_ids hS).2.2
  have hn:=hR.nn;have hq0:=hR.q0;have hun:=used_nn bs us;have hbl:=hR.bl;have hul:=hR.ul;have hu0:=hR.used
  have en:Aside0 (wrap64 (nx + 1)=nx + 1):=⟨by unfold wrap64;omega⟩
  have ew:Aside0 (wrap64 ((data.size:Int) + 1)=data.size + 1):=⟨by unfold wrap64;omega⟩
  obtain ⟨m,em,hmd⟩:=mod_in l.length data.size
  simp only [if_true,ew.out,if_neg (show ¬ ((data.size:Int) + 1=0) by omega),em.out,if_pos (Int.natCast_nonneg m),if_pos (show (m:Int)≤(data.size:Int) by omega),Int.toNat_natCast,if_pos (show data.size + 1≤9223372036854775807 by omega)]
  clear em ew
  -- the parts
  have hx1:(data.extract 0 m).size=m:=by rw [ByteArray.size_extract];omega
  have hx2:(data.extract m data.size).size=data.size - m:=by rw [ByteArray.size_extract];omega
  have hx:=cut_two data m hmd
  generalize data.extract 0 m=x1 at hx1 hx ⊢
  generalize data.extract m data.size=x2 at hx2 hx ⊢
  have sm:∀ x:ByteArray,x.size≤1000→Small bs (us ++ [(⟨nx,x⟩:IU)]):=fun x hx=>small_snoc hs (by omega) _ (by show x.size≤_;omega)
  have st:∀ x:ByteArray,x.size≤data.size→storeM q bs (us ++ [(⟨nx,x⟩:IU)]) (nx + 1)=true:=fun x hx=>of_right (right_on hR h10 hnx x (by omega))
  have sz0:((⟨#[]⟩:ByteArray)).size=0:=rfl
  have b0:=impl_begin q bs us nx hs
  rw [beginM,if_pos hS,begM,if_neg (by omega),if_neg (by omega),en.out] at b0
  have b1:=impl_chunk q bs (us ++ [(⟨nx,(⟨#[]⟩:ByteArray)⟩:IU)]) (nx + 1) nx 0 x1 (sm _ (by rw [sz0];omega)) (by omega)
  rw [chunkM,if_pos (st _ (by rw [sz0];omega)),chk_new q bs us nx (nx + 1) x1 hids,if_neg (wrap_le hun (by omega) hq0.2)] at b1
  have b2:=impl_chunk q bs (us ++ [(⟨nx,x1⟩:IU)]) (nx + 1) nx (m:Int) x2 (sm _ (by omega)) (by omega)
  have c2:=chk_on q bs us nx (nx + 1) x1 x2 hids
  rw [hx1,used_on,hx,if_neg (wrap_le (a:=usedM bs us + ((⟨nx,x1⟩:IU).f1.size:Int)) (by show 0≤usedM bs us + (x1.size:Int);omega) (by show usedM bs us + (x1.size:Int) + (x2.size:Int)≤q;omega) hq0.2)] at c2
  rw [chunkM,if_pos (st _ (by omega)),c2] at b2
  have b3:=impl_finish q bs (us ++ [(⟨nx,data⟩:IU)]) (nx + 1) nx (digestM data) (sm _ (by omega))
  rw [finishM,if_pos (st _ (by omega)),← hK] at b3
  have b4:=impl_finish q bs (us ++ [(⟨nx,data⟩:IU)]) (nx + 1) nx (digestM (data ++ (⟨#[120]⟩:ByteArray))) (sm _ (by omega))
  rw [finishM,if_pos (st _ (by omega))] at b4
  have b5:=impl_abort q bs (us ++ [(⟨nx,data⟩:IU)]) (nx + 1) nx (sm _ (by omega))
  rw [abortM,if_pos (st _ (by omega)),abo_new q bs us nx (nx + 1) data hids] at b5
  have hxs:(data ++ (⟨#[120]⟩:ByteArray)).size≤1000:=by
    rw [ByteArray.size_append];have:((⟨#[120]⟩:ByteArray)).size=1:=rfl;omega
  have d1:=spec_digest data (by omega)
  have d2:=spec_digest (data ++ (⟨#[120]⟩:ByteArray)) (by omega)
  have hR1:Right q bs us (nx + 1):=⟨hq0,hbl,hR.ul,by omega,hR.used,hR.dig,hR.rise,fun i hi=>by have:=upM_next ⟨hn.1,by omega⟩ (hR.ids i hi);rwa [en.out] at this⟩
  have g1:=impl_digestsOf q bs us (nx + 1) hs
  rw [digestsM,if_pos (of_right hR1)] at g1
  have g2:=spec_digestsOf q bs us nx hs
  rw [digestsM,if_pos hS] at g2
  have g3:=sameT_refl (digsM bs bs.length) (by rw [digsM_len];omega)
  have hj:Ev (fun k=>laws_FnChunked.j0 k true) true:=Ev.step (f:=fun _=>some true) (fun k=>by simp only [laws_FnChunked.j0]) (Ev.now _)
  have hfl:=fin_new q bs us nx (nx + 1) data hids
  refine Ev.bind b0 (Ev.bind b1 (Ev.bind b2 (Ev.bind d1 (Ev.bind b3 (Ev.bind d2 (Ev.bind d1 (Ev.bind d2 (Ev.bind b4 (Ev.bind b5 ?_)))))))))
  simp only [if_true]
  refine Ev.bind (sameS_refl q' bs' us' nx' hlen.1 hlen.2) ?_
  simp only [if_true]
  by_cases ha:digestM (data ++ (⟨#[120]⟩:ByteArray))=digestM data
  · simp only [if_pos (congrArg ByteArray.toList ha)]
    exact Ev.bind g1 (Ev.bind g2 (Ev.bind g3 hj))
  · simp only [if_neg (show ¬ (digestM (data ++ (⟨#[120]⟩:ByteArray))).toList=(digestM data).toList from fun e=>ha ((same_is _ _).1 e))]
    rw [fin_other q bs us nx (nx + 1) data _ hids ha]
    simp only [if_true]
    refine Ev.bind (sameS_refl q bs _ (nx + 1) (by omega) (by rw [List.length_append,List.length_singleton];omega)) ?_
    simp only [if_true]
    exact Ev.bind g1 (Ev.bind g2 (Ev.bind g3 hj))
end Go.Proofs.Ytldpdaifajjaeaa.Pure
