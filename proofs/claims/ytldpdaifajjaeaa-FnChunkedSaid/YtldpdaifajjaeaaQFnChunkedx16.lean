/- Written by wip/myprint.py of this repo (the kit's print, with additions of this session). -/
import Derived.Test.YtldpdaifajjaeaaQFnChunkedx15
set_option maxRecDepth 100000
namespace Go.Proofs.Ytldpdaifajjaeaa.QFnChunked
open Go.RowKit Go.Proofs.YtldpdaifajjaeaaW.PrintWords Go.Proofs.YtldpdaifajjaeaaW.PrintLast Go.Proofs.YtldpdaifajjaeaaW.PrintMore
attribute [local go_sem] max2_int min2_int max_two min_two max_three min_three max_four min_four
set_option linter.unusedVariables false
set_option linter.unusedSimpArgs false
section
open Go.Proofs.Ytldpdaifajjaeaa.Sha Go.Proofs.Ytldpdaifajjaeaa.ArrU Go.Proofs.Ytldpdaifajjaeaa.Bits
def zs (n:Nat):List Int:=List.replicate n 0
theorem info84:(Try.prog.info? 96).map (fun i=>(i.zero,i.size))=some (some (.agg (vals (zs 64))),(zs 64).length):=by kernel_rfl
theorem info84s:(Try.prog.info? 96).map (·.size)=some (kM.length):=by kernel_rfl
set_option maxHeartbeats 8000000 in
theorem impl_cubeRoots.calls (w:World):Calls Try.prog 76 #[] w fun e w'=>e = .returned (.agg (vals kM))∧Below w.heap.size w w':=by
 go_enter Try.func76,Try.ntmps76
 go_wp2_with (first
  | ((with_reducible refine gate_dst (N:=0) rfl ?_);refine alloc_arr (N:=0) rfl rfl 96 rfl (zs 64) info84 ?_;intro w1 hA1 hb1 hs1)
  | ((with_reducible refine gate_dst (N:=1) rfl ?_);refine build_arr (N:=1) rfl rfl 96 _ rfl kM (by kernel_rfl) ?_)
  | ((with_reducible refine gate_store rfl ?_);refine store_arr rfl rfl 96 _ _ rfl w.heap.size rfl kM rfl (zs 64) hA1 rfl info84s ?_;intro w2 hA2 hb2 hs2))
 refine bodyPost_ret (v:=.agg (vals kM)) (results_cell_row rfl _ w2 w.heap.size 96 (vals kM) (0,0) _ rfl hA2 Try.underlying96 rfl (by rw [info84s,vals_size])) rfl ⟨rfl,hb2 _ _ (Nat.le_refl _) hb1⟩
theorem of_wrap32 (v:BitVec 32):BitVec.ofInt 32 (IntKind.u32.wrap (v.toNat:Int))=v:=by
 have h:=v.isLt;rw [IntKind.wrap_u32,Int.emod_eq_of_lt (by omega) (by omega)]
 simp
theorem bits_or_assoc (x y z:Int):Go.bits .or .u32 (Go.bits .or .u32 x y) z=Go.bits .or .u32 x (Go.bits .or .u32 y z):=by
 unfold Go.bits;show IntKind.u32.wrap _=IntKind.u32.wrap _
 congr 2
 show (BitVec.ofInt 32 (IntKind.u32.wrap (BitVec.ofInt 32 x ||| BitVec.ofInt 32 y).toNat) ||| BitVec.ofInt 32 z).toNat=(BitVec.ofInt 32 x ||| BitVec.ofInt 32 (IntKind.u32.wrap (BitVec.ofInt 32 y ||| BitVec.ofInt 32 z).toNat)).toNat;rw [of_wrap32,of_wrap32,BitVec.or_assoc]
theorem or_four (a b c d:Int):Go.bits .or .u32 (Go.bits .or .u32 (Go.bits .or .u32 d c) b) a=Go.bits .or .u32 (Go.bits .or .u32 (Go.bits .or .u32 a b) c) d:=by
 rw [Go.Proofs.Ytldpdaifajjaeaa.Bits.bits_or_comm .u32 _ a,Go.Proofs.Ytldpdaifajjaeaa.Bits.bits_or_comm .u32 _ b,Go.Proofs.Ytldpdaifajjaeaa.Bits.bits_or_comm .u32 d c,bits_or_assoc (Go.bits .or .u32 a b) c d,bits_or_assoc a b]
theorem uint32_be (p:List Int) (m:Nat) (b:List Int) (t:Nat) (hm:m + 4≤p.length) (h:∀ j:Nat,j < 4→rd b ((4 * t + j:Nat):Int)=rd p ((m + j:Nat):Int)):binary_bigEndian_Uint32.f (p.drop m)=some (be4 b t):=by
 have hl:(p.drop m).length=p.length - m:=List.length_drop
 have hr:∀ j:Nat,j < 4→rd (p.drop m) (j:Int)=rd b ((4 * t + j:Nat):Int):=fun j hj=>by
  rw [h j hj];unfold rd
  simp only [Int.toNat_natCast,List.getD_eq_getElem?_getD,List.getElem?_drop]
 unfold binary_bigEndian_Uint32.f be4;rw [if_pos (by omega),if_pos (by omega),if_pos (by omega),if_pos (by omega)];rw [show (3:Int)=((3:Nat):Int) from rfl,show (2:Int)=((2:Nat):Int) from rfl,show (1:Int)=((1:Nat):Int) from rfl,show rd (p.drop m) 0=rd (p.drop m) ((0:Nat):Int) from rfl,hr 3 (by omega),hr 2 (by omega),hr 1 (by omega),hr 0 (by omega),or_four]
 rfl
theorem impl_rot (x n:Int) (h0:0≤x) (h1:x < 4294967296) (hn0:-9223372036854775808≤n) (hn1:n≤9223372036854775807):impl_rotate.f x n=some (rotr x (n % 32).toNat):=by
 have ht:=Int.tmod_lt_of_pos n (show (0:Int) < 32 by decide);have ht2:-32 < Int.tmod n 32:=by have:=Int.lt_tmod_of_pos n (show (0:Int) < 32 by decide);omega
 have hm:(Int.tmod n 32) % 32=n % 32:=by have:=Int.tmod_add_mul_tdiv n 32;omega
 have hs:Go.bits .and .u64 (IntKind.u64.wrap (wrap64 (-(Int.tmod n 32)))) 31=(-n) % 32:=by
  have e1:wrap64 (-(Int.tmod n 32)) = -(Int.tmod n 32):=by unfold wrap64;omega
  rw [e1];have:=bits_mask .u64 64 (by decide) (fun n h0 h1=>by rw [IntKind.wrap_u64];omega) 5 (by decide) (IntKind.u64.wrap (-(Int.tmod n 32))) (by rw [IntKind.wrap_u64];omega) (by rw [IntKind.wrap_u64];omega);rw [show (31:Int)=2 ^ 5 - 1 by decide,this,IntKind.wrap_u64];omega
 have hk2:IntKind.u64.wrap (32 - (-n) % 32)=32 - (-n) % 32:=by rw [IntKind.wrap_u64];omega
 unfold impl_rotate.f bits_RotateLeft32.f;rw [hs,if_pos (by omega),hk2,if_pos (by omega)]
 simp only [Option.bind_some]
 unfold shr shl;rw [show min ((-n) % 32).toNat IntKind.u32.bits=((-n) % 32).toNat by simp [IntKind.bits];omega,show min (32 - (-n) % 32).toNat IntKind.u32.bits=(32 - (-n) % 32).toNat by simp [IntKind.bits];omega];by_cases hz:n % 32=0
 ·
  rw [hz,show ((-n) % 32).toNat=0 by omega,show (32 - (-n) % 32).toNat=32 by omega,show ((0:Int)).toNat=0 by rfl,rotr_zero];have:=or_rotr x 32 h0 h1 (by omega);rw [rotr_32 x h0 h1] at this;exact congrArg some this
 have e3:((-n) % 32).toNat=32 - (n % 32).toNat:=by omega
 rw [e3,show (32 - (-n) % 32).toNat=(n % 32).toNat by omega,or_rotr x _ h0 h1 (by omega)]
theorem impl_rot1 (x:Int) (hx:0≤x∧x < 4294967296) (n:Int) (m:Nat) (hm:(n % 32).toNat=m) (hn0:0≤n) (hn1:n≤64):impl_rotate.f x n=some (rotr x m):=by rw [impl_rot x n hx.1 hx.2 (by omega) (by omega),hm]
theorem store_w32 {o:Oper} {a:Act} {w:World} {x y:Operand} {p:Addr} {v:Int} {old:Value} (ho:o.op = .store 62 x y) (hx:a.eval x = .pointer (some p)) (hy:a.eval y = .int .u32 v) (hc:w.cell? p=some old) (hf:w.frozen? p=false):(execOp a.eval o).run Try.prog w = .ok .skip (w.setCell p (.int .u32 v)):=by
 unfold execOp
 simp only [ho,hx,hy]
 go_simp
theorem ix8_0 (a0 a1 a2 a3 a4 a5 a6 a7:Int) (w:World):(Instr.index 95 (.agg #[.int .u32 a0,.int .u32 a1,.int .u32 a2,.int .u32 a3,.int .u32 a4,.int .u32 a5,.int .u32 a6,.int .u32 a7]) (.int .i64 0)).run Try.prog w = .ok (.int .u32 a0) w:=by kernel_rfl
theorem ix8_1 (a0 a1 a2 a3 a4 a5 a6 a7:Int) (w:World):(Instr.index 95 (.agg #[.int .u32 a0,.int .u32 a1,.int .u32 a2,.int .u32 a3,.int .u32 a4,.int .u32 a5,.int .u32 a6,.int .u32 a7]) (.int .i64 1)).run Try.prog w = .ok (.int .u32 a1) w:=by kernel_rfl
theorem ix8_2 (a0 a1 a2 a3 a4 a5 a6 a7:Int) (w:World):(Instr.index 95 (.agg #[.int .u32 a0,.int .u32 a1,.int .u32 a2,.int .u32 a3,.int .u32 a4,.int .u32 a5,.int .u32 a6,.int .u32 a7]) (.int .i64 2)).run Try.prog w = .ok (.int .u32 a2) w:=by kernel_rfl
theorem ix8_3 (a0 a1 a2 a3 a4 a5 a6 a7:Int) (w:World):(Instr.index 95 (.agg #[.int .u32 a0,.int .u32 a1,.int .u32 a2,.int .u32 a3,.int .u32 a4,.int .u32 a5,.int .u32 a6,.int .u32 a7]) (.int .i64 3)).run Try.prog w = .ok (.int .u32 a3) w:=by kernel_rfl
theorem ix8_4 (a0 a1 a2 a3 a4 a5 a6 a7:Int) (w:World):(Instr.index 95 (.agg #[.int .u32 a0,.int .u32 a1,.int .u32 a2,.int .u32 a3,.int .u32 a4,.int .u32 a5,.int .u32 a6,.int .u32 a7]) (.int .i64 4)).run Try.prog w = .ok (.int .u32 a4) w:=by kernel_rfl
theorem ix8_5 (a0 a1 a2 a3 a4 a5 a6 a7:Int) (w:World):(Instr.index 95 (.agg #[.int .u32 a0,.int .u32 a1,.int .u32 a2,.int .u32 a3,.int .u32 a4,.int .u32 a5,.int .u32 a6,.int .u32 a7]) (.int .i64 5)).run Try.prog w = .ok (.int .u32 a5) w:=by kernel_rfl
theorem ix8_6 (a0 a1 a2 a3 a4 a5 a6 a7:Int) (w:World):(Instr.index 95 (.agg #[.int .u32 a0,.int .u32 a1,.int .u32 a2,.int .u32 a3,.int .u32 a4,.int .u32 a5,.int .u32 a6,.int .u32 a7]) (.int .i64 6)).run Try.prog w = .ok (.int .u32 a6) w:=by kernel_rfl
theorem ix8_7 (a0 a1 a2 a3 a4 a5 a6 a7:Int) (w:World):(Instr.index 95 (.agg #[.int .u32 a0,.int .u32 a1,.int .u32 a2,.int .u32 a3,.int .u32 a4,.int .u32 a5,.int .u32 a6,.int .u32 a7]) (.int .i64 7)).run Try.prog w = .ok (.int .u32 a7) w:=by kernel_rfl
theorem index_eight (l:List Int) (x:Int) (hl:l.length=8) (h0:0≤x) (h1:x < 8) (w:World):(Instr.index 95 (.agg (vals l)) (.int .i64 x)).run Try.prog w = .ok (.int .u32 (rd l x)) w:=by
 match l,hl with
 | [a0,a1,a2,a3,a4,a5,a6,a7],_ =>
  have hx:x=0∨x=1∨x=2∨x=3∨x=4∨x=5∨x=6∨x=7:=by omega
  rcases hx with rfl | rfl | rfl | rfl | rfl | rfl | rfl | rfl
  ·
   exact ix8_0 a0 a1 a2 a3 a4 a5 a6 a7 w
  ·
   exact ix8_1 a0 a1 a2 a3 a4 a5 a6 a7 w
  ·
   exact ix8_2 a0 a1 a2 a3 a4 a5 a6 a7 w
  ·
   exact ix8_3 a0 a1 a2 a3 a4 a5 a6 a7 w
  ·
   exact ix8_4 a0 a1 a2 a3 a4 a5 a6 a7 w
  ·
   exact ix8_5 a0 a1 a2 a3 a4 a5 a6 a7 w
  ·
   exact ix8_6 a0 a1 a2 a3 a4 a5 a6 a7 w
  exact ix8_7 a0 a1 a2 a3 a4 a5 a6 a7 w
theorem info59s:(Try.prog.info? 62).map (·.size)=some 1:=by kernel_rfl
theorem info83s:(Try.prog.info? 95).map (·.size)=some 8:=by kernel_rfl
theorem eight (l:List Int) (hl:l.length=8):l = [rd l 0,rd l 1,rd l 2,rd l 3,rd l 4,rd l 5,rd l 6,rd l 7]:=by
 match l,hl with
 | [a0,a1,a2,a3,a4,a5,a6,a7],_=>rfl
theorem src_cells {w:World} {g:Nat} {t:TypeId} {l:List Int} (h:Arr w g t l) (n:Nat):∀ j v,((l.take n).map (Value.int .u32))[j]?=some v→w.cell? ((⟨g,0,none⟩:Addr).add j)=some v:=by
 intro j v hv;rw [List.getElem?_map,Option.map_eq_some_iff] at hv;obtain ⟨x,hx,rfl⟩:=hv;rw [List.getElem?_take] at hx
 split at hx
 ·
  obtain ⟨hj,rfl⟩:=List.getElem?_eq_some_iff.1 hx;rw [show (⟨g,0,none⟩:Addr).add j=⟨g,j,none⟩ by unfold Addr.add;split <;> simp_all,h.cell j hj]
  simp [rd,List.getD_eq_getElem?_getD,hx]
 cases hx
theorem moved (l:List Int) (hl:l.length=8):splice (l.map (Value.int .u32)) 1 ((l.take 7).map (Value.int .u32)) = [rd l 0,rd l 0,rd l 1,rd l 2,rd l 3,rd l 4,rd l 5,rd l 6].map (Value.int .u32):=by
 match l,hl with
 | [a0,a1,a2,a3,a4,a5,a6,a7],_=>rfl
theorem info83:(Try.prog.info? 95).map (fun i=>(i.zero,i.size))=some (some (.agg (vals (zs 8))),hM.length):=by kernel_rfl
theorem info84k:(Try.prog.info? 96).map (fun i=>(i.zero,i.size))=some (some (.agg (vals (zs 64))),kM.length):=by kernel_rfl
theorem lenM_eight (n:Int):lenM n 8 = [(n / 72057594037927936) % 256,(n / 281474976710656) % 256,(n / 1099511627776) % 256,(n / 4294967296) % 256,(n / 16777216) % 256,(n / 65536) % 256,(n / 256) % 256,n % 256]:=by
 have h:∀ k:Nat,k < 8→shr .u64 n (IntKind.u64.wrap (wrap64 (8 * (k:Int))))=n / 2 ^ (8 * k):=by
  intro k hk;have e1:IntKind.u64.wrap (wrap64 (8 * (k:Int)))=((8 * k:Nat):Int):=by rw [IntKind.wrap_u64];unfold wrap64;omega
  rw [e1];unfold shr;rw [Int.toNat_natCast,Nat.min_eq_left (by show 8 * k≤64;omega)]
 simp only [lenM,List.nil_append,List.cons_append]
 rw [h (7 - 0) (by omega),h (7 - 1) (by omega),h (7 - 2) (by omega),h (7 - 3) (by omega),h (7 - 4) (by omega),h (7 - 5) (by omega),h (7 - 6) (by omega),h (7 - 7) (by omega)]
 simp
theorem append_pad (a0:ByteArray) (j:Nat) (hj:j + 0=zerosM a0.size) (hs:a0.size≤70368744177664):binary_bigEndian_AppendUint64.f (bytesOf a0 ++ [128] ++ List.replicate j 0) (IntKind.u64.wrap ((IntKind.u64.wrap ((a0.size:Int))) * 8))=some (padM a0):=by
 obtain rfl:j=zerosM a0.size:=hj;have hl:(bytesOf a0 ++ [128] ++ List.replicate (zerosM a0.size) (0:Int)).length=a0.size + 1 + zerosM a0.size:=by simp [bytesOf_length];omega
 have hz:zerosM a0.size < 64:=by unfold zerosM;omega
 unfold binary_bigEndian_AppendUint64.f
 simp only [Option.bind_some]
 rw [if_pos (by rw [hl];simp;omega)];unfold padM;rw [lenM_eight]
def impl_sum.T16:Bool×List (List Nat×List Nat):=(true,[([],[]),([0],[0]),([1],[1]),([2],[2]),([],[]),([4],[4]),([5],[5]),([6],[6]),([3,0,1,2,3],[3]),([7,8,0,1,2,3,4,5,6,7,8],[7])])
def impl_sum.B16:List Nat:=[0,1,3,7,0,16,48,112,15,511]
theorem impl_sum.tab16:rtab .any (opsOf Try.f71 16)=impl_sum.T16:=by kernel_rfl
theorem impl_sum.bits16:waitsOk impl_sum.T16.2 impl_sum.B16=true:=by kernel_rfl
def impl_sum.T17:Bool×List (List Nat×List Nat):=(true,[([],[]),([],[]),([1],[1]),([2],[2]),([3],[3]),([],[]),([5],[5]),([6],[6]),([7],[7]),([4,8],[4,8]),([],[]),([10],[10]),([],[]),([12,11],[12]),([11,13],[11,13]),([],[]),([15],[15]),([14,16],[14,16]),([9,17],[9,17]),([],[]),([19,13],[19]),([],[]),([21,20],[21]),([20,22],[20,22]),([],[]),([24],[24]),([23,25],[23,25]),([18,26],[18,26]),([0,0,1,2,3,4,5,6,7,8,9,10,11,12,13,14,15,16,17,18,19,20,21,22,23,24,25,26,27],[0]),([28,27,22,0,1,2,3,4,5,6,7,8,9,10,11,12,13,14,15,16,17,18,19,20,21,22,23,24,25,26,27],[27,28])])
def impl_sum.B17:List Nat:=[0,0,2,6,14,0,32,96,224,510,0,1024,0,7168,15360,0,32768,130048,262142,0,539648,0,3685376,7879680,0,16777216,66599936,134217726,268435455,536870911]
theorem impl_sum.tab17:rtab .any (opsOf Try.f71 17)=impl_sum.T17:=by kernel_rfl
theorem impl_sum.bits17:waitsOk impl_sum.T17.2 impl_sum.B17=true:=by kernel_rfl
def impl_sum.T15:Bool×List (List Nat×List Nat):=(true,[([],[]),([],[]),([],[]),([],[]),([],[]),([4],[4]),([3,5],[3,5]),([2,6],[2,6]),([1,7],[1,7]),([0,0,1,2,3,4,5,6,7,8],[0]),([9,8,8,0,1,2,3,4,5,6,7,8],[8,9])])
def impl_sum.B15:List Nat:=[0,0,0,0,0,16,56,124,254,511,1023]
theorem impl_sum.tab15:rtab .any (opsOf Try.f71 15)=impl_sum.T15:=by kernel_rfl
theorem impl_sum.bits15:waitsOk impl_sum.T15.2 impl_sum.B15=true:=by kernel_rfl
def impl_sum.T24:Bool×List (List Nat×List Nat):=(true,[([],[]),([0],[0]),([],[]),([2],[2]),([],[]),([4,3],[4]),([3,5],[3,5]),([],[]),([7,5],[7]),([6,8],[6,8]),([1,9],[1,9]),([],[]),([],[]),([12],[12]),([11,13],[11,13]),([],[]),([15],[15]),([],[]),([17],[17]),([16,18],[16,18]),([14,19],[14,19]),([10,20],[10,20]),([],[]),([22],[22]),([23],[23]),([21,24],[21,24]),([],[]),([26],[26]),([27],[27]),([25,28],[25,28]),([29,8,0,1,2,3,4,5,6,7,8,9,10,11,12,13,14,15,16,17,18,19,20,21,22,23,24,25,26,27,28,29],[29])])
def impl_sum.B24:List Nat:=[0,1,0,4,0,28,60,0,188,508,1023,0,0,4096,14336,0,32768,0,131072,491520,1046528,2097151,0,4194304,12582912,33554431,0,67108864,201326592,536870911,1073741823]
theorem impl_sum.tab24:rtab .any (opsOf Try.f71 24)=impl_sum.T24:=by kernel_rfl
theorem impl_sum.bits24:waitsOk impl_sum.T24.2 impl_sum.B24=true:=by kernel_rfl
def impl_sum.T25:Bool×List (List Nat×List Nat):=(true,[([],[]),([0],[0]),([],[]),([2,1],[2]),([1,3],[1,3]),([],[]),([5,3],[5]),([4,6],[4,6]),([],[]),([],[]),([9],[9]),([8,10],[8,10]),([],[]),([],[]),([13],[13]),([12,14],[12,14]),([11,15],[11,15]),([],[]),([17],[17]),([],[]),([19],[19]),([18,20],[18,20]),([16,21],[16,21]),([7,22],[7,22]),([23,6,0,1,2,3,4,5,6,7,8,9,10,11,12,13,14,15,16,17,18,19,20,21,22,23],[23])])
def impl_sum.B25:List Nat:=[0,1,0,7,15,0,47,127,0,0,512,1792,0,0,8192,28672,65280,0,131072,0,524288,1966080,4194048,8388607,16777215]
theorem impl_sum.tab25:rtab .any (opsOf Try.f71 25)=impl_sum.T25:=by kernel_rfl
theorem impl_sum.bits25:waitsOk impl_sum.T25.2 impl_sum.B25=true:=by kernel_rfl
def impl_sum.f (a0:ByteArray):Option (List Int):=if a0.size≤70368744177664 then some (sumM a0) else none
set_option maxHeartbeats 8000000 in
theorem impl_sum.calls (a0:ByteArray) (r:List Int) (w:World) (h:impl_sum.f a0=some r) :
  Calls Try.prog 71 #[.string a0] w fun e w'=>∃ v0_:Value,e = .returned (v0_)∧Kd.R (Kd.int .u32) 62 w' w.heap.size (fun _=>True) v0_ r∧Below w.heap.size w w':=by
 unfold impl_sum.f at h
 split at h
 case isFalse=>exact absurd h (by simp)
 rename_i hs
 injection h with h
 have HS:=aM hs;have HB:=aM (Below.refl w.heap.size w);have c2b0:=eq_true (show (a0.size:Int)≤140737488351232 by omega);have c2b1:decide ((a0.size:Int)≤140737488351232)=true:=decide_eq_true (by omega);obtain ⟨y160,hy160⟩:∃ y_:List Int,y_=(bytesOf a0):=⟨_,rfl⟩;have Ny160:=aM hy160;have L160:=aM (show y160.length=a0.size by rw [hy160,bytesOf_length]);have H:=aM h;clear h hy160 hs;go_enter Try.func71,Try.ntmps71
 go_wp2_with (first|((with_reducible refine gD 20 rfl ?_);refine Kd.R_bytes _ 5 rfl (N:=20) rfl 9 22 _ rfl a0 rfl Try.underlying9 Try.underlying22 Try.underlying5 rfl (ok:=fun _=>True) trivial (of_decide_eq_true zq34) (Below.refl _ _) (Nat.le_refl _) ?_;intro v161 w4 ho5 hb hg_ hnew_;clear hg_ hnew_;(first | rw [← Ny160.out] at ho5|(simp only [Int.reduceToNat] at ho5;rw [← Ny160.out] at ho5));have HO162:=aM (Kd.R_lower ho5 (below_size zq3));replace HB:=sB zq3 hb;clear hb ho5)|((with_reducible refine gate_builtin (b:=.append) (xs:=#[.tmp 20,.tmp 21]) rfl ?_);at_builtin;refine Kd.R_append (Kd.int .u8) (w0:=w) w.heap.size rfl (.tmp 20) (.tmp 21) 22 5 (.int .u8 0) 1 rfl Try.underlying22 info5 rfl (by decide) (by omega) v161 y160 128 [.int .u8 128] (fun _=>True) (fun _=>False) rfl rfl ?aP (fun _ hk=>hk.elim) ?aF ?aO ?aB ?aS ?aL ?_;(case aP=>exact rfl);(case aB=>exact zq3);(case aF=>exact zq79);(case aO=>exact zq105);(case aS=>exact zq429);(case aL=>have:=L160.out;have:=HS.out;omega);intro v164 w6 ho hb hg hat;have n0_:=aM (hb);have n1_:=aM (ho);clear HB;clear HO162;have HB:=n0_;have HO165:=n1_;clear n0_ n1_;clear ho hb hg hat))
 clear c2b0 c2b1
 go_loopg [3] (zerosM a0.size) (fun kq v3 w'=>∃ j:Nat,Aside0 (j + kq=zerosM a0.size)∧Aside0 (Kd.R (Kd.int .u8) 5 w' w.heap.size (fun _=>True) v3 (y160 ++ [128] ++ List.replicate j 0))∧Aside0 (Below w.heap.size w w'))
 case atStart=>exact ⟨0,⟨by omega⟩,⟨by refine dR ?_;have:=HO165.out;simpa using this⟩,⟨zq3⟩⟩
 case round =>
  clear HO165 HB;obtain ⟨j,hj,HO_3,HB⟩:=hrel;obtain ⟨x3,hx3⟩:∃ x3:List Int,x3=y160 ++ [128] ++ List.replicate j 0:=⟨_,rfl⟩;have hl3:x3.length=a0.size + 1 + j:=by rw [hx3];have:=L160.out;simp;omega
  rw [← hx3] at HO_3;have NX:=aM hx3;have NL:=aM hl3;clear hx3 hl3
  cases gk with
  | zero =>
   have hm:((x3.length:Int) % 64)=56:=by have:=NL.out;have:=hj.out;unfold zerosM at this;omega
   have c7b0:(((x3.length:Int) % 64) == 56)=true:=beq_iff_eq.mpr hm;have c7b1:(((x3.length:Int) % 64) != 56)=false:=bne_eq_false_iff_eq.mpr hm;clear hm
   have hpad:=aM (show binary_bigEndian_AppendUint64.f x3 (IntKind.u64.wrap ((IntKind.u64.wrap ((a0.size:Int))) * 8))=some (padM a0) from by
    rw [NX.out,Ny160.out];exact append_pad a0 j hj.out HS.out)
   obtain ⟨Ao8,co8,eo8⟩:=Kd.R_slice HO_3.out;subst eo8
   go_wp2_with (first|((with_reducible refine gC 75 rfl ?_);refine gL 36 Try.func75 #[.agg #[],.slice Ao8 x3.length co8,.int .u64 (IntKind.u64.wrap ((IntKind.u64.wrap ((a0.size:Int))) * 8))] ?_;(with_reducible refine (binary_bigEndian_AppendUint64.calls (fun _=>True) _ x3 _ (padM a0) w _ zq3 zq107 hpad.out).mono ?_);rintro e w7 ⟨v9,rfl,ho,hb,hk⟩;refine ⟨_,rfl,?_⟩;have HO9:=aM (Kd.R_mono ho (fun _ _=>trivial));clear HB;have HB:=aM hb;clear ho hb hk)|((with_reducible refine gate_dst (N:=37) rfl ?_);refine build_arr (N:=37) rfl rfl 95 _ rfl hM (by kernel_rfl) ?_)|((with_reducible refine gD 4 rfl ?_);refine new_arr (N:=4) rfl rfl rfl 95 rfl _ _ rfl rfl hM info83 rfl rfl rfl ?_;intro w8 hA8 hb8 hs8;have HA8:=aM hA8;have HB8:=aM hb8;have HS8:=aM hs8;clear hA8 hb8 hs8)|((with_reducible refine gC 76 rfl ?_);refine gL 38 Try.func76 #[] ?_;(with_reducible refine (impl_cubeRoots.calls _).mono ?_);rintro e w9 ⟨rfl,hb9⟩;refine ⟨_,rfl,?_⟩;have HB9:=aM hb9;clear hb9)|((with_reducible refine gD 5 rfl ?_);refine new_arr (N:=5) rfl rfl rfl 96 rfl _ _ rfl rfl kM info84k rfl rfl rfl ?_;intro w10 hA10 hb10 hs10;have HA10:=aM hA10;have HB10:=aM hb10;have HS10:=aM hs10;clear hA10 hb10 hs10))
   clear c7b0 c7b1;obtain ⟨Hb,hHb⟩:∃ Hb,Hb=w7.heap.size:=⟨_,rfl⟩;obtain ⟨Kb,hKb⟩:∃ Kb,Kb=w9.heap.size:=⟨_,rfl⟩;have hHK:Hb < Kb:=by rw [hHb,hKb];have:=HB9.out.size;have:=HS8.out;omega
   have HAH:=aM (show Arr w10 Hb 95 hM by
    rw [hHb];have h9:Arr w9 w7.heap.size 95 hM:=HA8.out.below' HB9.out;exact h9.below' HB10.out)
   have HAK:=aM (show Arr w10 Kb 96 kM by rw [hKb];exact HA10.out)
   have HB7:=aM (show Below Hb w7 w10 by
    have h1:=HB8.out;have h2:=HB9.out.mono (B':=w7.heap.size) (by have:=HS8.out;omega);have h3:=HB10.out.mono (B':=w7.heap.size) (by have:=HB9.out.size;have:=HS8.out;omega);rw [hHb];exact (h1.trans h2).trans h3)
   have HHb:=aM hHb;have HHK:=aM hHK;have HPL:=aM (padM_len a0);have HN:=aM (show (a0.size + 72) / 64≤4611686018427387904 / 64 by have:=HS.out;omega);obtain ⟨n,hn⟩:∃ n,n=(a0.size + 72) / 64:=⟨_,rfl⟩;obtain ⟨p,hp⟩:∃ p,p=padM a0:=⟨_,rfl⟩;rw [← hn] at HPL HN;rw [← hp] at HO9 HPL;have HR:=aM (show runM p n=r by rw [hp,hn];exact H.out);have hn0:0 < n:=by omega
   have HN0:=aM hn0;obtain ⟨pg,pc,hv9,hpg0,hpg1,_⟩:=Kd.R_form HO9.out (by have:=HPL.out;omega);subst hv9;have HC9:=aM (Kd.R_reads' HO9.out);have HPG:=aM (show pg < Hb by rw [hHb];exact hpg1);rw [← hHb,← hKb];clear hHb hKb hHK hn hp hn0 hpg0 hpg1 HA8 HB8 HS8 HB9 HA10 HB10 HS10 hpad
   go_loopg [6] n (fun kq v6 w'=>∃ (i:Nat) (x6:Int),v6 = .int .i64 x6∧Aside0 (x6=((64 * i:Nat):Int))∧Aside0 (i + kq=n)∧Aside0 (Arr w' Hb 95 (runM p i))∧Aside0 (Arr w' Kb 96 kM)∧Aside0 (Below Hb w7 w'))
   case atStart=>exact ⟨0,0,rfl,⟨rfl⟩,⟨by omega⟩,HAH,HAK,HB7⟩
   case round =>
    clear HAH HAK HB7;obtain ⟨i,x6,rfl,HAT,hi,HAH,HAK,HB7⟩:=hrel
    cases gk with
    | zero =>
     have hge:decide (x6 < (p.length:Int))=false:=decide_eq_false (by have:=HPL.out;have:=HAT.out;have:=hi.out;omega);obtain ⟨hq,hhq⟩:∃ hq,hq=runM p i:=⟨_,rfl⟩;have hq8:=aM (show hq.length=8 by rw [hhq];exact (runM_ok p i).1);have hqr:=aM (show hq=r by rw [hhq];have:=hi.out;rw [show i=n by omega];exact HR.out);rw [← hhq] at HAH;clear hhq;have HBX:=aM (show Below w.heap.size w wr from HB.out.trans (HB7.out.mono (by rw [HHb.out];exact HB.out.size)));clear HB;have HB:=HBX;clear HBX HB7
     go_wp2_with (first|((with_reducible refine gD 186 rfl ?_);refine Kd.R_lit (Kd.int .u32) _ 62 ?hg (N:=186) ?hd (xs:=([]:List Int)) (inner:=[]) (ok:=fun _=>True) (okp:=fun _=>True) ?hr ?hp (fun _ hk=>hk) trivial (Below.refl _ _) (Nat.le_refl _) (by simp) ?_;(case hd=>rfl);(case hg=>rfl);(case hr=>exact zq2);(case hp=>exact zq108);intro v12 w12 ho12 hb hg_ hnew_;clear hg_ hnew_;have HA12:=aM (HAH.out.below' hb);have n1_:=aM (Kd.R_lower ho12 (below_size HB.out));have n2_:=aM (below_step HB.out hb);clear HB;have HO12:=n1_;have HB:=n2_;clear n1_ n2_;clear hb ho12)|((with_reducible refine gate_builtin (b:=.append) (xs:=#[.tmp 186,.tmp 187]) rfl ?_);at_builtin;refine Kd.R_append_rows (Kd.int .u32) (w0:=w) w.heap.size rfl (.tmp 186) (.tmp 187) 59 62 (.int .u32 0) 4 rfl Try.underlying59 info62 rfl (by decide) (by omega) v12 [] hq (some ⟨Hb,0,none⟩) 8 8 (fun _=>True) (fun _=>False) rfl rfl HO12.out (HA12.out.reads hq8.out (by omega)) (fun _ _ h=>h) (fun _ h=>h.elim) (fun _ _=>trivial) HB.out (below_size HB.out) (by simp) ?_;intro v13 w13 ho hb hg hat;rw [List.nil_append,hqr.out] at ho))
     go_ret;exact ⟨_,rfl,ho,hb⟩
    | succ k1 =>
     have hlt:decide (x6 < (p.length:Int))=true:=decide_eq_true (by have:=HPL.out;have:=HAT.out;have:=hi.out;omega)
     go_wp2_with (first|((with_reducible refine gate_dst (N:=45) rfl ?_);refine build_arr (N:=45) rfl rfl 96 _ rfl (zs 64) (by kernel_rfl) ?_)|((with_reducible refine gD 7 rfl ?_);refine new_arr (N:=7) rfl rfl rfl 96 rfl _ _ rfl rfl (zs 64) info84 rfl rfl rfl ?_;intro w11 hA11 hb11 hs11;have HA11:=aM hA11;have HB11:=aM hb11;have HS11:=aM hs11;clear hA11 hb11 hs11))
     obtain ⟨Wb,hWb⟩:∃ Wb,Wb=wr.heap.size:=⟨_,rfl⟩;have HKW:=aM (show Kb < Wb by rw [hWb];exact HAK.out.lt);rw [← hWb] at HA11 HB11 HS11 ⊢;clear hWb;have HAH11:=aM (show Arr w11 Hb 95 (runM p i) from HAH.out.below HB11.out zq109);have HAK11:=aM (show Arr w11 Kb 96 kM from HAK.out.below HB11.out HKW.out);have HB7W:=aM (show Below Hb w7 w11 from HB7.out.trans (HB11.out.mono zq109));clear HAH HAK HB7 HB11;obtain ⟨b,hb⟩:∃ b,b=(p.drop (64 * i)).take 64:=⟨_,rfl⟩;have hbl:=aM (show b.length=64 by rw [hb,List.length_take,List.length_drop];have:=HPL.out;have:=hi.out;omega)
     have hbr:=aM (show ∀ j:Nat,j < 64→rd b (j:Int)=rd p ((64 * i + j:Nat):Int) from fun j hj=>by
      rw [hb];unfold rd;simp only [Int.toNat_natCast,List.getD_eq_getElem?_getD,List.getElem?_take,List.getElem?_drop,if_pos hj])
     have HBq:=aM hb;clear hb
     go_loopg [46] 64 (fun kq v46 w'=>∃ (t:Nat) (x46:Int),v46 = .int .i64 x46∧Aside0 (x46=(t:Int))∧Aside0 (t + kq=64)∧Aside0 (Arr w' Wb 96 (wordsM b t))∧Aside0 (Below Wb w11 w'))
     case atStart=>exact ⟨0,0,rfl,⟨rfl⟩,⟨by omega⟩,HA11,⟨Below.refl _ _⟩⟩
     case round =>
      clear HA11 hlt;obtain ⟨t,x46,rfl,HT,ht,HAW,HBW⟩:=hrel
      cases gk with
      | zero =>
       have hge:decide (x46 < 64)=false:=decide_eq_false zq110;obtain ⟨hh,hhe⟩:∃ hh,hh=runM p i:=⟨_,rfl⟩;have hh8:=aM (show hh.length=8 by rw [hhe];exact (runM_ok p i).1);have hhR:=aM (show R32 hh by rw [hhe];exact (runM_ok p i).2);obtain ⟨ws,hwse⟩:∃ ws,ws=wordsM b 64:=⟨_,rfl⟩;have hws:=aM (show ws.length=64 by rw [hwse];exact (wordsM_ok b 64).1);have HAW':=aM (show Arr wr Wb 96 ws by rw [hwse];have h:=HAW.out;have:=ht.out;rw [show t=64 by omega] at h;exact h);have HAH:=aM (show Arr wr Hb 95 hh by rw [hhe];exact HAH11.out.below HBW.out zq109);have HAK:=aM (show Arr wr Kb 96 kM from HAK11.out.below HBW.out HKW.out);have HB7:=aM (show Below Hb w7 wr from HB7W.out.trans (HBW.out.mono zq109));have HHE:=aM hhe;have HWE:=aM hwse;clear HAW HAH11 HAK11 HB7W HBW hhe hwse HS11 HT ht;have HAW:=HAW';clear HAW'
       go_wp2_with (first|((with_reducible refine gate_dst (N:=99) rfl ?_);refine load_arr (N:=99) rfl rfl 95 _ rfl Hb rfl hh Try.underlying95 (by rw [hh8.out];exact info83s) HAH.out ?_)|((with_reducible refine gD 11 rfl ?_);refine new_arr (N:=11) rfl rfl rfl 95 rfl _ _ rfl rfl hh (z:=vals (zs 8)) (by rw [hh8.out];exact info83) (by rw [hh8.out];rfl) rfl rfl ?_;intro w15 hA15 hb15 hs15;have HA15:=aM hA15;have HB15:=aM hb15;have HS15:=aM hs15;clear hA15 hb15 hs15))
       obtain ⟨Sb,hSb⟩:∃ Sb,Sb=wr.heap.size:=⟨_,rfl⟩;have HWSb:=aM (show Wb < Sb by rw [hSb];exact HAW.out.lt);rw [← hSb] at HA15 HB15 HS15 ⊢;clear hSb;have HAH15:=aM (show Arr w15 Hb 95 hh from HAH.out.below HB15.out zq111);have HAK15:=aM (show Arr w15 Kb 96 kM from HAK.out.below HB15.out zq112);have HAW15:=aM (show Arr w15 Wb 96 ws from HAW.out.below HB15.out HWSb.out);have HB715:=aM (show Below Hb w7 w15 from HB7.out.trans (HB15.out.mono zq111));clear HAH HAK HAW HB7 HB15 HS15
       go_loopg [100] 64 (fun kq v100 w'=>∃ (t:Nat) (x100:Int),v100 = .int .i64 x100∧Aside0 (x100=(t:Int))∧Aside0 (t + kq=64)∧Aside0 (Arr w' Sb 95 (roundsM kM ws hh t))∧Aside0 (Below Sb w15 w'))
       case atStart=>exact ⟨0,0,rfl,⟨rfl⟩,⟨by omega⟩,HA15,⟨Below.refl _ _⟩⟩
       case round =>
        clear HA15 hge;obtain ⟨t,x100,rfl,HT,ht,HAS,HBS⟩:=hrel
        cases gk with
        | zero =>
         have hge:decide (x100 < 64)=false:=decide_eq_false zq110;obtain ⟨vs,hvse⟩:∃ vs,vs=roundsM kM ws hh 64:=⟨_,rfl⟩;have hv8:=aM (show vs.length=8 by rw [hvse];exact (roundsM_ok kM ws hh hh8.out hhR.out 64).1);have HVS:=aM hvse;have HAS':=aM (show Arr wr Sb 95 vs by rw [hvse];have h:=HAS.out;have:=ht.out;rw [show t=64 by omega] at h;exact h);have HAH:=aM (show Arr wr Hb 95 (addM hh vs 0 ++ hh.drop 0) from HAH15.out.below HBS.out zq111);have HAK:=aM (show Arr wr Kb 96 kM from HAK15.out.below HBS.out zq112);have HB7:=aM (show Below Hb w7 wr from HB715.out.trans (HBS.out.mono zq111));clear HAS HAH15 HAK15 HAW15 HB715 HBS hvse;have hix:=index_eight vs;have HIX:=aM hix;clear hix
         go_wp2_with (first|((with_reducible refine gate_dst (N:=174) rfl ?_);refine load_arr (N:=174) rfl rfl 95 _ rfl Sb rfl vs Try.underlying95 (by rw [hv8.out];exact info83s) HAS'.out ?_))
         go_loopg [175] 8 (fun kq v175 w'=>∃ (t:Nat) (x175:Int),v175 = .int .i64 x175∧Aside0 (x175=(t:Int))∧Aside0 (t + kq=8)∧Aside0 (Arr w' Hb 95 (addM hh vs t ++ hh.drop t))∧Aside0 (Arr w' Kb 96 kM)∧Aside0 (Below Hb w7 w'))
         case atStart=>exact ⟨0,0,rfl,⟨rfl⟩,⟨by omega⟩,HAH,HAK,HB7⟩
         case round =>
          clear HAH HAK HB7 hge HAS';obtain ⟨t,x175,rfl,HT,ht,HAH,HAK,HB7⟩:=hrel
          cases gk with
          | zero =>
           have hge:decide (x175 < 8)=false:=decide_eq_false zq110;go_wp2
           go_roundg k1
           case measure=>omega
           case rel =>
            have e0:addM hh vs t ++ hh.drop t=runM p (i + 1):=by
             have:=ht.out;rw [show t=8 by omega,List.drop_eq_nil_of_le (by have:=hh8.out;omega),List.append_nil,runM_succ,HVS.out,HWE.out,HBq.out,HHE.out]
             rfl
            exact ⟨i + 1,wrap64 (x6 + 64),rfl,⟨by rw [HAT.out];unfold wrap64;have:=HN.out;have:=hi.out;omega⟩,⟨by have:=hi.out;omega⟩,⟨by rw [← e0];exact HAH.out⟩,HAK,HB7⟩
          | succ k4 =>
           have hlt:decide (x175 < 8)=true:=decide_eq_true zq110;have u1:=eq_true (show 0≤x175 by have:=HT.out;omega);have u2:=eq_true (show x175 < 8 by have:=HT.out;have:=ht.out;omega);have hix:=HIX.out x175 hv8.out (by have:=HT.out;omega) zq110;have hll:=aM (show (addM hh vs t ++ hh.drop t).length=8 by rw [List.length_append,addM_len,List.length_drop,hh8.out];have:=ht.out;omega)
           have hrd:=aM (show rd (addM hh vs t ++ hh.drop t) (t:Int)=rd hh (t:Int) by
            unfold rd;rw [Int.toNat_natCast,List.getD_eq_getElem?_getD,List.getD_eq_getElem?_getD,List.getElem?_append_right (by rw [addM_len];exact Nat.le_refl _),addM_len,List.getElem?_drop,Nat.sub_self,Nat.add_zero])
           have hc:wr.cell? ⟨Hb,x175.toNat,none⟩=some (.int .u32 (rd hh x175)):=by
            have:=HAH.out.cell t (by rw [hll.out];have:=ht.out;omega);rw [HT.out,Int.toNat_natCast,← hrd.out];exact this
           have hf:wr.frozen? ⟨Hb,x175.toNat,none⟩=false:=HAH.out.frozen _;go_wp2
           go_roundg k4
           case measure=>omega
           case rel =>
            have e1:x175.toNat=t:=by rw [HT.out,Int.toNat_natCast]
            have e2:(addM hh vs t ++ hh.drop t).set x175.toNat (IntKind.u32.wrap (rd hh x175 + rd vs x175))=addM hh vs (t + 1) ++ hh.drop (t + 1):=by
             rw [e1,addM_succ,List.set_append_right _ _ (by rw [addM_len];exact Nat.le_refl _),addM_len,Nat.sub_self,HT.out,IntKind.wrap_u32,List.append_assoc]
             congr 1
             have:t < hh.length:=by rw [hh8.out];have:=ht.out;omega
             rw [List.drop_eq_getElem_cons this]
             rfl
            refine ⟨t + 1,wrap64 (x175 + 1),rfl,⟨zq113⟩,⟨zq114⟩,⟨?_⟩,⟨?_⟩,⟨?_⟩⟩
            ·
             rw [← e2];exact HAH.out.set _ _
            ·
             exact HAK.out.far (by have:=HHK.out;show Kb≠Hb;omega) _
            exact HB7.out.setCell (Nat.le_refl _) _
        | succ k3 =>
         have hlt:decide (x100 < 64)=true:=decide_eq_true zq110;obtain ⟨vs,hvse⟩:∃ vs,vs=roundsM kM ws hh t:=⟨_,rfl⟩;have hv8:=aM (show vs.length=8 by rw [hvse];exact (roundsM_ok kM ws hh hh8.out hhR.out t).1);have hvR:=aM (show R32 vs by rw [hvse];exact (roundsM_ok kM ws hh hh8.out hhR.out t).2);rw [← hvse] at HAS;have HVS:=aM hvse;clear hvse;have u1:=eq_true (show 0≤x100 by have:=HT.out;omega);have u2:=eq_true (show x100 < 64 by have:=HT.out;have:=ht.out;omega);have cS:∀ j:Nat,j < 8→wr.cell? ⟨Sb,j,none⟩=some (.int .u32 (rd vs (j:Int))):=fun j hj=>HAS.out.cell j (by rw [hv8.out];exact hj);have hT_:=HT.out;have ht_:=ht.out
         have cK:wr.cell? ⟨Kb,x100.toNat,none⟩=some (.int .u32 (rd kM x100)):=by
          have:=(HAK15.out.below HBS.out zq112).cell x100.toNat (by rw [show kM.length=64 from rfl];omega);rw [Int.toNat_of_nonneg (by omega)] at this;exact this
         have cW:wr.cell? ⟨Wb,x100.toNat,none⟩=some (.int .u32 (rd ws x100)):=by
          have:=(HAW15.out.below HBS.out HWSb.out).cell x100.toNat (by rw [hws.out];omega);rw [Int.toNat_of_nonneg (by omega)] at this;exact this
         have q0:=aM (cS 0 (by omega));have q1:=aM (cS 1 (by omega));have q2:=aM (cS 2 (by omega));have q4:=aM (cS 4 (by omega));have q5:=aM (cS 5 (by omega));have q6:=aM (cS 6 (by omega));have q7:=aM (cS 7 (by omega));have qK:=aM cK;have qW:=aM cW;clear cS cK cW hT_ ht_;obtain ⟨E,hE⟩:∃ E,E=rd vs ((4:Nat):Int):=⟨_,rfl⟩;obtain ⟨A_,hA⟩:∃ A_,A_=rd vs ((0:Nat):Int):=⟨_,rfl⟩;have RE:=aM (show 0≤E∧E < 4294967296 by rw [hE];exact hvR.out.at _);have RA:=aM (show 0≤A_∧A_ < 4294967296 by rw [hA];exact hvR.out.at _);rw [← hE] at q4;rw [← hA] at q0;have HE:=aM hE;have HA_:=aM hA;clear hE hA
         go_wp2_with fail
         refine start_ (n:=6) (S:=fun w'=>w'.cell? ⟨Sb,4,none⟩=some (.int .u32 (E))∧w'.cell? ⟨Sb,0,none⟩=some (.int .u32 (A_))) (ds:=[]) #[ff,ff,ff,ff,ff,ff] (by kernel_rfl) rfl rfl ⟨q4.out,q0.out⟩ (fun hHeld=>?_);skip;refine pure_ (i:=0) (N:=some 103) (v:=?_) (a':=?_) #[tt,ff,ff,ff,ff,ff] rfl rfl (by kernel_rfl) (fun _ _ _ h=>h) (Or.inl ⟨by rfl,?_⟩) ?_ ?_;rotate_left;exact zq506;rotate_left;exact zq507;refine pure_ (i:=2) (N:=some 105) (v:=?_) (a':=?_) #[tt,ff,tt,ff,ff,ff] rfl rfl (by kernel_rfl) (fun _ _ _ h=>h) (Or.inl ⟨by rfl,?_⟩) ?_ ?_;rotate_left;exact zq506;rotate_left;exact zq507;refine take_ (i:=1) (N:=some 104) (v:=?_) (a':=?_) #[tt,tt,tt,ff,ff,ff] rfl rfl (by kernel_rfl) (fun _ _ _ h=>h) (Or.inl ⟨by rfl,?_⟩) hHeld ?_ ?_;rotate_left;exact zq521;rotate_left;exact zq507;refine pure_ (i:=4) (N:=some 13) (v:=?_) (a':=?_) #[tt,tt,tt,ff,tt,ff] rfl rfl (by kernel_rfl) (fun _ _ _ h=>h) (Or.inl ⟨by rfl,?_⟩) ?_ ?_;rotate_left;exact zq506;rotate_left;exact zq507;refine take_ (i:=3) (N:=some 106) (v:=?_) (a':=?_) #[tt,tt,tt,tt,tt,ff] rfl rfl (by kernel_rfl) (fun _ _ _ h=>h) (Or.inl ⟨by rfl,?_⟩) hHeld ?_ ?_;rotate_left;exact zq521;rotate_left;exact zq507;refine pure_ (i:=5) (N:=some 14) (v:=?_) (a':=?_) #[tt,tt,tt,tt,tt,tt] rfl rfl (by kernel_rfl) (fun _ _ _ h=>h) (Or.inl ⟨by rfl,?_⟩) ?_ ?_;rotate_left;exact zq506;rotate_left;exact zq507
         refine done_ (by kernel_rfl) ?_;have k6:=aM (impl_rot1 E RE.out 6 6 rfl (by omega) (by omega));have k11:=aM (impl_rot1 E RE.out 11 11 rfl (by omega) (by omega));have k25:=aM (impl_rot1 E RE.out 25 25 rfl (by omega) (by omega));have k2:=aM (impl_rot1 A_ RA.out 2 2 rfl (by omega) (by omega));have k13:=aM (impl_rot1 A_ RA.out 13 13 rfl (by omega) (by omega));have k22:=aM (impl_rot1 A_ RA.out 22 22 rfl (by omega) (by omega))
         go_wp2_with fail
         refine start_ (n:=31) (S:=fun w'=>w'.cell? ⟨Sb,7,none⟩=some (.int .u32 (rd vs ((7:Nat):Int)))∧w'.cell? ⟨Sb,5,none⟩=some (.int .u32 (rd vs ((5:Nat):Int)))∧w'.cell? ⟨Sb,6,none⟩=some (.int .u32 (rd vs ((6:Nat):Int)))∧w'.cell? ⟨Kb,x100.toNat,none⟩=some (.int .u32 (rd kM x100))∧w'.cell? ⟨Wb,x100.toNat,none⟩=some (.int .u32 (rd ws x100))) (ds:=[]) (bA 31 0) (by kernel_rfl) rfl rfl ⟨q7.out,q5.out,q6.out,qK.out,qW.out⟩ (fun hHeld=>?_);refine with_tabW impl_sum.tab24 impl_sum.bits24 (fun HT_ HW_=>?_);skip;refine pV 0 107 31 1 ?_;refine pV 2 109 31 5 ?_;refine pV 4 111 31 21 ?_;refine pV 7 114 31 149 ?_;refine pV 11 118 31 2197 ?_;refine pV 12 119 31 6293 ?_;refine pV 15 122 31 39061 ?_;refine pV 16 123 31 104597 ?_;refine pV 17 124 31 235669 ?_;refine pV 22 129 31 4429973 ?_;refine pV 23 130 31 12818581 ?_;refine pV 26 133 31 79927445 ?_;refine pV 27 134 31 214145173 ?_;refine tV 1 108 31 214145175 rfl zq522 ?_;refine tV 13 120 31 214153367 rfl zq522 ?_;refine pV 14 121 31 214169751 ?_;refine tV 18 125 31 214431895 rfl zq522 ?_;refine pV 19 126 31 214956183 ?_;refine pV 20 127 31 216004759 ?_;refine tV 24 131 31 232781975 rfl zq522 ?_;refine tV 28 135 31 501217431 rfl zq522 ?_;refine oE 3 110 31 501217439 rfl (fun K hK=>?_);refine goes_ Try.func78 (by kernel_rfl) rfl #[.int .u32 E,.int .i64 6] (by rfl) rfl rfl zq106 ?_
         with_reducible refine (impl_rotate.calls E 6 _ _ k6.out).mono ?_
         rintro e w' ⟨rfl,⟨nd,rfl⟩⟩;refine ⟨_,rfl,?_⟩;refine hK.out _ _ ⟨hHeld.1,hHeld.2.1,hHeld.2.2.1,hHeld.2.2.2.1,hHeld.2.2.2.2⟩ (fun hHeld=>?_);clear hK K;refine norm_ (a':=?_) ?_ ?_;rotate_left
         ·
          show Act.put _ (some 110) _=_
          simp only [Act.put,List.setIfInBounds_toArray,List.set_cons_zero,List.set_cons_succ,i64_w,i32_w]
          rfl
         refine oE 5 112 31 501217471 rfl (fun K hK=>?_);refine goes_ Try.func78 (by kernel_rfl) rfl #[.int .u32 E,.int .i64 11] (by rfl) rfl rfl zq106 ?_
         with_reducible refine (impl_rotate.calls E 11 _ _ k11.out).mono ?_
         rintro e w' ⟨rfl,⟨nd,rfl⟩⟩;refine ⟨_,rfl,?_⟩;refine hK.out _ _ ⟨hHeld.1,hHeld.2.1,hHeld.2.2.1,hHeld.2.2.2.1,hHeld.2.2.2.2⟩ (fun hHeld=>?_);clear hK K;refine norm_ (a':=?_) ?_ ?_;rotate_left
         ·
          show Act.put _ (some 112) _=_
          simp only [Act.put,List.setIfInBounds_toArray,List.set_cons_zero,List.set_cons_succ,i64_w,i32_w]
          rfl
         refine pV 6 113 31 501217535 ?_;refine oE 8 115 31 501217791 rfl (fun K hK=>?_);refine goes_ Try.func78 (by kernel_rfl) rfl #[.int .u32 E,.int .i64 25] (by rfl) rfl rfl zq106 ?_
         with_reducible refine (impl_rotate.calls E 25 _ _ k25.out).mono ?_
         rintro e w' ⟨rfl,⟨nd,rfl⟩⟩;refine ⟨_,rfl,?_⟩;refine hK.out _ _ ⟨hHeld.1,hHeld.2.1,hHeld.2.2.1,hHeld.2.2.2.1,hHeld.2.2.2.2⟩ (fun hHeld=>?_);clear hK K;refine norm_ (a':=?_) ?_ ?_;rotate_left
         ·
          show Act.put _ (some 115) _=_
          simp only [Act.put,List.setIfInBounds_toArray,List.set_cons_zero,List.set_cons_succ,i64_w,i32_w]
          rfl
         refine pV 9 116 31 501218303 ?_;refine pV 10 117 31 501219327 ?_;refine pV 21 128 31 503316479 ?_;refine pV 25 132 31 536870911 ?_;refine pV 29 136 31 1073741823 ?_;refine pV 30 15 31 2147483647 ?_;refine dE ?_
         go_wp2_with fail
         generalize hONE:IntKind.u32.wrap (IntKind.u32.wrap (IntKind.u32.wrap (IntKind.u32.wrap (rd vs 7 + Go.bits .xor .u32 (Go.bits .xor .u32 (Bits.rotr E 6) (Bits.rotr E 11)) (Bits.rotr E 25)) + Go.bits .xor .u32 (Go.bits .and .u32 E (rd vs 5)) (Go.bits .and .u32 (Go.bits .xor .u32 IntKind.u32.max E) (rd vs 6))) + rd kM x100) + rd ws x100)=ONE;have HONE:=aM hONE;clear hONE;refine start_ (n:=25) (S:=fun w'=>w'.cell? ⟨Sb,1,none⟩=some (.int .u32 (rd vs ((1:Nat):Int)))∧w'.cell? ⟨Sb,2,none⟩=some (.int .u32 (rd vs ((2:Nat):Int)))) (ds:=[]) (bA 25 0) (by kernel_rfl) rfl rfl ⟨q1.out,q2.out⟩ (fun hHeld=>?_);refine with_tabW impl_sum.tab25 impl_sum.bits25 (fun HT_ HW_=>?_);skip;refine pV 0 137 25 1 ?_;refine pV 2 139 25 5 ?_;refine pV 5 142 25 37 ?_;refine pV 8 145 25 293 ?_;refine pV 9 146 25 805 ?_;refine pV 12 149 25 4901 ?_;refine pV 13 150 25 13093 ?_;refine pV 17 154 25 144165 ?_;refine pV 19 156 25 668453 ?_;refine tV 10 147 25 669477 rfl zq521 ?_;refine pV 11 148 25 671525 ?_;refine tV 14 151 25 687909 rfl zq521 ?_;refine pV 15 152 25 720677 ?_;refine pV 16 153 25 786213 ?_;refine tV 18 155 25 1048357 rfl zq521 ?_;refine tV 20 157 25 2096933 rfl zq521 ?_;refine pV 21 158 25 4194085 ?_;refine pV 22 159 25 8388389 ?_;refine oE 1 138 25 8388391 rfl (fun K hK=>?_);refine goes_ Try.func78 (by kernel_rfl) rfl #[.int .u32 A_,.int .i64 2] (by rfl) rfl rfl zq106 ?_
         with_reducible refine (impl_rotate.calls A_ 2 _ _ k2.out).mono ?_
         rintro e w' ⟨rfl,⟨nd,rfl⟩⟩;refine ⟨_,rfl,?_⟩;refine hK.out _ _ ⟨hHeld.1,hHeld.2⟩ (fun hHeld=>?_);clear hK K;refine norm_ (a':=?_) ?_ ?_;rotate_left
         ·
          show Act.put _ (some 138) _=_
          simp only [Act.put,List.setIfInBounds_toArray,List.set_cons_zero,List.set_cons_succ,i64_w,i32_w]
          rfl
         refine oE 3 140 25 8388399 rfl (fun K hK=>?_);refine goes_ Try.func78 (by kernel_rfl) rfl #[.int .u32 A_,.int .i64 13] (by rfl) rfl rfl zq106 ?_
         with_reducible refine (impl_rotate.calls A_ 13 _ _ k13.out).mono ?_
         rintro e w' ⟨rfl,⟨nd,rfl⟩⟩;refine ⟨_,rfl,?_⟩;refine hK.out _ _ ⟨hHeld.1,hHeld.2⟩ (fun hHeld=>?_);clear hK K;refine norm_ (a':=?_) ?_ ?_;rotate_left
         ·
          show Act.put _ (some 140) _=_
          simp only [Act.put,List.setIfInBounds_toArray,List.set_cons_zero,List.set_cons_succ,i64_w,i32_w]
          rfl
         refine pV 4 141 25 8388415 ?_;refine oE 6 143 25 8388479 rfl (fun K hK=>?_);refine goes_ Try.func78 (by kernel_rfl) rfl #[.int .u32 A_,.int .i64 22] (by rfl) rfl rfl zq106 ?_
         with_reducible refine (impl_rotate.calls A_ 22 _ _ k22.out).mono ?_
         rintro e w' ⟨rfl,⟨nd,rfl⟩⟩;refine ⟨_,rfl,?_⟩;refine hK.out _ _ ⟨hHeld.1,hHeld.2⟩ (fun hHeld=>?_);clear hK K;refine norm_ (a':=?_) ?_ ?_;rotate_left
         ·
          show Act.put _ (some 143) _=_
          simp only [Act.put,List.setIfInBounds_toArray,List.set_cons_zero,List.set_cons_succ,i64_w,i32_w]
          rfl
         refine pV 7 144 25 8388607 ?_;refine pV 23 160 25 16777215 ?_;refine pV 24 16 25 33554431 ?_;refine dE ?_
         go_wp2_with fail
         generalize hTWO:IntKind.u32.wrap (Go.bits .xor .u32 (Go.bits .xor .u32 (Bits.rotr A_ 2) (Bits.rotr A_ 13)) (Bits.rotr A_ 22) + Go.bits .xor .u32 (Go.bits .xor .u32 (Go.bits .and .u32 A_ (rd vs 1)) (Go.bits .and .u32 A_ (rd vs 2))) (Go.bits .and .u32 (rd vs 1) (rd vs 2)))=TWO;have HTWO:=aM hTWO;clear hTWO;refine start_ (n:=3) (S:=fun w'=>True) (ds:=[]) #[ff,ff,ff] (by kernel_rfl) rfl rfl trivial (fun hHeld=>?_);skip;refine pure_ (i:=0) (N:=some 161) (v:=?_) (a':=?_) #[tt,ff,ff] rfl rfl (by kernel_rfl) (fun _ _ _ h=>h) (Or.inl ⟨by rfl,?_⟩) ?_ ?_;rotate_left;exact zq506;rotate_left;exact zq507;refine pure_ (i:=1) (N:=some 162) (v:=?_) (a':=?_) #[tt,tt,ff] rfl rfl (by kernel_rfl) (fun _ _ _ h=>h) (Or.inl ⟨by rfl,?_⟩) ?_ ?_;rotate_left;exact zq506;rotate_left;exact zq507;refine one_ (i:=2) (N:=some 163) #[tt,tt,tt] rfl rfl (by kernel_rfl) (by decide) (fun K hK=>?_)
         refine step_copy_splice rfl _ _ 59 59 rfl 62 Try.underlying59 info59s _ _ 7 7 7 8 rfl rfl Sb 1 (vs.map (Value.int .u32)) 95 (by exact HAS.out) ((vs.take 7).map (Value.int .u32)) (by rw [List.length_map,List.length_take,hv8.out];rfl) (fun _=>⟨rfl,_,rfl,by exact src_cells (t:=95) (by exact HAS.out) 7⟩) (by rw [List.length_map,List.length_map,List.length_take,hv8.out];decide) (fun v hv=>by obtain ⟨x,_,rfl⟩:=List.mem_map.1 hv;rfl) Sb w15 (by (repeat (first | exact HBS.out | apply pw_below_drewN | apply below_drew1));done) (Nat.le_refl _) ?_;intro w16 hg16 hb16;refine hK.out _ _ trivial (fun hHeld=>?_);clear hK K;refine norm_ (a':=?_) ?_ ?_;rotate_left
         ·
          show Act.put _ (some 163) _=_
          simp only [Act.put,List.setIfInBounds_toArray,List.set_cons_zero,List.set_cons_succ,i64_w,i32_w]
          rfl
         refine done_ (by kernel_rfl) ?_;have HA16:=aM (show Arr w16 Sb 95 [rd vs 0,rd vs 0,rd vs 1,rd vs 2,rd vs 3,rd vs 4,rd vs 5,rd vs 6] by have h:=hg16.out;rw [moved vs hv8.out] at h;exact h);have HB16:=aM hb16;clear hg16 hb16 HAS HBS;have c4:w16.cell? ⟨Sb,4,none⟩=some (.int .u32 (rd vs 3)):=HA16.out.cell 4 (by simp);have c0:w16.cell? ⟨Sb,0,none⟩=some (.int .u32 (rd vs 0)):=HA16.out.cell 0 (by simp);have f4:w16.frozen? ⟨Sb,4,none⟩=false:=HA16.out.frozen 4;have f0:w16.frozen? ⟨Sb,0,none⟩=false:=HA16.out.frozen 0;go_wp2
         go_roundg k3
         case measure=>omega
         case rel =>
          have eE:E=rd vs 4:=HE.out;have eA:A_=rd vs 0:=HA_.out
          have e1:ONE=oneM kM ws vs t:=by
           rw [← HONE.out,HT.out,eE];unfold oneM big1 ch
           simp only [IntKind.wrap_u32,show IntKind.u32.max=4294967295 from rfl]
           omega
          have e2:TWO=twoM vs:=by
           rw [← HTWO.out,eA];unfold twoM big0 maj
           simp only [IntKind.wrap_u32]
          have e3:(([rd vs 0,rd vs 0,rd vs 1,rd vs 2,rd vs 3,rd vs 4,rd vs 5,rd vs 6]:List Int).set 4 (IntKind.u32.wrap (rd vs 3 + ONE))).set 0 (IntKind.u32.wrap (ONE + TWO))=roundsM kM ws hh (t + 1):=by
           rw [roundsM_succ,← HVS.out,e1,e2]
           simp only [IntKind.wrap_u32]
           rfl
          refine ⟨t + 1,wrap64 (x100 + 1),rfl,⟨zq113⟩,⟨zq114⟩,⟨?_⟩,⟨?_⟩⟩
          ·
           rw [← e3];exact (HA16.out.set 4 _).set 0 _
          exact (HB16.out.setCell (Nat.le_refl _) _).setCell (Nat.le_refl _) _
      | succ k2 =>
       have hlt:decide (x46 < 64)=true:=decide_eq_true zq110;have hws:=aM (wordsM_ok b t).1;obtain ⟨ws,hwse⟩:∃ ws,ws=wordsM b t:=⟨_,rfl⟩;rw [← hwse] at HAW hws;have HWS:=aM hwse;clear hwse;by_cases h16:t < 16
       ·
        have h16b:decide (x46 < 16)=true:=decide_eq_true (by have:=HT.out;omega);have H16:=aM h16;clear h16;obtain ⟨x56,e56⟩:∃ x56,wrap64 (4 * x46)=x56:=⟨_,rfl⟩;obtain ⟨x57,e57⟩:∃ x57,wrap64 (x6 + x56)=x57:=⟨_,rfl⟩
        have h57:x57=((64 * i + 4 * t:Nat):Int):=by
         have:=HT.out;have:=HAT.out;have:=H16.out;have:=HN.out;have:=hi.out
         rw [← e57,← e56];unfold wrap64;omega
        have H57:=aM h57;have hm57:x57.toNat=64 * i + 4 * t:=by rw [h57,Int.toNat_natCast]
        have HM57:=aM hm57;have hle57:64 * i + 4 * t + 4≤p.length:=by have:=HPL.out;have:=hi.out;have:=H16.out;omega
        have s1:=eq_true (show 0≤x57 by omega);have s2:=eq_true (show x57≤(p.length:Int) by omega);have s3:=eq_false (show ¬ pc=x57.toNat by have:=HC9.out.2.1;omega)
        have HU:=aM (show binary_bigEndian_Uint32.f (p.drop x57.toNat)=some (be4 b t) by
         rw [hm57];exact uint32_be p _ b t hle57 (fun j hj=>by rw [hbr.out (4 * t + j) (by have:=H16.out;omega)];congr 2;omega))
        have HCu:=aM (C_behind HC9.out.2.2 x57.toNat (by omega));clear h57 hm57 hle57
        go_wp2_with fail
        have u1:=eq_true (show 0≤x46 by have:=HT.out;omega);have u2:=eq_true (show x46 < 64 by have:=HT.out;have:=H16.out;omega);have HAWd:=aM (show Arr wr.drew Wb 96 ws from HAW.out);have HBWd:=aM (show Below Wb w11 wr.drew from HBW.out.drew);clear HAW HBW;refine start_ (n:=11) (S:=fun w'=>True) (ds:=[]) (bA 11 0) (by kernel_rfl) rfl rfl trivial (fun hHeld=>?_);refine with_tabW impl_sum.tab15 impl_sum.bits15 (fun HT_ HW_=>?_);generalize wr.drew=wd at HAWd HBWd hHeld ⊢;refine pV 0 51 11 1 ?_;refine pV 2 53 11 5 ?_;refine pV 3 54 11 13 ?_;refine pV 4 55 11 29 ?_;refine pV 5 56 11 61 ?_;refine pV 6 57 11 125 ?_;refine pV 7 58 11 253 ?_;refine tk_ (i:=1) (N:=some 52) (bA 11 255) rfl rfl HT_ HW_ (by kernel_rfl) (Or.inl ⟨by rfl,(by intro w' _;go_simp;with_reducible rfl)⟩) hHeld zq507 ?_;refine oE 8 59 11 511 rfl (fun K hK=>?_);refine goes_ Try.func77 (by kernel_rfl) rfl #[.agg #[],.slice (some ⟨pg,x57.toNat,none⟩) (p.drop x57.toNat).length (pc - x57.toNat)] (by rfl) rfl rfl (by (try simp only [List.map_toArray,List.map_cons,List.map_nil]);first | done | rfl|(simp only [List.length_drop];rfl)) ?_
        with_reducible refine (binary_bigEndian_Uint32.calls _ _ (p.drop x57.toNat) (be4 b t) wd ?side1 ?side2 HU.out).mono ?_
        case side1=>exact Kd.C_below HCu.out ⟨(HB7W.out.trans (HBWd.out.mono zq109)).os,(HB7W.out.trans (HBWd.out.mono zq109)).tape,(HB7W.out.trans (HBWd.out.mono zq109)).output,(HB7W.out.trans (HBWd.out.mono zq109)).size,by rw [← HHb.out];exact (HB7W.out.trans (HBWd.out.mono zq109)).block⟩
        case side2=>rw [List.length_drop];have:=HC9.out.2.1;omega
        rintro e w3 ⟨rfl,hb⟩;refine ⟨_,rfl,?_⟩;have HAW3:=aM (HAWd.out.below' hb);have HBW3:=aM (show Below Wb w11 w3 from HBWd.out.trans (hb.mono (by have:=HBWd.out.size;have:=HS11.out;omega)));clear hb HAWd HBWd;have hc3:w3.cell? ⟨Wb,x46.toNat,none⟩=some (.int .u32 (rd ws (x46.toNat:Int))):=HAW3.out.cell x46.toNat (by have:=hws.out;have:=HT.out;have:=H16.out;omega);have hf3:w3.frozen? ⟨Wb,x46.toNat,none⟩=false:=HAW3.out.frozen _;refine hK.out _ _ trivial (fun hHeld=>?_);clear hK K;refine norm_ (a':=?_) ?_ ?_;rotate_left
        ·
         show Act.put _ (some 59) _=_
         simp only [Act.put,List.setIfInBounds_toArray,List.set_cons_zero,List.set_cons_succ,i64_w,i32_w]
         rfl
        refine pV 9 60 11 1023 ?_;refine one_ (i:=10) (N:=none) (bA 11 2047) rfl rfl (one_of HT_.out (by kernel_rfl)) (by decide) (fun K hK=>?_);refine skip_ (w1:=?_) (by rfl) rfl ?_ ?_;rotate_left
        ·
         go_simp
         rfl
        refine hK.out _ _ trivial (fun hHeld=>?_);clear hK K;refine dE ?_;go_wp2
        go_roundg k2
        case measure=>omega
        case rel =>
         have e1:x46.toNat=t:=by rw [HT.out,Int.toNat_natCast]
         have e2:ws.set x46.toNat (be4 b t)=wordsM b (t + 1):=by rw [e1,wordsM_succ,HWS.out];unfold stepW;rw [if_pos H16.out]
         exact ⟨t + 1,wrap64 (x46 + 1),rfl,⟨zq113⟩,⟨zq114⟩,⟨e2 ▸ HAW3.out.set x46.toNat (be4 b t)⟩,⟨HBW3.out.setCell (Nat.le_refl _) _⟩⟩
       have h16b:decide (x46 < 16)=false:=decide_eq_false (by have:=HT.out;omega);have H16:=aM h16;clear h16;obtain ⟨x62,e62⟩:∃ x62,wrap64 (x46 - 15)=x62:=⟨_,rfl⟩;obtain ⟨x66,e66⟩:∃ x66,wrap64 (x46 - 2)=x66:=⟨_,rfl⟩;obtain ⟨x71,e71⟩:∃ x71,wrap64 (x46 - 16)=x71:=⟨_,rfl⟩;obtain ⟨x75,e75⟩:∃ x75,wrap64 (x46 - 7)=x75:=⟨_,rfl⟩;have ht_:=ht.out;have hT_:=HT.out;have h16_:=H16.out;have h62:x62=((t - 15:Nat):Int):=by rw [← e62];unfold wrap64;omega
       have h66:x66=((t - 2:Nat):Int):=by rw [← e66];unfold wrap64;omega
       have h71:x71=((t - 16:Nat):Int):=by rw [← e71];unfold wrap64;omega
       have h75:x75=((t - 7:Nat):Int):=by rw [← e75];unfold wrap64;omega
       have b62:=eq_true (show 0≤x62 by omega);have B62:=eq_true (show x62 < 64 by omega);have b66:=eq_true (show 0≤x66 by omega);have B66:=eq_true (show x66 < 64 by omega);have b71:=eq_true (show 0≤x71 by omega);have B71:=eq_true (show x71 < 64 by omega);have b75:=eq_true (show 0≤x75 by omega);have B75:=eq_true (show x75 < 64 by omega);have u1:=eq_true (show 0≤x46 by omega);have u2:=eq_true (show x46 < 64 by omega)
       have cells:∀ x:Int,0≤x→x < 64→wr.cell? ⟨Wb,x.toNat,none⟩=some (.int .u32 (rd ws x)):=fun x h0 h1=>by
        have:=HAW.out.cell x.toNat (by rw [hws.out];omega);rw [Int.toNat_of_nonneg h0] at this;exact this
       have q62:=aM (cells x62 (by omega) (by omega));have q66:=aM (cells x66 (by omega) (by omega));have q71:=aM (cells x71 (by omega) (by omega));have q75:=aM (cells x75 (by omega) (by omega));have q46:=aM (cells x46 (by omega) (by omega));have H62:=aM h62;have H66:=aM h66;have H71:=aM h71;have H75:=aM h75;have hR:=aM (show R32 ws by rw [HWS.out];exact (wordsM_ok b t).2);clear h62 h66 h71 h75 ht_ hT_ h16_ cells;obtain ⟨X,hX⟩:∃ X,X=rd ws x62:=⟨_,rfl⟩;obtain ⟨Y,hY⟩:∃ Y,Y=rd ws x66:=⟨_,rfl⟩;have RX:=aM (show 0≤X∧X < 4294967296 by rw [hX];exact hR.out.at _);have RY:=aM (show 0≤Y∧Y < 4294967296 by rw [hY];exact hR.out.at _);rw [← hX] at q62;rw [← hY] at q66;have HX:=aM hX;have HY:=aM hY;clear hX hY
       go_wp2_with fail
       have HAWd:=aM (show Arr wr.drew Wb 96 ws from HAW.out);have HBWd:=aM (show Below Wb w11 wr.drew from HBW.out.drew);have q71d:=aM (show wr.drew.cell? _=_ from q71.out);have q75d:=aM (show wr.drew.cell? _=_ from q75.out);have q46d:=aM (show wr.drew.cell? _=_ from q46.out);refine start_ (n:=10) (S:=fun w'=>w'.cell? ⟨Wb,x62.toNat,none⟩=some (.int .u32 (X))∧w'.cell? ⟨Wb,x66.toNat,none⟩=some (.int .u32 (Y))) (ds:=[]) (bA 10 0) (by kernel_rfl) rfl rfl ⟨q62.out,q66.out⟩ (fun hHeld=>?_);refine with_tabW impl_sum.tab16 impl_sum.bits16 (fun HT_ HW_=>?_);generalize wr.drew=wd at HAWd HBWd q71d q75d q46d hHeld ⊢;refine pV 0 61 10 1 ?_;refine pV 1 62 10 3 ?_;refine pV 2 63 10 7 ?_;refine pV 4 65 10 23 ?_;refine pV 5 66 10 55 ?_;refine pV 6 67 10 119 ?_;refine tV 3 64 10 127 rfl zq521 ?_;refine pV 8 9 10 383 ?_;refine tV 7 68 10 511 rfl zq521 ?_;refine pV 9 10 10 1023 ?_;refine dE ?_
       go_wp2_with fail
       have HAWe:=aM (show Arr wd.drew Wb 96 ws from HAWd.out);have HBWe:=aM (show Below Wb w11 wd.drew from HBWd.out.drew);have q71e:=aM (show wd.drew.cell? _=_ from q71d.out);have q75e:=aM (show wd.drew.cell? _=_ from q75d.out);have q46e:=aM (show wd.drew.cell? _=_ from q46d.out);clear HAWd HBWd q71d q75d q46d;have k7:=aM (impl_rot1 X RX.out 7 7 rfl (by omega) (by omega));have k18:=aM (impl_rot1 X RX.out 18 18 rfl (by omega) (by omega));have k17:=aM (impl_rot1 Y RY.out 17 17 rfl (by omega) (by omega));have k19:=aM (impl_rot1 Y RY.out 19 19 rfl (by omega) (by omega));refine start_ (n:=30) (S:=fun w'=>w'.cell? ⟨Wb,x71.toNat,none⟩=some (.int .u32 (rd ws x71))∧w'.cell? ⟨Wb,x75.toNat,none⟩=some (.int .u32 (rd ws x75))) (ds:=[29]) (bA 30 0) (by kernel_rfl) rfl rfl ⟨q71e.out,q75e.out⟩ (fun hHeld=>?_);refine with_tabW impl_sum.tab17 impl_sum.bits17 (fun HT_ HW_=>?_)
       generalize wd.drew=we at HAWe HBWe q71e q75e q46e hHeld ⊢;have hcW:we.cell? ⟨Wb,x46.toNat,none⟩=some (.int .u32 (rd ws x46)):=q46e.out;have hfW:we.frozen? ⟨Wb,x46.toNat,none⟩=false:=HAWe.out.frozen _
       refine pV 0 69 30 1 ?_;refine pV 1 70 30 3 ?_;refine pV 2 71 30 7 ?_;refine pV 3 72 30 15 ?_;refine pV 5 74 30 47 ?_;refine pV 6 75 30 111 ?_;refine pV 7 76 30 239 ?_;refine pV 10 79 30 1263 ?_;refine pV 12 81 30 5359 ?_;refine pV 15 84 30 38127 ?_;refine pV 16 85 30 103663 ?_;refine pV 19 88 30 627951 ?_;refine pV 21 90 30 2725103 ?_;refine pV 24 93 30 19502319 ?_;refine pV 25 94 30 53056751 ?_;refine tV 4 73 30 53056767 rfl zq521 ?_;refine tV 8 77 30 53057023 rfl zq521 ?_;refine pV 9 78 30 53057535 ?_;refine oE 11 80 30 53059583 rfl (fun K hK=>?_);refine goes_ Try.func78 (by kernel_rfl) rfl #[.int .u32 X,.int .i64 7] (by rfl) rfl rfl zq106 ?_
       with_reducible refine (impl_rotate.calls X 7 _ _ k7.out).mono ?_
       rintro e w' ⟨rfl,⟨nd,rfl⟩⟩;refine ⟨_,rfl,?_⟩;refine hK.out _ _ ⟨hHeld.1,hHeld.2⟩ (fun hHeld=>?_);clear hK K;refine norm_ (a':=?_) ?_ ?_;rotate_left
       ·
        show Act.put _ (some 80) _=_
        simp only [Act.put,List.setIfInBounds_toArray,List.set_cons_zero,List.set_cons_succ,i64_w,i32_w]
        rfl
       refine oE 13 82 30 53067775 rfl (fun K hK=>?_);refine goes_ Try.func78 (by kernel_rfl) rfl #[.int .u32 X,.int .i64 18] (by rfl) rfl rfl zq106 ?_
       with_reducible refine (impl_rotate.calls X 18 _ _ k18.out).mono ?_
       rintro e w' ⟨rfl,⟨nd,rfl⟩⟩;refine ⟨_,rfl,?_⟩;refine hK.out _ _ ⟨hHeld.1,hHeld.2⟩ (fun hHeld=>?_);clear hK K;refine norm_ (a':=?_) ?_ ?_;rotate_left
       ·
        show Act.put _ (some 82) _=_
        simp only [Act.put,List.setIfInBounds_toArray,List.set_cons_zero,List.set_cons_succ,i64_w,i32_w]
        rfl
       refine pV 14 83 30 53084159 ?_;refine pV 17 86 30 53215231 ?_;refine pV 18 87 30 53477375 ?_;refine oE 20 89 30 54525951 rfl (fun K hK=>?_);refine goes_ Try.func78 (by kernel_rfl) rfl #[.int .u32 Y,.int .i64 17] (by rfl) rfl rfl zq106 ?_
       with_reducible refine (impl_rotate.calls Y 17 _ _ k17.out).mono ?_
       rintro e w' ⟨rfl,⟨nd,rfl⟩⟩;refine ⟨_,rfl,?_⟩;refine hK.out _ _ ⟨hHeld.1,hHeld.2⟩ (fun hHeld=>?_);clear hK K;refine norm_ (a':=?_) ?_ ?_;rotate_left
       ·
        show Act.put _ (some 89) _=_
        simp only [Act.put,List.setIfInBounds_toArray,List.set_cons_zero,List.set_cons_succ,i64_w,i32_w]
        rfl
       refine oE 22 91 30 58720255 rfl (fun K hK=>?_);refine goes_ Try.func78 (by kernel_rfl) rfl #[.int .u32 Y,.int .i64 19] (by rfl) rfl rfl zq106 ?_
       with_reducible refine (impl_rotate.calls Y 19 _ _ k19.out).mono ?_
       rintro e w' ⟨rfl,⟨nd,rfl⟩⟩;refine ⟨_,rfl,?_⟩;refine hK.out _ _ ⟨hHeld.1,hHeld.2⟩ (fun hHeld=>?_);clear hK K;refine norm_ (a':=?_) ?_ ?_;rotate_left
       ·
        show Act.put _ (some 91) _=_
        simp only [Act.put,List.setIfInBounds_toArray,List.set_cons_zero,List.set_cons_succ,i64_w,i32_w]
        rfl
       refine pV 23 92 30 67108863 ?_;refine pV 26 95 30 134217727 ?_;refine pV 27 96 30 268435455 ?_;refine pV 28 97 30 536870911 ?_;refine last_ (i:=29) (N:=none) (bA 30 1073741823) rfl rfl (one_of HT_.out (by kernel_rfl)) (by decide) (fun K hK=>?_);refine skip_ (w1:=_) (by rfl) rfl (store_w32 (old:=.int .u32 (rd ws x46)) rfl rfl rfl ?hcc ?hff) ?_
       case hcc=>exact hcW
       case hff=>exact hfW
       refine hK.out _ _ ?_;clear hK K;refine dE ?_;go_wp2
       go_roundg k2
       case measure=>omega
       case rel =>
        have e1:x46.toNat=t:=by rw [HT.out,Int.toNat_natCast]
        have hvv:IntKind.u32.wrap (IntKind.u32.wrap (IntKind.u32.wrap (rd ws x71 + rd ws x75) + Go.bits .xor .u32 (Go.bits .xor .u32 (Bits.rotr X 7) (Bits.rotr X 18)) (X / 8)) + Go.bits .xor .u32 (Go.bits .xor .u32 (Bits.rotr Y 17) (Bits.rotr Y 19)) (Y / 1024))=nextW ws t:=by
         rw [HX.out,HY.out,H62.out,H66.out,H71.out,H75.out];unfold nextW sml0 sml1
         simp only [IntKind.wrap_u32]
         omega
        have e2:ws.set x46.toNat (nextW ws t)=wordsM b (t + 1):=by rw [e1,wordsM_succ,HWS.out];unfold stepW;rw [if_neg H16.out]
        refine ⟨t + 1,wrap64 (x46 + 1),rfl,⟨zq113⟩,⟨zq114⟩,⟨?_⟩,⟨?_⟩⟩
        ·
         rw [← e2,← hvv];exact Arr.set (by exact HAWe.out) _ _
        refine Below.setCell (B:=Wb) (p:=⟨Wb,x46.toNat,none⟩) ?_ (Nat.le_refl Wb) _
        (repeat apply pw_below_drewN)
        exact HBWe.out
  | succ k1 =>
   have hm:¬ ((x3.length:Int) % 64)=56:=by have:=NL.out;have:=hj.out;unfold zerosM at this;omega
   have c7b0:(((x3.length:Int) % 64) == 56)=false:=beq_eq_false_iff_ne.mpr hm;have c7b1:(((x3.length:Int) % 64) != 56)=true:=bne_iff_ne.mpr hm;clear hm;obtain ⟨Ao8,co8,eo8⟩:=Kd.R_slice HO_3.out;subst eo8
   go_wp2_with (first|((with_reducible refine gate_builtin (b:=.append) (xs:=#[.tmp 27,.tmp 28]) rfl ?_);at_builtin;refine Kd.R_append (Kd.int .u8) (w0:=w) w.heap.size rfl (.tmp 27) (.tmp 28) 22 5 (.int .u8 0) 1 rfl Try.underlying22 info5 rfl (by decide) (by omega) (.slice Ao8 x3.length co8) x3 0 [.int .u8 0] (fun _=>True) (fun _=>False) rfl rfl ?aP (fun _ hk=>hk.elim) ?aF ?aO ?aB ?aS ?aL ?_;(case aP=>exact rfl);(case aB=>exact zq3);(case aF=>exact zq79);(case aO=>exact zq107);(case aS=>exact zq429);(case aL=>have:=NL.out;have:=HS.out;have:=hj.out;unfold zerosM at this;omega);intro v167 w32 ho hb hg hat;have n0_:=aM (hb);have n1_:=aM (ho);clear HB;clear HO_3;have HB:=n0_;have HO168:=n1_;clear n0_ n1_;clear ho hb hg hat))
   go_roundg k1
   case measure=>omega
   case rel=>exact ⟨j + 1,⟨by have:=hj.out;omega⟩,⟨by have:=HO168.out;rw [NX.out] at this;rw [List.replicate_succ'];simpa [List.append_assoc] using this⟩,⟨HB.out⟩⟩
end
end Go.Proofs.Ytldpdaifajjaeaa.QFnChunked
