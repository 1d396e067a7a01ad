import Derived.Test.YtldpdaifajjaeaaVFnChunked
import Derived.Laws.BitsLemmas
import Derived.Laws.Bits64
namespace Go.Proofs.Ytldpdaifajjaeaa.Bits
open Go.RowKit Go.Proofs.YtldpdaifajjaeaaW.PrintWords Go.Proofs.YtldpdaifajjaeaaW.PrintLast Go.Proofs.YtldpdaifajjaeaaW.PrintMore
set_option linter.unusedSimpArgs false
set_option linter.unusedVariables false
theorem wf_u8 {n:Int} (h:(Lit.int .u8 n).wf=true):0≤n∧n≤255:=by
  simp [Lit.wf,IntKind.min,IntKind.max,IntKind.signed,IntKind.bits] at h
  omega
theorem wf_u32 {n:Int} (h:(Lit.int .u32 n).wf=true):0≤n∧n≤4294967295:=by
  simp [Lit.wf,IntKind.min,IntKind.max,IntKind.signed,IntKind.bits] at h
  omega
theorem wf_i64 {n:Int} (h:(Lit.int .i64 n).wf=true):-9223372036854775808≤n∧n≤9223372036854775807:=by
  simp [Lit.wf,IntKind.min,IntKind.max,IntKind.signed,IntKind.bits] at h
  omega
def rotr (x:Int) (n:Nat):Int:=x / 2 ^ n + x % 2 ^ n * 2 ^ (32 - n)
theorem bits_or_comm (k:IntKind) (x y:Int):Go.bits .or k x y=Go.bits .or k y x:=by
  simp only [Go.bits,BitVec.or_comm]
theorem wraps_u32 (n:Int) (h₀:0≤n) (h₁:n < 2 ^ 32):IntKind.u32.wrap n=n:=by
  rw [IntKind.wrap_u32];omega
theorem or_rotr (x : Int) (n : Nat) (h0 : 0 ≤ x) (h1 : x < 4294967296) (hn : n ≤ 32) :
    Go.bits .or .u32 (IntKind.u32.wrap (x * 2 ^ (32 - n))) (x / 2 ^ n)=rotr x n:=by
  have hp:(4294967296:Int)=2 ^ (32 - n) * 2 ^ n:=by
    rw [← Int.pow_add,Nat.sub_add_cancel hn];rfl
  have p1:(0:Int) < 2 ^ n:=Int.pow_pos (by decide)
  have p2:(0:Int) < 2 ^ (32 - n):=Int.pow_pos (by decide)
  have e:IntKind.u32.wrap (x * 2 ^ (32 - n))=x % 2 ^ n * 2 ^ (32 - n):=by
    rw [IntKind.wrap_u32,hp,Int.mul_comm x,Int.mul_emod_mul_of_pos _ _ p2,Int.mul_comm]
  have a1:=Int.emod_lt_of_pos x p1
  have a0:=Int.emod_nonneg x (Int.ne_of_gt p1)
  have b0:0≤x / 2 ^ n:=Int.ediv_nonneg h0 (Int.le_of_lt p1)
  have b1:x / 2 ^ n < 2 ^ (32 - n):=Int.ediv_lt_of_lt_mul p1 (by rw [← hp];exact h1)
  have c1:x % 2 ^ n * 2 ^ (32 - n) < 2 ^ 32:=by
    have:=Int.mul_lt_mul_of_pos_right a1 p2
    rw [Int.mul_comm (2 ^ n),← hp] at this
    exact this
  have p3:(2:Int) ^ (32 - n)≤2 ^ 32:=by
    have:(2:Int) ^ (32 - n) * 1≤2 ^ (32 - n) * 2 ^ n:=Int.mul_le_mul_of_nonneg_left p1 (Int.le_of_lt p2)
    rw [← hp] at this;simpa using this
  rw [e,bits_join .u32 32 (by decide) wraps_u32 (32 - n) _ _ (Int.mul_nonneg a0 (Int.le_of_lt p2)) (Int.mul_emod_left _ _) c1 b0 b1 (Int.lt_of_lt_of_le b1 p3)]
  unfold rotr;omega
theorem rotr_zero (x:Int):rotr x 0=x:=by unfold rotr;omega
theorem rotr_32 (x:Int) (h0:0≤x) (h1:x < 4294967296):rotr x 32=x:=by unfold rotr;omega
theorem rotr_range (x:Int) (n:Nat) (h0:0≤x) (h1:x < 4294967296) (hn:n≤32):0≤rotr x n∧rotr x n < 4294967296:=by
  rw [← or_rotr x n h0 h1 hn]
  simp only [Go.bits,IntKind.wrap_u32];omega
end Go.Proofs.Ytldpdaifajjaeaa.Bits
