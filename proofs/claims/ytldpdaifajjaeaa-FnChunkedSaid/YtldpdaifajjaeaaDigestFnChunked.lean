import Derived.Test.YtldpdaifajjaeaaShaFnChunked
import Derived.Test.YtldpdaifajjaeaaDigFnChunked
import Derived.Test.YtldpdaifajjaeaaFrameReadFnChunked
namespace Go.Proofs.Ytldpdaifajjaeaa.Digest
open Go.RowKit Go.Proofs.YtldpdaifajjaeaaW.PrintWords Go.Proofs.YtldpdaifajjaeaaW.PrintLast Go.Proofs.YtldpdaifajjaeaaW.PrintMore Go.Proofs.Ytldpdaifajjaeaa.Bits Go.Proofs.Ytldpdaifajjaeaa.Num Go.Proofs.Ytldpdaifajjaeaa.Loops Go.Proofs.Ytldpdaifajjaeaa.Sha Go.Proofs.Ytldpdaifajjaeaa.Dig Go.Proofs.Ytldpdaifajjaeaa.FrameRead
set_option linter.unusedSimpArgs false
set_option linter.unusedVariables false
def hexD:ByteArray:=⟨#[48,49,50,51,52,53,54,55,56,57,97,98,99,100,101,102]⟩
def headD:ByteArray:=⟨#[115,104,97,50,53,54,58]⟩
def nibM (n:Int) (j:Nat):Int:=Go.bits .and .u32 (shr .u32 n (IntKind.u64.wrap (wrap64 (4 * ((7 - j:Nat):Int))))) 15
theorem shr_range (n m:Int) (h:0≤n∧n < 4294967296):0≤shr .u32 n m∧shr .u32 n m < 4294967296:=by
  unfold shr
  have hp:(0:Int) < 2 ^ (min m.toNat IntKind.u32.bits):=Int.pow_pos (by decide)
  exact ⟨Int.ediv_nonneg h.1 (Int.le_of_lt hp),Int.lt_of_le_of_lt (Int.ediv_le_self _ h.1) h.2⟩
theorem nib_range (n:Int) (j:Nat) (h:0≤n∧n < 4294967296):0≤nibM n j∧nibM n j < 16:=by
  unfold nibM
  have hs:=shr_range n (IntKind.u64.wrap (wrap64 (4 * ((7 - j:Nat):Int)))) h
  have:=bits_mask .u32 32 (by decide) wraps_u32 4 (by decide) (shr .u32 n (IntKind.u64.wrap (wrap64 (4 * ((7 - j:Nat):Int))))) hs.1 (by have:=hs.2;omega)
  rw [show (15:Int)=2 ^ 4 - 1 by decide,this];omega
set_option maxRecDepth 100000 in
theorem hexD_at (v:Int) (h0:0≤v) (h1:v < 16):hexB (bt hexD v)=true∧0≤bt hexD v∧bt hexD v < 256:=by
  have key:∀ n:Fin 16,hexB (bt hexD (n.1:Int))=true:=by decide
  have:=key ⟨v.toNat,by omega⟩
  rw [show ((⟨v.toNat,by omega⟩:Fin 16).1:Int)=v from Int.toNat_of_nonneg h0] at this
  have hr:=bt_range hexD v
  exact ⟨this,hr.1,by omega⟩
def hexL (n:Int) (i:Nat):List Int:=(List.range i).map fun j=>bt hexD (nibM n j)
theorem hexL_succ (n:Int) (i:Nat):hexL n (i + 1)=hexL n i ++ [bt hexD (nibM n i)]:=by
  unfold hexL;rw [List.range_succ,List.map_append];rfl
theorem hexL_len (n:Int) (i:Nat):(hexL n i).length=i:=by simp [hexL]
theorem hexL_hex (n:Int) (h:0≤n∧n < 4294967296) (i:Nat):∀ x ∈ hexL n i,hexB x=true∧0≤x∧x < 256:=by
  intro x hx
  simp only [hexL,List.mem_map] at hx
  obtain ⟨j,_,rfl⟩:=hx
  have:=nib_range n j h
  exact hexD_at _ this.1 this.2
def hexM (n:Int):ByteArray:=strOfNums (hexL n 8)
theorem hexM_size (n:Int):(hexM n).size=8:=by rw [hexM,size_strOfNums,hexL_len]
def digL (h:List Int):Nat→ByteArray
  | 0=>headD
  | i + 1=>digL h i ++ hexM (rd h (i:Int))
theorem digL_size (h:List Int) (i:Nat):(digL h i).size=7 + 8 * i:=by
  induction i with
  | zero=>rfl
  | succ i ih=>rw [digL,ByteArray.size_append,ih,hexM_size];omega
def digestM (s:ByteArray):ByteArray:=digL (sumM s) 8
theorem digestM_size (s:ByteArray):(digestM s).size=71:=by rw [digestM,digL_size]
end Go.Proofs.Ytldpdaifajjaeaa.Digest
