import Derived.Test.YtldpdaifajjaeaaFrameFnChunked
namespace Go.Proofs.Ytldpdaifajjaeaa.FrameRead
open Go.RowKit Go.Proofs.YtldpdaifajjaeaaW.PrintWords Go.Proofs.YtldpdaifajjaeaaW.PrintLast Go.Proofs.YtldpdaifajjaeaaW.PrintMore Go.Proofs.Ytldpdaifajjaeaa.Bits Go.Proofs.Ytldpdaifajjaeaa.Num Go.Proofs.Ytldpdaifajjaeaa.Crc Go.Proofs.Ytldpdaifajjaeaa.Frame
set_option linter.unusedSimpArgs false
set_option linter.unusedVariables false
theorem bytesOf_append (s t:ByteArray):bytesOf (s ++ t)=bytesOf s ++ bytesOf t:=by
  unfold bytesOf
  rw [ByteArray.data_append,Array.toList_append,List.map_append]
theorem bytesOf_strOfNums (l:List Int) (h:∀ x ∈ l,0≤x∧x < 256):bytesOf (strOfNums l)=l:=by
  unfold bytesOf strOfNums
  simp only [List.map_map]
  refine (List.map_congr_left fun x hx=>?_).trans (List.map_id l)
  obtain ⟨h0,h1⟩:=h x hx
  simp only [Function.comp,id]
  have:(UInt8.ofNat x.toNat).toNat=x.toNat % 256:=UInt8.toNat_ofNat' ..
  omega
theorem extract_size (s:ByteArray) (a b:Nat) (h:a≤b) (hb:b≤s.size):(s.extract a b).size=b - a:=by
  rw [ByteArray.size_extract];omega
def wordOf (a b c d:Int):Int:=Go.bits .or .u32 (Go.bits .or .u32 (Go.bits .or .u32 (a % 4294967296) (((b % 4294967296) * 256) % 4294967296)) (((c % 4294967296) * 65536) % 4294967296)) (((d % 4294967296) * 16777216) % 4294967296)
def wordAt (t:ByteArray) (i:Nat):Int:=wordOf (bt t i) (bt t ((i + 1:Nat):Int)) (bt t ((i + 2:Nat):Int)) (bt t ((i + 3:Nat):Int))
attribute [irreducible] wordOf wordAt
end Go.Proofs.Ytldpdaifajjaeaa.FrameRead
