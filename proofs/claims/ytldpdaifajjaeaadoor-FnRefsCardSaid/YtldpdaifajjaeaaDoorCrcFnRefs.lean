import Derived.Test.YtldpdaifajjaeaaDoorLoopsFnRefs
/-! The checksum of bytes: the plain side. -/
namespace Go.Proofs.YtldpdaifajjaeaaDoor.Crc
open Go.RowKit Go.Proofs.YtldpdaifajjaeaaDoorW.PrintWords Go.Proofs.YtldpdaifajjaeaaDoorW.PrintLast Go.Proofs.YtldpdaifajjaeaaDoorW.PrintMore Go.Proofs.YtldpdaifajjaeaaDoor.Bits Go.Proofs.YtldpdaifajjaeaaDoor.Num
set_option linter.unusedSimpArgs false
set_option linter.unusedVariables false

def crcBit (x : Int) : Int := if Go.bits .and .u32 x 1 = 1 then Go.bits .xor .u32 (x / 2) 3988292384 else x / 2
def crcBits : Nat → Int → Int
  | 0, x => x
  | n + 1, x => crcBits n (crcBit x)
def crcByte (x b : Int) : Int := crcBits 8 (Go.bits .xor .u32 x b)
def crcL (x : Int) (l : List Int) : Int := l.foldl crcByte x
def crcM (s : ByteArray) : Int := Go.bits .xor .u32 4294967295 (crcL 4294967295 (bytesOf s))
theorem bt_mod (s : ByteArray) (i : Int) : bt s i % 4294967296 = bt s i := by
  obtain ⟨h0, h1⟩ := bt_range s i; omega
theorem wrap_lit (j : Nat) (h : j < 1000) : wrap64 ((j : Int) + 1) = ((j + 1 : Nat) : Int) := by unfold wrap64; omega
theorem xor_range (x y : Int) : 0 ≤ Go.bits .xor .u32 x y ∧ Go.bits .xor .u32 x y < 4294967296 := by
  simp only [Go.bits, IntKind.wrap_u32]; omega
theorem crcM_range (s : ByteArray) : 0 ≤ crcM s ∧ crcM s < 4294967296 := xor_range _ _
end Go.Proofs.YtldpdaifajjaeaaDoor.Crc
