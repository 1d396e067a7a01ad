import Derived.Test.YtldpdaifajjaeaaDoorCrcFnRefs
/-! The bytes of a frame: the plain side. -/
namespace Go.Proofs.YtldpdaifajjaeaaDoor.Frame
open Go.RowKit Go.Proofs.YtldpdaifajjaeaaDoorW.PrintWords Go.Proofs.YtldpdaifajjaeaaDoorW.PrintLast Go.Proofs.YtldpdaifajjaeaaDoorW.PrintMore Go.Proofs.YtldpdaifajjaeaaDoor.Bits Go.Proofs.YtldpdaifajjaeaaDoor.Num Go.Proofs.YtldpdaifajjaeaaDoor.Crc
set_option linter.unusedSimpArgs false
set_option linter.unusedVariables false

theorem strOfNums_append (a b : List Int) : strOfNums (a ++ b) = strOfNums a ++ strOfNums b := by
  apply ByteArray.ext
  simp [strOfNums, ByteArray.data_append]
theorem strOfNums_bytesOf (s : ByteArray) : strOfNums (bytesOf s) = s := by
  apply ByteArray.ext
  apply Array.ext'
  simp [strOfNums, bytesOf, Function.comp_def]
/-- A number in four bytes. -/
def four (n : Int) : List Int := [n % 256, n / 256 % 256, n / 65536 % 256, n / 16777216 % 256]
/-- A frame's bytes ahead of its checksum. -/
def frameHead (kind : Int) (s : ByteArray) : ByteArray := strOfNums [kind % 256] ++ strOfNums (four ((s.size : Int) % 4294967296)) ++ s
def frameM (kind : Int) (s : ByteArray) : ByteArray :=
  if (1 ≤ kind ∧ kind ≤ 100) ∧ (s.size : Int) ≤ 20000 then frameHead kind s ++ strOfNums (four (crcM (frameHead kind s))) else ⟨#[]⟩
theorem frameHead_list (kind : Int) (s : ByteArray) : strOfNums ([kind % 256] ++ four ((s.size : Int) % 4294967296) ++ bytesOf s) = frameHead kind s := by
  unfold frameHead; rw [strOfNums_append, strOfNums_append, strOfNums_bytesOf]
theorem frameHead_size (kind : Int) (s : ByteArray) : (frameHead kind s).size = 5 + s.size := by
  unfold frameHead four; simp only [ByteArray.size_append, size_strOfNums, List.length_cons, List.length_nil]
end Go.Proofs.YtldpdaifajjaeaaDoor.Frame
