import Derived.Test.YtldpdaifajjaeaaBitsFnChunked
namespace Go.Proofs.Ytldpdaifajjaeaa.Num
open Go.RowKit Go.Proofs.YtldpdaifajjaeaaW.PrintWords Go.Proofs.YtldpdaifajjaeaaW.PrintLast Go.Proofs.YtldpdaifajjaeaaW.PrintMore Go.Proofs.Ytldpdaifajjaeaa.Bits
set_option linter.unusedSimpArgs false
set_option linter.unusedVariables false
theorem bindS {α β:Type} (a:α) (f:α→Option β):(some a).bind f=f a:=by
  cases h:some a with
  | none=>cases h
  | some b=>cases h;rfl
theorem Ev.is {α:Type} {g:Option α} {r:α} (h:g=some r):Ev (fun _=>g) r:=⟨0,fun _ _=>h⟩
def putN:Nat→Int→List Int
  | 0,n=>[n]
  | f + 1,n=>if 128≤n then (n % 128 + 128) :: putN f (n / 128) else [n]
theorem putN_small (f:Nat) (n:Int) (h:n < 128):putN f n = [n]:=by
  cases f with
  | zero=>rfl
  | succ f=>simp only [putN];rw [if_neg (by omega)]
theorem tdiv128 (n:Int) (h0:0≤n) (h1:n≤9223372036854775807):wrap64 (Int.tdiv n 128)=n / 128:=by
  rw [Int.tdiv_eq_ediv_of_nonneg h0];unfold wrap64;omega
theorem tmod128 (n:Int) (h0:0≤n):wrap64 (Int.tmod n 128 + 128) % 256=n % 128 + 128:=by
  rw [Int.tmod_eq_emod_of_nonneg h0];unfold wrap64;omega
theorem size_strOfNums (l:List Int):(strOfNums l).size=l.length:=by
  simp only [strOfNums,ByteArray.size,List.size_toArray,List.length_map]
theorem putN_length (f:Nat) (n:Int):(putN f n).length≤f + 1:=by
  induction f generalizing n with
  | zero=>simp [putN]
  | succ f ih =>
    simp only [putN];split
    · have:=ih (n / 128);simp only [List.length_cons];omega
    · simp
theorem drop_bytes (s:ByteArray) (i:Nat) (h:i < s.size):(bytesOf s).drop i=bt s i :: (bytesOf s).drop (i + 1):=by
  have hl:i < (bytesOf s).length:=by rw [bytesOf_length];exact h
  rw [List.drop_eq_getElem_cons hl]
  congr 1
  have:=rd_bytesOf s i
  rw [← this]
  simp [rd,List.getD_eq_getElem?_getD,List.getElem?_eq_getElem hl]
theorem wrap_succ (i:Nat) (n:Nat) (h:i < n) (hn:n≤140737488351232):wrap64 ((i:Int) + 1)=((i + 1:Nat):Int):=by
  unfold wrap64;omega
def putTextM (s:ByteArray):ByteArray:=if (s.size:Int) > 20000 then ⟨#[]⟩ else strOfNums (putN 5 s.size) ++ s
def lowByte (c:Int):Bool:=decide ((48≤c∧c≤57)∨(97≤c∧c≤122))
def tagByte (c:Int):Bool:=decide ((48≤c∧c≤57)∨(97≤c∧c≤122)∨(65≤c∧c≤90)∨c=95∨c=46∨c=45)
def tagOk (s:ByteArray):Bool:=decide (1≤s.size) && decide (s.size≤128) && !(bt s 0 == 46) && !(bt s 0 == 45) && (bytesOf s).all tagByte
theorem tag_ifs {α : Type} (c : Int) (X Y : α) :
    (if lowByte c=true then X else (if c < 65 then (if c=95 then X else (if c=46 then X else (if c=45 then X else Y))) else (if c > 90 then (if c=95 then X else (if c=46 then X else (if c=45 then X else Y))) else X)))=if tagByte c=true then X else Y:=by
  by_cases h:tagByte c=true
  · rw [if_pos h]
    simp only [tagByte,decide_eq_true_eq] at h
    simp only [lowByte,decide_eq_true_eq]
    repeat' split
    all_goals first | rfl|(exfalso;omega)
  · rw [if_neg h]
    simp only [tagByte,decide_eq_true_eq] at h
    simp only [lowByte,decide_eq_true_eq]
    repeat' split
    all_goals first | rfl|(exfalso;omega)
end Go.Proofs.Ytldpdaifajjaeaa.Num
