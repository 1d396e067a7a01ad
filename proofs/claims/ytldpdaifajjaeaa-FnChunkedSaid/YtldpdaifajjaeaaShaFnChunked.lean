import Derived.Test.YtldpdaifajjaeaaLoopsFnChunked
namespace Go.Proofs.Ytldpdaifajjaeaa.Sha
open Go.RowKit Go.Proofs.YtldpdaifajjaeaaW.PrintWords Go.Proofs.YtldpdaifajjaeaaW.PrintLast Go.Proofs.YtldpdaifajjaeaaW.PrintMore Go.Proofs.Ytldpdaifajjaeaa.Bits Go.Proofs.Ytldpdaifajjaeaa.Num Go.Proofs.Ytldpdaifajjaeaa.Loops
set_option linter.unusedSimpArgs false
set_option linter.unusedVariables false
theorem rdI (l:List Int) (i:Nat) (h:i < l.length):rd l (i:Int)=l[i]:=getD_at l i 0 h
theorem bits_r (op:BinOp) (x y:Int):0≤Go.bits op .u32 x y∧Go.bits op .u32 x y < 4294967296:=by
  simp only [Go.bits,IntKind.wrap_u32];omega
def R32 (l:List Int):Prop:=∀ x ∈ l,0≤x∧x < 4294967296
theorem R32.at {l:List Int} (h:R32 l) (i:Int):0≤rd l i∧rd l i < 4294967296:=by
  unfold rd
  rw [List.getD_eq_getElem?_getD]
  cases hx:l[i.toNat]? with
  | none=>simp
  | some x=>exact h x (List.mem_of_getElem? hx)
theorem R32.set {l:List Int} (h:R32 l) (i:Nat) (x:Int) (hx:0≤x∧x < 4294967296):R32 (l.set i x):=fun y hy=>by
  rcases List.mem_or_eq_of_mem_set hy with hy | rfl
  · exact h y hy
  · exact hx
def sml0 (x:Int):Int:=Go.bits .xor .u32 (Go.bits .xor .u32 (rotr x 7) (rotr x 18)) (x / 8)
def sml1 (y:Int):Int:=Go.bits .xor .u32 (Go.bits .xor .u32 (rotr y 17) (rotr y 19)) (y / 1024)
def big1 (e:Int):Int:=Go.bits .xor .u32 (Go.bits .xor .u32 (rotr e 6) (rotr e 11)) (rotr e 25)
def big0 (a:Int):Int:=Go.bits .xor .u32 (Go.bits .xor .u32 (rotr a 2) (rotr a 13)) (rotr a 22)
def ch (e f g:Int):Int:=Go.bits .xor .u32 (Go.bits .and .u32 e f) (Go.bits .and .u32 (Go.bits .xor .u32 4294967295 e) g)
def maj (a b c:Int):Int:=Go.bits .xor .u32 (Go.bits .xor .u32 (Go.bits .and .u32 a b) (Go.bits .and .u32 a c)) (Go.bits .and .u32 b c)
def be4 (b:List Int) (t:Nat):Int:=Go.bits .or .u32 (Go.bits .or .u32 (Go.bits .or .u32 ((((rd b ((4 * t:Nat):Int)) % 4294967296) * 16777216) % 4294967296) ((((rd b ((4 * t + 1:Nat):Int)) % 4294967296) * 65536) % 4294967296)) ((((rd b ((4 * t + 2:Nat):Int)) % 4294967296) * 256) % 4294967296)) ((rd b ((4 * t + 3:Nat):Int)) % 4294967296)
def nextW (w:List Int) (t:Nat):Int:=(sml1 (rd w ((t - 2:Nat):Int)) + rd w ((t - 7:Nat):Int) + sml0 (rd w ((t - 15:Nat):Int)) + rd w ((t - 16:Nat):Int)) % 4294967296
def stepW (b:List Int) (w:List Int) (t:Nat):List Int:=w.set t (if t < 16 then be4 b t else nextW w t)
def wordsM (b:List Int) (n:Nat):List Int:=(List.range n).foldl (stepW b) (List.replicate 64 0)
theorem wordsM_succ (b:List Int) (n:Nat):wordsM b (n + 1)=stepW b (wordsM b n) n:=by
  unfold wordsM;rw [List.range_succ,List.foldl_append];rfl
theorem wordsM_ok (b:List Int) (n:Nat):(wordsM b n).length=64∧R32 (wordsM b n):=by
  induction n with
  | zero=>exact ⟨by simp [wordsM],fun x hx=>by simp [wordsM] at hx;omega⟩
  | succ n ih =>
    rw [wordsM_succ]
    refine ⟨by unfold stepW;rw [List.length_set];exact ih.1,ih.2.set _ _ ?_⟩
    split
    · exact bits_r _ _ _
    · unfold nextW;omega
def oneM (K W v:List Int) (t:Nat):Int:=(rd v 7 + big1 (rd v 4) + ch (rd v 4) (rd v 5) (rd v 6) + rd K (t:Int) + rd W (t:Int)) % 4294967296
def twoM (v:List Int):Int:=(big0 (rd v 0) + maj (rd v 0) (rd v 1) (rd v 2)) % 4294967296
def roundM (K W v:List Int) (t:Nat):List Int:=[(oneM K W v t + twoM v) % 4294967296,rd v 0,rd v 1,rd v 2,(rd v 3 + oneM K W v t) % 4294967296,rd v 4,rd v 5,rd v 6]
def roundsM (K W h:List Int) (n:Nat):List Int:=(List.range n).foldl (roundM K W) h
theorem roundsM_succ (K W h:List Int) (n:Nat):roundsM K W h (n + 1)=roundM K W (roundsM K W h n) n:=by
  unfold roundsM;rw [List.range_succ,List.foldl_append];rfl
theorem roundsM_ok (K W h:List Int) (hl:h.length=8) (hr:R32 h) (n:Nat):(roundsM K W h n).length=8∧R32 (roundsM K W h n):=by
  induction n with
  | zero=>exact ⟨hl,hr⟩
  | succ n ih =>
    rw [roundsM_succ]
    refine ⟨rfl,fun x hx=>?_⟩
    have h0:=ih.2.at 0;have h1:=ih.2.at 1;have h2:=ih.2.at 2;have h4:=ih.2.at 4;have h5:=ih.2.at 5;have h6:=ih.2.at 6
    simp only [roundM,List.mem_cons,List.not_mem_nil,or_false] at hx
    rcases hx with rfl | rfl | rfl | rfl | rfl | rfl | rfl | rfl <;> omega
def addM (h v:List Int) (n:Nat):List Int:=(List.range n).map fun (i:Nat)=>(rd h (i:Int) + rd v (i:Int)) % 4294967296
theorem addM_succ (h v:List Int) (n:Nat):addM h v (n + 1)=addM h v n ++ [(rd h (n:Int) + rd v (n:Int)) % 4294967296]:=by
  unfold addM;rw [List.range_succ,List.map_append];rfl
theorem addM_len (h v:List Int) (n:Nat):(addM h v n).length=n:=by simp [addM]
def blockM (h K b:List Int):List Int:=addM h (roundsM K (wordsM b 64) h 64) 8
theorem blockM_ok (h K b:List Int):(blockM h K b).length=8∧R32 (blockM h K b):=by
  refine ⟨by simp [blockM,addM_len],fun x hx=>?_⟩
  simp only [blockM,addM,List.mem_map] at hx
  obtain ⟨i,_,rfl⟩:=hx
  omega
def kM:List Int:=[1116352408,1899447441,3049323471,3921009573,961987163,1508970993,2453635748,2870763221,3624381080,310598401,607225278,1426881987,1925078388,2162078206,2614888103,3248222580,3835390401,4022224774,264347078,604807628,770255983,1249150122,1555081692,1996064986,2554220882,2821834349,2952996808,3210313671,3336571891,3584528711,113926993,338241895,666307205,773529912,1294757372,1396182291,1695183700,1986661051,2177026350,2456956037,2730485921,2820302411,3259730800,3345764771,3516065817,3600352804,4094571909,275423344,430227734,506948616,659060556,883997877,958139571,1322822218,1537002063,1747873779,1955562222,2024104815,2227730452,2361852424,2428436474,2756734187,3204031479,3329325298]
def hM:List Int:=[1779033703,3144134277,1013904242,2773480762,1359893119,2600822924,528734635,1541459225]
theorem hM_r:R32 hM:=fun x hx=>by
  simp only [hM,List.mem_cons,List.not_mem_nil,or_false] at hx
  rcases hx with rfl | rfl | rfl | rfl | rfl | rfl | rfl | rfl <;> omega
def runM (p:List Int) (n:Nat):List Int:=(List.range n).foldl (fun h i=>blockM h kM ((p.drop (64 * i)).take 64)) hM
theorem runM_succ (p:List Int) (n:Nat):runM p (n + 1)=blockM (runM p n) kM ((p.drop (64 * n)).take 64):=by
  unfold runM;rw [List.range_succ,List.foldl_append];rfl
theorem runM_ok (p:List Int) (n:Nat):(runM p n).length=8∧R32 (runM p n):=by
  cases n with
  | zero=>exact ⟨rfl,hM_r⟩
  | succ n=>rw [runM_succ];exact blockM_ok _ _ _
def zerosM (n:Nat):Nat:=(55 + 64 - n % 64) % 64
def lenM (n:Int):Nat→List Int
  | 0=>[]
  | i + 1=>lenM n i ++ [(shr .u64 n (IntKind.u64.wrap (wrap64 (8 * ((7 - i:Nat):Int))))) % 256]
theorem lenM_len (n:Int) (i:Nat):(lenM n i).length=i:=by
  induction i with
  | zero=>rfl
  | succ i ih=>simp [lenM,ih]
def padM (s:ByteArray):List Int:=bytesOf s ++ [128] ++ List.replicate (zerosM s.size) 0 ++ lenM (IntKind.u64.wrap (IntKind.u64.wrap (s.size:Int) * 8)) 8
theorem padM_len (s:ByteArray):(padM s).length=64 * ((s.size + 72) / 64):=by
  simp only [padM,List.length_append,List.length_replicate,lenM_len,bytesOf_length,List.length_singleton,zerosM]
  omega
def sumM (s:ByteArray):List Int:=runM (padM s) ((s.size + 72) / 64)
theorem sumM_ok (s:ByteArray):(sumM s).length=8∧R32 (sumM s):=runM_ok _ _
end Go.Proofs.Ytldpdaifajjaeaa.Sha
