import Derived.Test.YtldpdaifajjaeaaVFnChunked
import Derived.Deep.WholeRow
namespace Go.Proofs.Ytldpdaifajjaeaa.ArrU
open Go.RowKit Go.Proofs.YtldpdaifajjaeaaW.PrintWords Go.Proofs.YtldpdaifajjaeaaW.PrintLast Go.Proofs.YtldpdaifajjaeaaW.PrintMore
set_option linter.unusedSimpArgs false
set_option linter.unusedVariables false
def vals (l:List Int):Array Value:=(l.map (Value.int .u32)).toArray
theorem vals_size (l:List Int):(vals l).size=l.length:=by simp [vals]
def Arr (w:World) (g:Nat) (t:TypeId) (l:List Int):Prop:=w.heap[g]?=some (.cells (vals l) t (0,0))
section
variable {w w':World} {g:Nat} {t:TypeId} {l:List Int}
theorem Arr.lt (h:Arr w g t l):g < w.heap.size:=(Array.getElem?_eq_some_iff.1 h).1
theorem Arr.cell (h:Arr w g t l) (i:Nat) (hi:i < l.length):w.cell? ⟨g,i,none⟩=some (.int .u32 (rd l (i:Int))):=by
  have h1:w.heap[g]?=some (.cells (vals l) t (0,0)):=h
  simp only [World.cell?,h1]
  simp [vals,rd,List.getD_eq_getElem?_getD,List.getElem?_eq_getElem hi]
theorem Arr.reads (h:Arr w g t l) {m:Nat} (hm:l.length=m) (hm2:m≤9223372036854775807):ReadsRow (fun (x:Int) cs=>cs = [Value.int .u32 x]) 1 w (some ⟨g,0,none⟩) m l :=
  ⟨hm,hm2,fun _=>⟨_,rfl,fun j x hj=>by
    obtain ⟨hj1,hj2⟩:=List.getElem?_eq_some_iff.1 hj
    refine ⟨[.int .u32 x],rfl,rfl,fun i u hu=>?_⟩
    match i,hu with
    | 0,hu =>
      obtain rfl:Value.int .u32 x=u:=by simpa using hu
      rw [show (⟨g,0,none⟩:Addr).add (j * 1 + 0)=⟨g,j,none⟩ by unfold Addr.add;split <;> simp_all,h.cell j hj1]
      simp [rd,List.getD_eq_getElem?_getD,hj]
    | i + 1,hu=>simp at hu⟩⟩
theorem Arr.frozen (h:Arr w g t l) (i:Nat):w.frozen? ⟨g,i,none⟩=false:=by
  have h1:w.heap[g]?=some (.cells (vals l) t (0,0)):=h
  simp [World.frozen?,h1]
theorem Arr.set (h:Arr w g t l) (i:Nat) (x:Int):Arr (w.setCell ⟨g,i,none⟩ (.int .u32 x)) g t (l.set i x):=by
  have h1:w.heap[g]?=some (.cells (vals l) t (0,0)):=h
  show (w.setCell ⟨g,i,none⟩ (.int .u32 x)).heap[g]?=_
  rw [setCell_eq_setRow w g i _ _ _ _ h1,setRow_heap w g _ _ _ _ h1]
  congr 2
  simp [vals,List.map_set,List.setIfInBounds_toArray]
theorem Arr.move (h:Arr w g t l) (hm:w'.heap[g]?=w.heap[g]?):Arr w' g t l:=hm.trans h
theorem Arr.far (h:Arr w g t l) {p:Addr} (hp:g≠p.block) (u:Value):Arr (w.setCell p u) g t l:=h.move (Below.heap_setCell w p u g hp)
theorem Arr.drew (h:Arr w g t l):Arr w.drew g t l:=h
theorem Arr.drewN (h:Arr w g t l) (n:Nat):Arr (w.drewN n) g t l:=h
theorem Arr.alloc (h:Arr w g t l) (o:Obj):Arr (w.alloc o) g t l:=h.move (Below.heap_alloc w o g h.lt)
theorem Arr.below {B:Nat} (h:Arr w g t l) (hb:Below B w w') (hg:g < B):Arr w' g t l:=h.move (hb.block g hg)
theorem Arr.below' (h:Arr w g t l) (hb:Below w.heap.size w w'):Arr w' g t l:=h.below hb h.lt
theorem Arr.new (w:World) (t:TypeId) (l:List Int):Arr (w.alloc (.cells (vals l) t)) w.heap.size t l:=heap_alloc_last w _
theorem Arr.row (h:Arr w g t l) (l':List Int):Arr (w.setRow g (vals l')) g t l':=setRow_heap w g _ _ _ _ h
theorem Arr.row_far (h:Arr w g t l) {k:Nat} (hk:g≠k) (cs:Array Value):Arr (w.setRow k cs) g t l:=h.move (setRow_other w k g cs hk)
end
theorem C_behind {k:IntKind} {w:World} {g:Nat} {l:List Int} (h:(Kd.int k).C w (some ⟨g,0,none⟩) l.length l) (m:Nat) (hm:m≤l.length):(Kd.int k).C w (some ⟨g,m,none⟩) (l.drop m).length (l.drop m):=by
  obtain ⟨_,h2,h3⟩:=h
  refine ⟨rfl,by rw [List.length_drop];omega,fun hn=>⟨_,rfl,fun j x hj=>?_⟩⟩
  rw [List.length_drop] at hn
  obtain ⟨ad,e,hc⟩:=h3 (by omega)
  obtain rfl:(⟨g,0,none⟩:Addr)=ad:=Option.some.inj e
  rw [List.getElem?_drop] at hj
  obtain ⟨c,c1,c2,c3⟩:=hc (m + j) x hj
  refine ⟨c,c1,c2,fun i u hu=>?_⟩
  have:=c3 i u hu
  have e1:(⟨g,m,none⟩:Addr).add (j * (Kd.int k).sz + i)=(⟨g,0,none⟩:Addr).add ((m + j) * (Kd.int k).sz + i):=by
    have hs:(Kd.int k).sz=1:=rfl
    rw [hs]
    unfold Addr.add
    simp only [Nat.mul_one]
    split <;> split <;> simp_all <;> omega
  rw [e1];exact this
theorem vals_one (l:List Int):(vals l).all (·.oneCell')=true:=by
  rw [Array.all_eq_true_iff_forall_mem]
  intro v hv
  simp only [vals,List.mem_toArray,List.mem_map] at hv
  obtain ⟨x,_,rfl⟩:=hv
  rfl
section
variable {P:Program} {ops:Array Oper} {rest:List Oper} {o o2:Oper} {a:Act} {w:World} {Q:Exit→Act→World→Prop}
theorem new_arr {N : Tmp} (hd : o.dst = some N) (hgd : o.guard = none) (hgd2 : o2.guard = none) (t : TypeId) (ho : o.op = .alloc t) (x y : Operand) (ho2 : o2.op = .store t x y) (hd2 : o2.dst = none) (l : List Int) {z : Array Value}
    (hz:(P.info? t).map (fun i=>(i.zero,i.size))=some (some (.agg z),l.length)) (hzs:z.size=l.length)
    (hx:(a.put (some N) (.pointer (some ⟨w.heap.size,0,none⟩))).eval x = .pointer (some ⟨w.heap.size,0,none⟩)) (hy:(a.put (some N) (.pointer (some ⟨w.heap.size,0,none⟩))).eval y = .agg (vals l))
    (h:∀ w',Arr w' w.heap.size t l→Below w.heap.size w w'→w'.heap.size=w.heap.size + 1→wpList P ops Q rest (a.put (some N) (.pointer (some ⟨w.heap.size,0,none⟩))) w'):wpList P ops Q (o :: o2 :: rest) a w:=by
  obtain ⟨hz1,hz2⟩:=zero_of_info hz
  simp only [← hd] at hx hy h
  refine wpList_plain hgd fun K hK=>?_
  unfold Oper.wp execOp
  simp only [ho,Instr.alloc,Sem.run_bind,hz1,Result.andThen_ok,newVar,Value.cells]
  refine hK _ _ ?_
  show wpList P ops Q (o2 :: rest) (a.put o.dst (.pointer (some ⟨w.heap.size,0,none⟩))) (w.alloc (.cells z t))
  have hA:=heap_alloc_last w (.cells z t)
  refine wpList_store_row hgd2 t x y ho2 w.heap.size (vals l) hx hy t z hA (by rw [hz2,vals_size]) (by rw [hzs,vals_size]) (vals_one l) ?_
  rw [hd2]
  show wpList P ops Q rest (a.put o.dst (.pointer (some ⟨w.heap.size,0,none⟩))) _
  refine h _ (setRow_heap _ _ _ _ _ _ hA) ⟨rfl,rfl,rfl,?_,fun k hk=>?_⟩ ?_
  · rw [size_setRow,World.size_alloc];omega
  · rw [setRow_other _ _ _ _ (by omega),Below.heap_alloc _ _ _ hk]
  · rw [size_setRow,World.size_alloc]
theorem alloc_arr {N : Tmp} (hd : o.dst = some N) (hgd : o.guard = none) (t : TypeId) (ho : o.op = .alloc t) (l : List Int)
    (hz:(P.info? t).map (fun i=>(i.zero,i.size))=some (some (.agg (vals l)),l.length))
    (h:∀ w',Arr w' w.heap.size t l→Below w.heap.size w w'→w'.heap.size=w.heap.size + 1→wpList P ops Q rest (a.put (some N) (.pointer (some ⟨w.heap.size,0,none⟩))) w'):wpList P ops Q (o :: rest) a w:=by
  obtain ⟨hz1,hz2⟩:=zero_of_info hz
  simp only [← hd] at h
  refine wpList_plain hgd fun K hK=>?_
  unfold Oper.wp execOp
  simp only [ho,Instr.alloc,Sem.run_bind,hz1,Result.andThen_ok,newVar,Value.cells]
  refine hK _ _ ?_
  show wpList P ops Q rest (a.put o.dst (.pointer (some ⟨w.heap.size,0,none⟩))) (w.alloc (.cells (vals l) t))
  exact h _ (Arr.new w t l) ⟨rfl,rfl,rfl,by rw [World.size_alloc];omega,fun k hk=>Below.heap_alloc _ _ _ hk⟩ (World.size_alloc _ _)
theorem store_arr (hd : o.dst = none) (hgd : o.guard = none) (t : TypeId) (x y : Operand) (ho : o.op = .store t x y) (g : Nat) (hx : a.eval x = .pointer (some ⟨g, 0, none⟩)) (l : List Int) (hy : a.eval y = .agg (vals l)) (l0 : List Int) (hA : Arr w g t l0) (hl : l0.length = l.length) (hi : (P.info? t).map (·.size) = some l.length)
    (h:∀ w',Arr w' g t l→(∀ B w0,B≤g→Below B w0 w→Below B w0 w')→w'.heap.size=w.heap.size→wpList P ops Q rest a w'):wpList P ops Q (o :: rest) a w:=by
  refine wpList_store_row hgd t x y ho g (vals l) hx hy t (vals l0) hA (by rw [hi,vals_size]) (by rw [vals_size,vals_size,hl]) (vals_one l) ?_
  rw [hd]
  refine h _ (hA.row l) (fun B w0 hB hb=>?_) (size_setRow _ _ _)
  exact ⟨hb.os,hb.tape,hb.output,by rw [size_setRow];exact hb.size,fun k hk=>(setRow_other _ _ _ _ (by omega)).trans (hb.block k hk)⟩
theorem load_arr {N : Tmp} (hd : o.dst = some N) (hgd : o.guard = none) (t : TypeId) (x : Operand) (ho : o.op = .load t x) (g : Nat) (hx : a.eval x = .pointer (some ⟨g, 0, none⟩)) (l : List Int) {n : Nat} {e : TypeId} (hu : P.underlying t = some (.array n e)) (hi : (P.info? t).map (·.size) = some l.length) (hA : Arr w g t l)
    (h:wpList P ops Q rest (a.put (some N) (.agg (vals l))) w):wpList P ops Q (o :: rest) a w:=by
  refine wpList_load_row hgd t x ho g hx t (vals l) (0,0) _ hA hu rfl (by rw [hi,vals_size]) ?_
  rw [hd];exact h
theorem build_arr {N : Tmp} (hd : o.dst = some N) (hgd : o.guard = none) (t : TypeId) (parts : Array (Nat × Operand)) (ho : o.op = .build t parts) (l : List Int) (hb : P.built t (parts.map fun (i, x) => (i, a.eval x)).toList = some (vals l))
    (h:wpList P ops Q rest (a.put (some N) (.agg (vals l))) w):wpList P ops Q (o :: rest) a w:=by
  rw [← hd] at h
  refine wpList_plain hgd fun K hK=>?_
  unfold Oper.wp execOp
  simp only [ho,Sem.run_bind,run_build w t _ _ hb,Result.andThen_ok]
  exact hK _ _ h
end
end Go.Proofs.Ytldpdaifajjaeaa.ArrU
