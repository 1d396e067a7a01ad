import Derived.Test.YtldpdaifajjaeaaVFnChunked
import Derived.Laws.CopyRow
import Derived.Lib.AppendZerosOnto
import Derived.Lib.Overlaps
import Derived.Laws.Externs
import Derived.Shelf.Spec.SlicesInsert
namespace Go.Proofs.Ytldpdaifajjaeaa.Ins
open Go.RowKit Go.Proofs.YtldpdaifajjaeaaW.PrintWords Go.Proofs.YtldpdaifajjaeaaW.PrintLast Go.Proofs.YtldpdaifajjaeaaW.PrintMore
set_option linter.unusedSimpArgs false
set_option linter.unusedVariables false
section
variable {P:Program} {α:Type} {R:α→List Value→Prop} {size:Nat}
theorem Reps_take {ps:List α} {cs:List Value} (h:Reps R size ps cs) (i:Nat) (hi:i≤ps.length):Reps R size (ps.take i) (cs.take (i * size)):=by
  have hle:i * size≤ps.length * size:=Nat.mul_le_mul_right _ hi
  refine ⟨by rw [List.length_take,List.length_take,h.1,Nat.min_eq_left hle,Nat.min_eq_left hi],fun j p hj=>?_⟩
  rw [List.getElem?_take] at hj
  split at hj
  · rename_i hlt
    have h2:=h.2 j p hj
    have e:(j + 1) * size≤i * size:=Nat.mul_le_mul_right _ hlt
    rw [Nat.add_mul,Nat.one_mul] at e
    rw [List.drop_take,List.take_take,Nat.min_eq_left (by omega)]
    exact h2
  · cases hj
theorem Reps_drop {ps:List α} {cs:List Value} (h:Reps R size ps cs) (i:Nat):Reps R size (ps.drop i) (cs.drop (i * size)):=by
  refine ⟨by rw [List.length_drop,List.length_drop,h.1,Nat.sub_mul],fun j p hj=>?_⟩
  rw [List.getElem?_drop] at hj
  have h2:=h.2 (i + j) p hj
  rw [List.drop_drop,← Nat.add_mul]
  exact h2
theorem Reps_app {ps qs:List α} {cs ds:List Value} (h:Reps R size ps cs) (k:Reps R size qs ds):Reps R size (ps ++ qs) (cs ++ ds):=by
  refine ⟨by rw [List.length_append,List.length_append,h.1,k.1,Nat.add_mul],fun j p hj=>?_⟩
  rcases Nat.lt_or_ge j ps.length with hlt | hge
  · rw [List.getElem?_append_left hlt] at hj
    have e:(j + 1) * size≤ps.length * size:=Nat.mul_le_mul_right _ hlt
    rw [Nat.add_mul,Nat.one_mul,← h.1] at e
    rw [List.drop_append_of_le_length (by omega),List.take_append_of_le_length (by rw [List.length_drop];omega)]
    exact h.2 j p hj
  · rw [List.getElem?_append_right hge] at hj
    have e:ps.length * size≤j * size:=Nat.mul_le_mul_right _ hge
    rw [List.drop_append,List.drop_eq_nil_of_le (by rw [h.1];exact e),List.nil_append,h.1,← Nat.sub_mul]
    exact k.2 _ p hj
theorem run_copy_rowN (w : World) (dT sT ty elem : TypeId) (sz : Nat) (g o dLen dCap : Nat) (a : Addr) (sLen sCap : Nat) (cur : Array Value) (t : TypeId) (cs : List Value)
    (hu:P.underlying dT=some (.slice elem)) (hs:(P.info? elem).map (·.size)=some sz)
    (hg:w.heap[g]?=some (.cells cur t (0,0))) (q:Nat) (hq:Nat.min sLen dLen=q) (hn:cs.length=q * sz)
    (hsrc:∀ j v,cs[j]?=some v→w.cell? (a.add j)=some v) (hfit:o + cs.length≤cur.size) (h1:∀ v ∈ cs,v.oneCell'=true) :
    (Builtin.copy_ #[dT,sT] ty #[.slice (some ⟨g,o,none⟩) dLen dCap,.slice (some a) sLen sCap]).run P w =
      .ok (goInt q) (w.setRow g (cur.toList.take o ++ cs ++ cur.toList.drop (o + cs.length)).toArray):=by
  have hl:=run_loadCells_list (P:=P) w a cs hsrc
  have hst:=run_storeCells_at P g o t cs 0 cur w hg (by simpa using hfit) h1
  cases hi0:P.info? elem with
  | none=>simp [hi0] at hs
  | some i =>
    have hi:i.size=sz:=by simpa [hi0] using hs
    have hq':min sLen dLen=q:=hq
    simp [Builtin.copy_,run_underlying hu,Builtin.lenOf,Builtin.firstCells,sizeOf,typeInfo,hi0,hi,hq',← hn,hl,hst]
theorem w64 (a b:Nat) (h:a + b≤140737488355328):wrap64 ((a:Int) + (b:Int))=(a:Int) + (b:Int):=by unfold wrap64;omega
theorem ar1 (i n m c sz by_ : Nat) (h1 : i ≤ n) (h2 : i ≠ n) (h3 : 0 < m) (h4 : (n + m) * by_ ≤ 140737488355328) (hb : 0 < by_) (h5 : n ≤ c) (hs : 0 < sz) :
    ((m:Int) == 0)=false∧((i:Int) == (n:Int))=false∧((i:Int)≤(n:Int))=True∧((n:Int)≤(c:Int))=True∧¬ (c=i)∧wrap64 ((n:Int) + (m:Int))=(n:Int) + (m:Int)∧wrap64 ((i:Int) + (m:Int))=(i:Int) + (m:Int)∧c * sz≠0∧n + m≤140737488355328:=by
  have h6:n + m≤140737488355328:=Nat.le_trans (Nat.le_mul_of_pos_right _ hb) h4
  clear h4
  refine ⟨by simp only [beq_eq_false_iff_ne];omega,by simp only [beq_eq_false_iff_ne];omega,eq_true (by omega),eq_true (by omega),by omega,w64 _ _ h6,w64 _ _ (by omega),Nat.mul_ne_zero (by omega) (by omega),h6⟩
theorem ar2 (i n m c : Nat) (h1 : i ≤ n) (h2 : i ≠ n) (h3 : 0 < m) (h5 : n + m ≤ c) :
    decide ((c:Int) < (n:Int) + (m:Int))=false∧((0:Int)≤(n:Int) + (m:Int))=True∧((n:Int) + (m:Int)≤(c:Int))=True∧((0:Int)≤(i:Int) + (m:Int))=True∧((i:Int) + (m:Int)≤(n:Int) + (m:Int))=True∧((n:Int) + (m:Int)).toNat=n + m∧((i:Int) + (m:Int)).toNat=i + m∧¬ (c=i + m)∧((i:Int)≤(n:Int) + (m:Int))=True∧n + m - (i + m)=n - i∧i≤n :=
  ⟨decide_eq_false (by omega),eq_true (by omega),eq_true (by omega),eq_true (by omega),eq_true (by omega),by omega,by omega,by omega,eq_true (by omega),by omega,h1⟩
theorem ar3 (i n m c G : Nat) (h1 : i ≤ n) (h2 : i ≠ n) (h3 : 0 < m) (h4 : n + m ≤ 140737488355328) (h5 : ¬ n + m ≤ c) (h6 : n ≤ c) (h7 : n + m ≤ G) :
    decide ((c:Int) < (n:Int) + (m:Int))=true∧((i:Int)≤(c:Int))=True∧((n + m - i:Nat):Int)=(n:Int) + (m:Int) - (i:Int)∧((0:Int)≤(i:Int) + (m:Int))=True∧((i:Int) + (m:Int)≤(n:Int) + (m:Int))=True∧((n:Int) + (m:Int)≤(G:Int))=True∧((i:Int) + (m:Int)).toNat=i + m∧¬ (G=i)∧¬ (G=i + m)∧((i:Int)≤(n:Int) + (m:Int))=True∧n + m - (i + m)=n - i∧c < n + m :=
  ⟨decide_eq_true (by omega),eq_true (by omega),by omega,eq_true (by omega),eq_true (by omega),eq_true (by omega),by omega,by omega,by omega,eq_true (by omega),by omega,by omega⟩
theorem ins_len {α:Type} (xs ys:List α) (i:Nat) (h:i≤xs.length):xs.length + ys.length=(xs.take i ++ ys ++ xs.drop i).length:=by
  rw [List.length_append,List.length_append,List.length_take,List.length_drop,Nat.min_eq_left h];omega
def Flat (d:Kd α):Prop:=∀ {w:World} {base:Nat} {ok:Nat→Prop} {x:α} {cs:List Value},d.M w base ok x cs→∀ (w':World) (base':Nat) (ok':Nat→Prop),d.M w' base' ok' x cs
theorem R_open (d : Kd α) {e : Nat} {w : World} {base : Nat} {ok : Nat → Prop} {v : Value} {xs : List α} (he : e ≠ 5) (ho : d.R e w base ok v xs) (h0 : 0 < xs.length) :
    ∃ g cap cur,v = .slice (some ⟨g,0,none⟩) xs.length cap∧base≤g∧ok g∧w.heap[g]?=some (.cells cur e (0,0))∧xs.length≤cap∧cap≤maxLen∧cur.size=cap * d.sz∧Reps (d.M w base (fun k=>ok k∧some k≠v.ownBlock)) d.sz xs (cur.toList.take (xs.length * d.sz)):=by
  obtain ⟨hok,inner,⟨hil,hown⟩,hr⟩:=ho
  rcases hown with ⟨_,hz⟩ | ⟨g,cap,cur,hv,hb,hh,hcap,hm,hs,ht⟩
  · omega
  · exact ⟨g,cap,cur,hv,hb,hok g (by rw [hv];rfl),hh.plain he,hcap,hm,hs,by rw [ht];exact hr⟩
theorem R_mk (d : Kd α) (hF : Flat d) {e : Nat} {w w2 : World} {base base2 : Nat} {ok ok2 : Nat → Prop} {xs : List α} {g cap : Nat} {cur : Array Value} {inner : List Value} (n : Nat) (hb : base ≤ g) (hok : ok g) (hh : w.heap[g]? = some (.cells cur e (0, 0)))
    (hn:n=xs.length) (hc:n≤cap) (hm:cap≤maxLen) (hs:cur.size=cap * d.sz) (ht:cur.toList.take (n * d.sz)=inner) (hr:Reps (d.M w2 base2 ok2) d.sz xs inner):d.R e w base ok (.slice (some ⟨g,0,none⟩) n cap) xs:=by
  subst hn
  refine ⟨fun k hk=>?_,inner,⟨hr.1,.inr ⟨g,cap,cur,rfl,hb,Held.of hh,hc,hm,hs,ht⟩⟩,hr.imp_ (fun p c hp=>hF hp _ _ _)⟩
  obtain rfl:g=k:=by simpa [Value.ownBlock] using hk
  exact hok
theorem Reps_one (d:Kd α) (hs0:0 < d.sz) {w:World} {base:Nat} {ok:Nat→Prop} {xs:List α} {cs:List Value} (h:Reps (d.M w base ok) d.sz xs cs):∀ u ∈ cs,u.oneCell'=true:=by
  intro u hu
  obtain ⟨q,hq,rfl⟩:=List.mem_iff_getElem.1 hu
  have hql:q / d.sz < xs.length:=by
    rw [Nat.div_lt_iff_lt_mul hs0,← h.1]
    exact hq
  have hc:=h.2 (q / d.sz) _ (List.getElem?_eq_getElem hql)
  refine d.K_one (d.K_of_M hc) _ ?_
  rw [List.mem_iff_getElem?]
  refine ⟨q % d.sz,?_⟩
  rw [List.getElem?_take,if_pos (Nat.mod_lt _ hs0),List.getElem?_drop,Nat.mul_comm,Nat.div_add_mod,List.getElem?_eq_getElem hq]
theorem cells_row {w:World} {g e:Nat} {cur:Array Value} (hh:w.heap[g]?=some (.cells cur e (0,0))) (o n:Nat):∀ (j:Nat) v,((cur.toList.drop o).take n)[j]?=some v→w.cell? (Addr.add ⟨g,o,none⟩ j)=some v:=by
  intro j v hv
  rw [List.getElem?_take] at hv
  split at hv
  · rw [List.getElem?_drop,Array.getElem?_toList] at hv
    rw [Addr.add_lit,(Held.of hh).cell,hv]
  · cases hv
theorem shifted (cur : List Value) (vs : List Value) (sz n m i cap : Nat) (hl : cur.length = cap * sz) (hc : n + m ≤ cap) (hi : i ≤ n) (hv : vs.length = m * sz) :
    (((cur.take ((i + m) * sz) ++ (cur.drop (i * sz)).take ((n - i) * sz) ++ cur.drop ((i + m) * sz + (n - i) * sz)).take (i * sz)) ++ vs ++ (cur.take ((i + m) * sz) ++ (cur.drop (i * sz)).take ((n - i) * sz) ++ cur.drop ((i + m) * sz + (n - i) * sz)).drop (i * sz + vs.length)).take ((n + m) * sz)
      = (cur.take (n * sz)).take (i * sz) ++ vs ++ (cur.take (n * sz)).drop (i * sz):=by
  have e1:i * sz≤n * sz:=Nat.mul_le_mul_right _ hi
  have e2:(n + m) * sz≤cap * sz:=Nat.mul_le_mul_right _ hc
  have e3:(i + m) * sz=i * sz + m * sz:=Nat.add_mul _ _ _
  have e4:(n + m) * sz=n * sz + m * sz:=Nat.add_mul _ _ _
  have e5:(n - i) * sz=n * sz - i * sz:=Nat.sub_mul _ _ _
  generalize i * sz=I at *
  generalize m * sz=M at *
  generalize n * sz=N at *
  generalize cap * sz=C at *
  rw [e3,e5]
  have l1:(cur.take (I + M)).length=I + M:=by rw [List.length_take];omega
  have l2:((cur.drop I).take (N - I)).length=N - I:=by rw [List.length_take,List.length_drop];omega
  have a1:(cur.take (I + M) ++ (cur.drop I).take (N - I) ++ cur.drop (I + M + (N - I))).take I=cur.take I:=by
    rw [List.append_assoc,List.take_append_of_le_length (by omega),List.take_take,Nat.min_eq_left (by omega)]
  have a2:(cur.take (I + M) ++ (cur.drop I).take (N - I) ++ cur.drop (I + M + (N - I))).drop (I + vs.length)=(cur.drop I).take (N - I) ++ cur.drop (I + M + (N - I)):=by
    rw [hv,List.append_assoc]
    exact List.drop_left' l1
  rw [a1,a2,← List.append_assoc,List.take_take,Nat.min_eq_left e1,List.drop_take]
  refine List.take_left' ?_
  rw [List.length_append,List.length_append,l2,List.length_take,hv]
  omega
theorem grown (old vs zs : List Value) (sz n m i G : Nat) (ho : old.length = n * sz) (hi : i ≤ n) (hv : vs.length = m * sz) (hz : (old.take (i * sz) ++ zs).length = G * sz) (hG : n + m ≤ G) :
    ((((old.take (i * sz) ++ zs).take (i * sz) ++ vs ++ (old.take (i * sz) ++ zs).drop (i * sz + vs.length)).take ((i + m) * sz)) ++ old.drop (i * sz) ++ ((old.take (i * sz) ++ zs).take (i * sz) ++ vs ++ (old.take (i * sz) ++ zs).drop (i * sz + vs.length)).drop ((i + m) * sz + (old.drop (i * sz)).length)).take ((n + m) * sz)
      = old.take (i * sz) ++ vs ++ old.drop (i * sz):=by
  have e1:i * sz≤n * sz:=Nat.mul_le_mul_right _ hi
  have e2:(n + m) * sz≤G * sz:=Nat.mul_le_mul_right _ hG
  have e3:(i + m) * sz=i * sz + m * sz:=Nat.add_mul _ _ _
  have e4:(n + m) * sz=n * sz + m * sz:=Nat.add_mul _ _ _
  generalize i * sz=I at *
  generalize m * sz=M at *
  generalize n * sz=N at *
  generalize G * sz=GG at *
  rw [e3]
  have l1:(old.take I).length=I:=by rw [List.length_take];omega
  have a1:(old.take I ++ zs).take I=old.take I:=List.take_left' l1
  have l2:(old.take I ++ vs).length=I + M:=by rw [List.length_append,l1,hv]
  rw [a1]
  have a2:(old.take I ++ vs ++ (old.take I ++ zs).drop (I + vs.length)).take (I + M)=old.take I ++ vs:=List.take_left' l2
  rw [a2]
  refine List.take_left' ?_
  rw [List.length_append,l2,List.length_drop]
  omega
theorem zl (c:Array Value) (k:Nat):(Builtin.zeroCells c k).toList.length=k * c.size:=by rw [Array.length_toList,size_zeroCells]
theorem info_size {e:TypeId} {z:Option Value} {s b:Nat} (h:(P.info? e).map (fun i=>(i.zero,i.size,i.bytes))=some (z,s,b)):(P.info? e).map (·.size)=some s:=by
  obtain ⟨i0,hi,hh⟩:=Option.map_eq_some_iff.1 h
  simp only [Prod.mk.injEq] at hh
  rw [hi]
  simp [hh.2.1]
theorem info_sizeOf {e:TypeId} {s:Nat} (h:(P.info? e).map (·.size)=some s) (w:World):(Go.sizeOf e).run P w = .ok s w:=by
  obtain ⟨i0,hi,hh⟩:=Option.map_eq_some_iff.1 h
  simp [sizeOf,typeInfo,hi,hh]
theorem seg_len (l:List Value) (o k:Nat) (h:o + k≤l.length):((l.drop o).take k).length=k:=by rw [List.length_take,List.length_drop];omega
theorem room (d : Kd α) (hF : Flat d) (hs0 : 0 < d.sz) {e T : TypeId} (hu : P.underlying T = some (.slice e)) (hinfo : (P.info? e).map (·.size) = some d.sz) {w : World} {g vb c vc i : Nat} {cur vcur : Array Value} {xs ys : List α} {b1 b2 : Nat} {ok1 ok2 : Nat → Prop}
    (hgh:w.heap[g]?=some (.cells cur e (0,0))) (hvh:w.heap[vb]?=some (.cells vcur e (0,0))) (hne:vb≠g) (hcs:cur.size=c * d.sz) (hvs:vcur.size=vc * d.sz) (hc:xs.length + ys.length≤c) (hvc:ys.length≤vc) (hi:i < xs.length) (h0:0 < ys.length)
    (hcr:Reps (d.M w b1 ok1) d.sz xs (cur.toList.take (xs.length * d.sz))) (hvr:Reps (d.M w b2 ok2) d.sz ys (vcur.toList.take (ys.length * d.sz))) :
    ∃ n1 n2:Array Value,
      (∀ ty dc sc,(Builtin.copy_ #[T,T] ty #[.slice (some ⟨g,(i + ys.length) * d.sz,none⟩) (xs.length - i) dc,.slice (some ⟨g,i * d.sz,none⟩) (xs.length + ys.length - i) sc]).run P w.drew = .ok (goInt ((xs.length - i:Nat):Int)) (w.drew.setRow g n1)) ∧
      (∀ ty dc,(Builtin.copy_ #[T,T] ty #[.slice (some ⟨g,i * d.sz,none⟩) (xs.length + ys.length - i) dc,.slice (some ⟨vb,0,none⟩) ys.length vc]).run P (w.drew.setRow g n1) = .ok (goInt ys.length) ((w.drew.setRow g n1).setRow g n2)) ∧
      ((w.drew.setRow g n1).setRow g n2).heap[g]?=some (.cells n2 e (0,0))∧n2.size=c * d.sz∧Reps (d.M w b1 (fun _=>True)) d.sz (xs.take i ++ ys ++ xs.drop i) (n2.toList.take ((xs.length + ys.length) * d.sz)):=by
  have hdr:w.drew.heap[g]?=some (.cells cur e (0,0)):=hgh
  have hcl:cur.toList.length=c * d.sz:=by rw [Array.length_toList,hcs]
  have hvl:vcur.toList.length=vc * d.sz:=by rw [Array.length_toList,hvs]
  have m1:(xs.length + ys.length) * d.sz≤c * d.sz:=Nat.mul_le_mul_right _ hc
  have m2:ys.length * d.sz≤vc * d.sz:=Nat.mul_le_mul_right _ hvc
  have m3:i * d.sz≤xs.length * d.sz:=Nat.mul_le_mul_right _ (Nat.le_of_lt hi)
  have m4:(xs.length + ys.length) * d.sz=xs.length * d.sz + ys.length * d.sz:=Nat.add_mul _ _ _
  have m5:(i + ys.length) * d.sz=i * d.sz + ys.length * d.sz:=Nat.add_mul _ _ _
  have m6:(xs.length - i) * d.sz=xs.length * d.sz - i * d.sz:=Nat.sub_mul _ _ _
  obtain ⟨cs,hcs'⟩:∃ cs,cs=(cur.toList.drop (i * d.sz)).take ((xs.length - i) * d.sz):=⟨_,rfl⟩
  have hcsl:cs.length=(xs.length - i) * d.sz:=by rw [hcs'];exact seg_len _ _ _ (by rw [hcl];omega)
  obtain ⟨vs,hvs'⟩:∃ vs,vs=vcur.toList.take (ys.length * d.sz):=⟨_,rfl⟩
  have hvsl:vs.length=ys.length * d.sz:=by rw [hvs',List.length_take,hvl];omega
  have hone:=Reps_one d hs0 hcr
  have hvone:∀ u ∈ vs,u.oneCell'=true:=by rw [hvs'];exact Reps_one d hs0 hvr
  have hcone:∀ u ∈ cs,u.oneCell'=true:=by
    intro u hu
    have e1:cs=(cur.toList.take (xs.length * d.sz)).drop (i * d.sz):=by rw [hcs',List.drop_take,m6]
    exact hone u (List.mem_of_mem_drop (e1 ▸ hu))
  obtain ⟨n1,hn1⟩:∃ n1:Array Value,n1=(cur.toList.take ((i + ys.length) * d.sz) ++ cs ++ cur.toList.drop ((i + ys.length) * d.sz + cs.length)).toArray:=⟨_,rfl⟩
  have hn1s:n1.size=c * d.sz:=by
    rw [hn1,List.size_toArray,List.length_append,List.length_append,List.length_take,List.length_drop,hcsl,hcl];omega
  have hW1:(w.drew.setRow g n1).heap[g]?=some (.cells n1 e (0,0)):=setRow_heap _ _ _ _ _ _ hdr
  have hWv:(w.drew.setRow g n1).heap[vb]?=some (.cells vcur e (0,0)):=(setRow_other _ _ _ _ hne).trans hvh
  obtain ⟨n2,hn2⟩:∃ n2:Array Value,n2=(n1.toList.take (i * d.sz) ++ vs ++ n1.toList.drop (i * d.sz + vs.length)).toArray:=⟨_,rfl⟩
  refine ⟨n1,n2,fun ty dc sc=>?_,fun ty dc=>?_,setRow_heap _ _ _ _ _ _ hW1,?_,?_⟩
  · rw [hn1]
    refine run_copy_rowN w.drew T T ty e d.sz g ((i + ys.length) * d.sz) (xs.length - i) dc ⟨g,i * d.sz,none⟩ (xs.length + ys.length - i) sc cur e cs hu hinfo hdr (xs.length - i) (Nat.min_eq_right (by omega)) hcsl (by rw [hcs'];exact cells_row hdr _ _) (by rw [hcsl,hcs];omega) hcone
  · rw [hn2]
    refine run_copy_rowN _ T T ty e d.sz g (i * d.sz) (xs.length + ys.length - i) dc ⟨vb,0,none⟩ ys.length vc n1 e vs hu hinfo hW1 ys.length (Nat.min_eq_left (by omega)) hvsl (by rw [hvs'];have h:=cells_row hWv 0 (ys.length * d.sz);rw [List.drop_zero] at h;exact h) (by rw [hvsl,hn1s];omega) hvone
  · rw [hn2,List.size_toArray,List.length_append,List.length_append,List.length_take,List.length_drop,hvsl,Array.length_toList,hn1s];omega
  · have hsh:=shifted cur.toList vs d.sz xs.length ys.length i c hcl hc (Nat.le_of_lt hi) hvsl
    rw [hn2,List.toList_toArray,hn1,List.toList_toArray,hcsl,hcs',hsh,hvs']
    exact Reps_app (Reps_app (Reps_take (hcr.imp_ (fun p cc hp=>hF hp _ _ _)) i (Nat.le_of_lt hi)) (hvr.imp_ (fun p cc hp=>hF hp _ _ _))) (Reps_drop (hcr.imp_ (fun p cc hp=>hF hp _ _ _)) i)
theorem noroom (d : Kd α) (hF : Flat d) (hs0 : 0 < d.sz) {e T ti : TypeId} (hu : P.underlying T = some (.slice e)) {kn : IntKind} (hti : P.underlying ti = some (.int kn)) {z : Value} {bytes : Nat} (hinfo : (P.info? e).map (fun i => (i.zero, i.size, i.bytes)) = some (some z, d.sz, bytes)) (hz : z.cells.size = d.sz) (hb0 : 0 < bytes)
    {w:World} {g vb c vc i:Nat} {cur vcur:Array Value} {xs ys:List α} {b1 b2:Nat} {ok1 ok2:Nat→Prop}
    (hgh:w.heap[g]?=some (.cells cur e (0,0))) (hvh:w.heap[vb]?=some (.cells vcur e (0,0))) (hcs:cur.size=c * d.sz) (hvs:vcur.size=vc * d.sz) (hxc:xs.length≤c) (hc:c < xs.length + ys.length) (hvc:ys.length≤vc) (hi:i < xs.length) (h0:0 < ys.length) (hbig:(xs.length + ys.length) * bytes≤140737488355328)
    (hcr:Reps (d.M w b1 ok1) d.sz xs (cur.toList.take (xs.length * d.sz))) (hvr:Reps (d.M w b2 ok2) d.sz ys (vcur.toList.take (ys.length * d.sz))) :
    ∃ (G:Nat) (r0 r1 r2:Array Value),
      (∀ ty,(Builtin.append_ #[T,ti] ty #[.slice (some ⟨g,0,none⟩) i c,.int .i64 ((xs.length + ys.length - i:Nat):Int)]).run P w = .ok (.slice (some ⟨w.heap.size,0,none⟩) (xs.length + ys.length) G) (w.drew.alloc (.cells r0 e))) ∧
      (∀ ty dc,(Builtin.copy_ #[T,T] ty #[.slice (some ⟨w.heap.size,i * d.sz,none⟩) (xs.length + ys.length - i) dc,.slice (some ⟨vb,0,none⟩) ys.length vc]).run P (w.drew.alloc (.cells r0 e)) = .ok (goInt ys.length) ((w.drew.alloc (.cells r0 e)).setRow w.heap.size r1)) ∧
      (∀ ty dc sc,(Builtin.copy_ #[T,T] ty #[.slice (some ⟨w.heap.size,(i + ys.length) * d.sz,none⟩) (xs.length - i) dc,.slice (some ⟨g,i * d.sz,none⟩) (xs.length - i) sc]).run P ((w.drew.alloc (.cells r0 e)).setRow w.heap.size r1).drew = .ok (goInt ((xs.length - i:Nat):Int)) (((w.drew.alloc (.cells r0 e)).setRow w.heap.size r1).drew.setRow w.heap.size r2)) ∧
      (((w.drew.alloc (.cells r0 e)).setRow w.heap.size r1).drew.setRow w.heap.size r2).heap[w.heap.size]?=some (.cells r2 e (0,0))∧r2.size=G * d.sz∧xs.length + ys.length≤G∧G≤maxLen ∧
      Reps (d.M w b1 (fun _=>True)) d.sz (xs.take i ++ ys ++ xs.drop i) (r2.toList.take ((xs.length + ys.length) * d.sz)):=by
  obtain ⟨i0,hi0,hzz⟩:=Option.map_eq_some_iff.1 hinfo
  simp only [Prod.mk.injEq] at hzz
  obtain ⟨hz0,hz1,hz2⟩:=hzz
  have hinfo2:(P.info? e).map (·.size)=some d.sz:=by rw [hi0];simp [hz1]
  have hgl:g < w.heap.size:=(Array.getElem?_eq_some_iff.1 hgh).1
  have hvl0:vb < w.heap.size:=(Array.getElem?_eq_some_iff.1 hvh).1
  have hcl:cur.toList.length=c * d.sz:=by rw [Array.length_toList,hcs]
  have hvl:vcur.toList.length=vc * d.sz:=by rw [Array.length_toList,hvs]
  have hle:xs.length + ys.length≤140737488355328:=Nat.le_trans (Nat.le_mul_of_pos_right _ hb0) hbig
  have m0:xs.length * d.sz≤c * d.sz:=Nat.mul_le_mul_right _ hxc
  have m2:ys.length * d.sz≤vc * d.sz:=Nat.mul_le_mul_right _ hvc
  have m3:i * d.sz≤xs.length * d.sz:=Nat.mul_le_mul_right _ (Nat.le_of_lt hi)
  have m4:(xs.length + ys.length) * d.sz=xs.length * d.sz + ys.length * d.sz:=Nat.add_mul _ _ _
  have m5:(i + ys.length) * d.sz=i * d.sz + ys.length * d.sz:=Nat.add_mul _ _ _
  have m6:(xs.length - i) * d.sz=xs.length * d.sz - i * d.sz:=Nat.sub_mul _ _ _
  obtain ⟨old,hold'⟩:∃ old,old=cur.toList.take (xs.length * d.sz):=⟨_,rfl⟩
  have holdl:old.length=xs.length * d.sz:=by rw [hold',List.length_take,hcl];omega
  obtain ⟨cs,hcs'⟩:∃ cs,cs=old.drop (i * d.sz):=⟨_,rfl⟩
  have hcsl:cs.length=(xs.length - i) * d.sz:=by rw [hcs',List.length_drop,holdl];omega
  obtain ⟨vs,hvs'⟩:∃ vs,vs=vcur.toList.take (ys.length * d.sz):=⟨_,rfl⟩
  have hvsl:vs.length=ys.length * d.sz:=by rw [hvs',List.length_take,hvl];omega
  have hone:∀ u ∈ old,u.oneCell'=true:=by rw [hold'];exact Reps_one d hs0 hcr
  have hvone:∀ u ∈ vs,u.oneCell'=true:=by rw [hvs'];exact Reps_one d hs0 hvr
  have hcone:∀ u ∈ cs,u.oneCell'=true:=fun u hu=>hone u (List.mem_of_mem_drop (hcs' ▸ hu))
  have hxr:∀ (j:Nat) v,(old.take (i * d.sz))[j]?=some v→w.drew.cell? (Addr.add ⟨g,0,none⟩ j)=some v:=by
    intro j v hj
    have e1:old.take (i * d.sz)=(cur.toList.drop 0).take (i * d.sz):=by rw [hold',List.take_take,List.drop_zero,Nat.min_eq_left m3]
    rw [e1] at hj
    exact cells_row (w:=w.drew) hgh 0 _ j v hj
  have hfc:(Builtin.firstCells i0.size i (.slice (some ⟨g,0,none⟩) i c)).run P w.drew = .ok (old.take (i * d.sz)).toArray w.drew:=by
    rw [hz1]
    exact run_firstCells_some w.drew d.sz i ⟨g,0,none⟩ i c (old.take (i * d.sz)) (by rw [List.length_take,holdl];omega) hxr
  have hk:i + (xs.length + ys.length - i)=xs.length + ys.length:=by omega
  have hap:∀ ty,_:=fun ty=>Lib.run_append_grow_zeros w T ti ty e i0 z .i64 kn hu hti hi0 hz0 (some ⟨g,0,none⟩) i c (old.take (i * d.sz)) hfc (xs.length + ys.length - i) (by omega) (by rw [hz1];exact hs0) (by omega) (by omega) (by rw [hz2];exact Nat.le_trans (Nat.mul_le_mul_right _ (Nat.sub_le _ _)) (by omega)) (by rw [hz2,hk];exact growslice_fits (by omega) hbig)
  rw [hk] at hap
  obtain ⟨G,hG⟩:∃ G,G=grownCap w (xs.length + ys.length) c e:=⟨_,rfl⟩
  have hGn:xs.length + ys.length≤G:=by rw [hG];exact grownCap_ge w _ _ _
  have hGm:G≤maxLen:=by rw [hG];exact grownCap_le_maxLen w _ c e (by simp only [maxLen];omega)
  rw [← hG] at hap
  obtain ⟨zs,hzs⟩:∃ zs,zs=(Builtin.zeroCells z.cells (xs.length + ys.length - i)).toList ++ (Builtin.zeroCells z.cells (G - (xs.length + ys.length))).toList:=⟨_,rfl⟩
  obtain ⟨r0,hr0⟩:∃ r0:Array Value,r0=(old.take (i * d.sz)).toArray ++ Builtin.zeroCells z.cells (xs.length + ys.length - i) ++ Builtin.zeroCells z.cells (G - (xs.length + ys.length)):=⟨_,rfl⟩
  rw [← hr0] at hap
  have hr0l:r0.toList=old.take (i * d.sz) ++ zs:=by rw [hr0,hzs];simp
  have mG:(xs.length + ys.length) * d.sz≤G * d.sz:=Nat.mul_le_mul_right _ hGn
  have hzl:zs.length=(xs.length + ys.length - i) * d.sz + (G - (xs.length + ys.length)) * d.sz:=by
    rw [hzs,List.length_append,zl,zl,hz]
  have hrl:(old.take (i * d.sz) ++ zs).length=G * d.sz:=by
    rw [List.length_append,List.length_take,holdl,hzl,Nat.sub_mul,Nat.sub_mul];omega
  have hr0s:r0.size=G * d.sz:=by rw [← Array.length_toList,hr0l,hrl]
  have hN:(w.drew.alloc (.cells r0 e)).heap[w.heap.size]?=some (.cells r0 e (0,0)):=heap_alloc_new w.drew _
  have hA:∀ k,k < w.heap.size→(w.drew.alloc (.cells r0 e)).heap[k]?=w.heap[k]?:=fun k hk=>heap_alloc_old w.drew _ hk
  obtain ⟨r1,hr1⟩:∃ r1:Array Value,r1=(r0.toList.take (i * d.sz) ++ vs ++ r0.toList.drop (i * d.sz + vs.length)).toArray:=⟨_,rfl⟩
  have hr1s:r1.size=G * d.sz:=by
    rw [hr1,List.size_toArray,List.length_append,List.length_append,List.length_take,List.length_drop,hvsl,Array.length_toList,hr0s];omega
  have hW1:((w.drew.alloc (.cells r0 e)).setRow w.heap.size r1).heap[w.heap.size]?=some (.cells r1 e (0,0)):=setRow_heap _ _ _ _ _ _ hN
  have hWg:((w.drew.alloc (.cells r0 e)).setRow w.heap.size r1).heap[g]?=some (.cells cur e (0,0)):=(setRow_other _ _ _ _ (by omega)).trans ((hA g hgl).trans hgh)
  obtain ⟨r2,hr2⟩:∃ r2:Array Value,r2=(r1.toList.take ((i + ys.length) * d.sz) ++ cs ++ r1.toList.drop ((i + ys.length) * d.sz + cs.length)).toArray:=⟨_,rfl⟩
  refine ⟨G,r0,r1,r2,hap,fun ty dc=>?_,fun ty dc sc=>?_,setRow_heap (((w.drew.alloc (.cells r0 e)).setRow w.heap.size r1).drew) _ _ _ _ _ hW1,?_,hGn,hGm,?_⟩
  · rw [hr1]
    refine run_copy_rowN _ T T ty e d.sz w.heap.size (i * d.sz) (xs.length + ys.length - i) dc ⟨vb,0,none⟩ ys.length vc r0 e vs hu hinfo2 hN ys.length (Nat.min_eq_left (by omega)) hvsl (by rw [hvs'];have h:=cells_row ((hA vb hvl0).trans hvh) 0 (ys.length * d.sz);rw [List.drop_zero] at h;exact h) (by rw [hvsl,hr0s];omega) hvone
  · rw [hr2]
    refine run_copy_rowN (((w.drew.alloc (.cells r0 e)).setRow w.heap.size r1).drew) T T ty e d.sz w.heap.size ((i + ys.length) * d.sz) (xs.length - i) dc ⟨g,i * d.sz,none⟩ (xs.length - i) sc r1 e cs hu hinfo2 hW1 (xs.length - i) (Nat.min_eq_right (Nat.le_refl _)) hcsl ?_ (by rw [hcsl,hr1s];omega) hcone
    have e1:cs=(cur.toList.drop (i * d.sz)).take ((xs.length - i) * d.sz):=by rw [hcs',hold',List.drop_take,m6]
    rw [e1]
    exact cells_row (w:=((w.drew.alloc (.cells r0 e)).setRow w.heap.size r1).drew) hWg _ _
  · rw [hr2,List.size_toArray,List.length_append,List.length_append,List.length_take,List.length_drop,hcsl,show r1.toList.length=G * d.sz from Array.length_toList.trans hr1s];omega
  · have hgr:=grown old vs zs d.sz xs.length ys.length i G holdl (Nat.le_of_lt hi) hvsl hrl hGn
    rw [hr2,List.toList_toArray,hr1,List.toList_toArray,hr0l,hcs',hgr,hvs',hold']
    exact Reps_app (Reps_app (Reps_take (hcr.imp_ (fun p cc hp=>hF hp _ _ _)) i (Nat.le_of_lt hi)) (hvr.imp_ (fun p cc hp=>hF hp _ _ _))) (Reps_drop (hcr.imp_ (fun p cc hp=>hF hp _ _ _)) i)
end
end Go.Proofs.Ytldpdaifajjaeaa.Ins
