import Derived.Test.YtldpdaifajjaeaaVFnChunked
import Derived.Laws.CopyRow
namespace Go.Proofs.Ytldpdaifajjaeaa.Clear
open Go.RowKit Go.Proofs.YtldpdaifajjaeaaW.PrintWords Go.Proofs.YtldpdaifajjaeaaW.PrintLast Go.Proofs.YtldpdaifajjaeaaW.PrintMore
set_option linter.unusedSimpArgs false
set_option linter.unusedVariables false
section
variable {P:Program} {ops:Array Oper} {rest:List Oper} {o:Oper} {a:Act} {Q:Exit→Act→World→Prop} {α:Type}
theorem zeroCells_one (c:Array Value):(Builtin.zeroCells c 1).toList=c.toList:=by
  simp only [Builtin.zeroCells]
  apply List.ext_getElem
  · simp
  · intro i h1 h2
    simp at h1 h2
    simp [Nat.mod_eq_of_lt h2]
    exact getElem!_pos c i h2
theorem R_clear (d : Kd α) {W w0 : World} (base : Nat) (hgd : o.guard = none) (x : Operand) (t e : TypeId) (ho : o.op = .call { callee := .builtin .clear, args := #[x], argTypes := #[t] })
    (ht:P.underlying t=some (.slice e)) (z:Value) (hinfo:(P.info? e).map (·.zero)=some (some z)) (hz:z.cells.size=d.sz) (hz1:∀ v ∈ z.cells.toList,v.oneCell'=true) (he:e≠5)
    {g n c c2:Nat} {xs:List α} {ok:Nat→Prop} (hx:a.eval x = .slice (some ⟨g,n * d.sz,none⟩) 1 c2) (HO:d.R e W base ok (.slice (some ⟨g,0,none⟩) n c) xs) (hn:n < c) (HB:Below base w0 W) (hbase:base≤g)
    (h:∀ w1,d.R e w1 base ok (.slice (some ⟨g,0,none⟩) n c) xs→Below base w0 w1→W.grownBy w1 (some g)→wpList P ops Q rest (a.put o.dst (.tuple #[])) w1):wpList P ops Q (o :: rest) a W:=by
  have hn0:n=xs.length:=(Kd.R_reads' HO).1
  obtain ⟨hok,inner,⟨hil,hown⟩,hr⟩:=HO
  rcases hown with ⟨hnil,_⟩ | ⟨g',cap,cur,hv,hb,hh,hcap,hm,hs,htk⟩
  · cases hnil
  · injection hv with hv1 hv2 hv3
    obtain rfl:g=g':=by simpa using hv1
    subst hv3
    have hg:=hh.plain he
    have hrun0:=run_storeCells_at P g (n * d.sz) e z.cells.toList 0 cur W hg (by
      rw [hs,Array.length_toList,hz,Nat.add_zero]
      have:(n + 1) * d.sz≤c * d.sz:=Nat.mul_le_mul_right _ hn
      rw [Nat.add_mul,Nat.one_mul] at this;exact this) hz1
    rw [Nat.add_zero] at hrun0
    generalize hnew:(cur.toList.take (n * d.sz) ++ z.cells.toList ++ cur.toList.drop (n * d.sz + z.cells.toList.length)).toArray=new at hrun0
    have hz0:∀ w,(zeroValue e).run P w = .ok z w:=by
      intro w
      cases hq:P.info? e with
      | none=>rw [hq] at hinfo;simp at hinfo
      | some i =>
        rw [hq] at hinfo
        have:i.zero=some z:=by simpa using hinfo
        simp [zeroValue,typeInfo,hq,this]
    have hrun:(Builtin.clear_ #[t] o.type #[.slice (some ⟨g,n * d.sz,none⟩) 1 c2]).run P W = .ok (.tuple #[]) (W.setRow g new):=by
      simp [Builtin.clear_,run_underlying ht,hz0,zeroCells_one,hrun0]
    have hnt:new.toList.take (n * d.sz)=cur.toList.take (n * d.sz):=by
      rw [← hnew,List.toList_toArray,List.append_assoc]
      refine List.take_left' ?_
      rw [List.length_take,Array.length_toList,hs]
      exact Nat.min_eq_left (Nat.mul_le_mul_right _ (Nat.le_of_lt hn))
    have hns:new.size=cur.size:=by
      rw [← hnew,List.size_toArray,List.length_append,List.length_append,List.length_take,List.length_drop,Array.length_toList,Array.length_toList,hs,hz]
      have:(n + 1) * d.sz≤c * d.sz:=Nat.mul_le_mul_right _ hn
      rw [Nat.add_mul,Nat.one_mul] at this
      omega
    have hrow:=setRow_heap W g cur new e (0,0) hg
    refine wpList_plain hgd fun K hK=>?_
    unfold Oper.wp execOp
    simp only [ho,resolve,invoke,builtin,Sem.run_bind,Sem.run_pure,Result.andThen_ok,List.map_toArray,List.map_cons,List.map_nil,hx,hrun]
    refine hK _ _ (h _ ⟨hok,inner,⟨hil,.inr ⟨g,c,new,by rw [hn0],hb,Held.of hrow,hcap,hm,by rw [hns,hs],by rw [← hn0,hnt,hn0];exact htk⟩⟩,hr.imp_ (fun _ _ hp=>d.M_move (fun k hk=>setRow_other W g k new (fun e=>hk.2 (by simp [Value.ownBlock,e]))) hp)⟩ ?_ ?_)
    · exact ⟨HB.os,HB.tape,HB.output,by rw [size_setRow];exact HB.size,fun k hk=>(setRow_other _ _ _ _ (by omega)).trans (HB.block k hk)⟩
    · exact ⟨rfl,rfl,rfl,by rw [size_setRow];exact Nat.le_refl _,fun k hk hne=>setRow_other _ _ _ _ (fun e=>hne (by rw [e]))⟩
end
end Go.Proofs.Ytldpdaifajjaeaa.Clear
