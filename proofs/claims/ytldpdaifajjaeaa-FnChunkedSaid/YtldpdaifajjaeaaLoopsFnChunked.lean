import Derived.Test.YtldpdaifajjaeaaNumFnChunked
namespace Go.Proofs.Ytldpdaifajjaeaa.Loops
open Go.RowKit Go.Proofs.YtldpdaifajjaeaaW.PrintWords Go.Proofs.YtldpdaifajjaeaaW.PrintLast Go.Proofs.YtldpdaifajjaeaaW.PrintMore Go.Proofs.Ytldpdaifajjaeaa.Num
set_option linter.unusedSimpArgs false
set_option linter.unusedVariables false
theorem wrap_nat (i:Nat) (h:i < 9223372036854775807):wrap64 ((i:Int) + 1)=((i + 1:Nat):Int):=by
  unfold wrap64;omega
theorem wrap_pred (i:Nat) (h0:0 < i) (h:i < 9223372036854775807):wrap64 ((i:Int) - 1)=((i - 1:Nat):Int):=by
  unfold wrap64;omega
theorem getD_at {α:Type} (l:List α) (i:Nat) (d:α) (h:i < l.length):l.getD ((i:Int)).toNat d=l[i]:=by
  rw [Int.toNat_natCast,List.getD_eq_getElem?_getD,List.getElem?_eq_getElem h];rfl
theorem Ev.unique {α:Type} {g:Nat→Option α} {r q:α} (h:Ev g r) (k:Ev g q):r=q:=by
  obtain ⟨K,h⟩:=h
  obtain ⟨K',k⟩:=k
  have h1:=h (max K K') (by omega)
  have h2:=k (max K K') (by omega)
  exact Option.some.inj (h1.symm.trans h2)
theorem on_loop {R:Type} {n:Nat} {F:Nat→Int→Option R} {r:R} (hstep:∀ i:Nat,i < n→∀ k,F (k + 1) (i:Int)=F k ((i + 1:Nat):Int)) (hend:Ev (fun k=>F k (n:Int)) r):Ev (fun k=>F k 0) r:=by
  have key:∀ d i:Nat,i + d=n→Ev (fun k=>F k (i:Int)) r:=by
    intro d
    induction d with
    | zero => intro i hi; obtain rfl : i = n := by omega
              exact hend
    | succ d ih=>intro i hi;exact Ev.step (hstep i (by omega)) (ih (i + 1) (by omega))
  exact key n 0 (by omega)
theorem all_loop {n : Nat} {F : Nat → Int → Option Bool} {p : Nat → Bool} (hstep : ∀ i : Nat, i < n → ∀ r, Ev (fun k => F k ((i + 1 : Nat) : Int)) r → Ev (fun k => F k (i : Int)) (p i && r)) (hend : Ev (fun k => F k (n : Int)) true) :
    Ev (fun k=>F k 0) ((List.range n).all p):=by
  have key:∀ d i:Nat,i + d=n→Ev (fun k=>F k (i:Int)) ((List.range' i d).all p):=by
    intro d
    induction d with
    | zero => intro i hi; obtain rfl : i = n := by omega
              exact hend
    | succ d ih =>
      intro i hi
      have:=hstep i (by omega) _ (ih (i + 1) (by omega))
      rw [List.range'_succ,List.all_cons]
      exact this
  rw [List.range_eq_range']
  exact key n 0 (by omega)
theorem fold_loop {R S : Type} {n : Nat} {F : Nat → S → Int → Option R} {st : Nat → S} {r : R} (hstep : ∀ i : Nat, i < n → Ev (fun k => F k (st (i + 1)) ((i + 1 : Nat) : Int)) r → Ev (fun k => F k (st i) (i : Int)) r) (hend : Ev (fun k => F k (st n) (n : Int)) r) :
    Ev (fun k=>F k (st 0) 0) r:=by
  have key:∀ d i:Nat,i + d=n→Ev (fun k=>F k (st i) (i:Int)) r:=by
    intro d
    induction d with
    | zero => intro i hi; obtain rfl : i = n := by omega
              exact hend
    | succ d ih=>intro i hi;exact hstep i (by omega) (ih (i + 1) (by omega))
  exact key n 0 (by omega)
theorem fill_loop {α β : Type} (xs : List α) (conv : α → β) {F : Nat → List β → Int → Option (List β)}
    (hstep:∀ (i:Nat) (h:i < xs.length) (acc:List β),acc.length=xs.length→∀ k,F (k + 1) acc (i:Int)=F k (acc.set i (conv xs[i])) ((i + 1:Nat):Int))
    (hend:∀ acc:List β,acc.length=xs.length→∀ k,F (k + 1) acc (xs.length:Int)=some acc) (acc:List β) (hacc:acc.length=xs.length):Ev (fun k=>F k acc 0) (xs.map conv):=by
  have key:∀ d i:Nat,∀ acc:List β,i + d=xs.length→acc.length=xs.length→Ev (fun k=>F k acc (i:Int)) (acc.take i ++ (xs.drop i).map conv):=by
    intro d
    induction d with
    | zero =>
      intro i acc hi ha
      have:i=xs.length:=by omega
      subst this
      refine Ev.step (hend acc ha) ?_
      rw [List.drop_length,List.map_nil,List.append_nil,← ha,List.take_length]
      exact Ev.now _
    | succ d ih =>
      intro i acc hi ha
      have hlt:i < xs.length:=by omega
      refine Ev.step (hstep i hlt acc ha) ?_
      have:=ih (i + 1) (acc.set i (conv xs[i])) (by omega) (by rw [List.length_set];exact ha)
      rw [List.take_succ_eq_append_getElem (by rw [List.length_set];omega),List.take_set_of_le (Nat.le_refl i),List.getElem_set_self] at this
      rw [List.drop_eq_getElem_cons hlt,List.map_cons]
      simpa using this
  simpa using key xs.length 0 acc (by omega) hacc
theorem mark_loop {α : Type} {c : Int} {upd : Int → α → α} {F : Nat → List α → Int → Int → Option (Int × List α)} (xs : List α) (m0 : Int)
    (hstep:∀ (i:Nat) (acc:List α) (h:i < acc.length),acc.length=xs.length→∀ r,Ev (fun k=>F k (acc.set i (upd (m0 + c * i) acc[i])) (m0 + c * ((i + 1:Nat):Int)) ((i + 1:Nat):Int)) r→Ev (fun k=>F k acc (m0 + c * i) (i:Int)) r)
    (hend:∀ acc:List α,acc.length=xs.length→Ev (fun k=>F k acc (m0 + c * xs.length) (xs.length:Int)) (m0 + c * xs.length,acc)) :
    ∃ ys:List α,Ev (fun k=>F k xs m0 0) (m0 + c * xs.length,ys)∧ys.length=xs.length∧∀ (i:Nat) (h:i < ys.length) (h':i < xs.length),ys[i]=upd (m0 + c * i) xs[i]:=by
  have key : ∀ d i : Nat, ∀ acc : List α, i + d = xs.length → acc.length = xs.length → (∀ (j : Nat) (h : j < acc.length) (h' : j < xs.length), acc[j] = if j < i then upd (m0 + c * j) xs[j] else xs[j]) →
      ∃ ys:List α,Ev (fun k=>F k acc (m0 + c * i) (i:Int)) (m0 + c * xs.length,ys)∧ys.length=xs.length∧∀ (j:Nat) (h:j < ys.length) (h':j < xs.length),ys[j]=upd (m0 + c * j) xs[j]:=by
    intro d
    induction d with
    | zero =>
      intro i acc hi ha hacc
      have:i=xs.length:=by omega
      subst this
      refine ⟨acc,hend acc ha,ha,fun j h h'=>?_⟩
      rw [hacc j h h',if_pos h']
    | succ d ih =>
      intro i acc hi ha hacc
      have hlt:i < acc.length:=by omega
      obtain ⟨ys,he,hl,hy⟩:=ih (i + 1) (acc.set i (upd (m0 + c * i) acc[i])) (by omega) (by rw [List.length_set];exact ha) (fun j h h'=>by
        have hj:j < acc.length:=by omega
        rw [List.getElem_set]
        by_cases e:i=j
        · subst e
          rw [if_pos rfl,if_pos (by omega),hacc i hj h',if_neg (by omega)]
        · rw [if_neg e,hacc j hj h']
          by_cases h1:j < i
          · rw [if_pos h1,if_pos (by omega)]
          · rw [if_neg h1,if_neg (by omega)])
      exact ⟨ys,hstep i acc hlt ha _ he,hl,hy⟩
  have:=key xs.length 0 xs (by omega) rfl (fun j h h'=>by rw [if_neg (by omega)])
  simpa using this
end Go.Proofs.Ytldpdaifajjaeaa.Loops
