import Derived.Sort.Walk0
import Derived.Test.YtldpdaifajjaeaaSetFnKept
/-! Rising lists of texts: the plain side. -/
namespace Go.Proofs.Ytldpdaifajjaeaa.Order
open Go.RowKit Go.Proofs.YtldpdaifajjaeaaW.PrintWords Go.Proofs.YtldpdaifajjaeaaW.PrintLast Go.Proofs.YtldpdaifajjaeaaW.PrintMore Go.Proofs.Ytldpdaifajjaeaa.Bits Go.Proofs.Ytldpdaifajjaeaa.Num Go.Proofs.Ytldpdaifajjaeaa.Dig Go.Proofs.Ytldpdaifajjaeaa.Loops Go.Proofs.Ytldpdaifajjaeaa.SetOf
set_option linter.unusedSimpArgs false
set_option linter.unusedVariables false

instance decMem (x:ByteArray) (l:List ByteArray):Decidable (x ∈ l):=decidable_of_iff (l.any (fun d=>decide (d=x))=true) (by simp)
theorem less_is (a b:ByteArray):less a b=decide (a.data.toList < b.data.toList):=by
  unfold less;rw [Go.Proofs.bytesLess_eq,toL,toL]
theorem less_iff (a b:ByteArray):less a b=true↔a.data.toList < b.data.toList:=by rw [less_is,decide_eq_true_eq]
theorem less_irrefl (a:ByteArray):¬ less a a=true:=by rw [less_iff];exact List.lt_irrefl _
theorem less_trans {a b c:ByteArray} (h:less a b=true) (k:less b c=true):less a c=true:=by
  rw [less_iff] at *;exact List.lt_trans h k
theorem byte_ext {a b:ByteArray} (h:a.data.toList=b.data.toList):a=b:=by
  cases a;cases b;simp only at h;congr 1;exact Array.toList_inj.1 h
theorem less_total {a b:ByteArray} (h:¬ less a b=true) (k:¬ less b a=true):a=b:=by
  rw [less_iff] at *;exact byte_ext (List.le_antisymm k h)
theorem same_is (a b:ByteArray):a.toList=b.toList↔a=b:=⟨fun h=>byte_ext (by rwa [toL,toL] at h),fun h=>by rw [h]⟩
/-- Each text stands ahead of those behind it. -/
def Rising (l:List ByteArray):Prop:=∀ (i j:Nat) (hi:i < l.length) (hj:j < l.length),i < j→less l[i] l[j]=true
theorem rising_of (l:List ByteArray) (h:∀ (i:Nat) (hi:i + 1 < l.length),less l[i] l[i + 1]=true):Rising l:=by
  intro i j hi hj hij
  have key:∀ d (hd:i + d + 1 < l.length),less l[i] l[i + d + 1]=true:=by
    intro d
    induction d with
    | zero=>intro hd;exact h i hd
    | succ d ih=>intro hd;exact less_trans (ih (by omega)) (h (i + d + 1) hd)
  obtain ⟨d,rfl⟩:∃ d,j=i + d + 1:=⟨j - i - 1,by omega⟩
  exact key d hj
/-- Place p: what stands ahead of it is less than x, what stands from there on is not. -/
def PlaceS (l:List ByteArray) (x:ByteArray) (p:Nat):Prop:=p≤l.length∧(∀ (q:Nat) (h:q < l.length),q < p→less l[q] x=true)∧∀ (q:Nat) (h:q < l.length),p≤q→¬ less l[q] x=true
def at? (l:List ByteArray) (x:ByteArray) (p:Nat):Bool:=decide (l[p]?=some x)
theorem place_of_mem {l:List ByteArray} {x:ByteArray} {p:Nat} (hr:Rising l) (hp:PlaceS l x p) (hx:x ∈ l):l[p]?=some x:=by
  obtain ⟨q,hq,rfl⟩:=List.getElem_of_mem hx
  have h1:p≤q:=by
    rcases Nat.lt_or_ge q p with h | h
    · exact absurd (hp.2.1 q hq h) (less_irrefl _)
    · exact h
  have h2:q=p:=by
    rcases Nat.lt_or_ge p q with h | h
    · exact absurd (hr p q (by omega) hq h) (hp.2.2 p (by omega) (Nat.le_refl p))
    · omega
  subst h2
  exact List.getElem?_eq_getElem hq
theorem at_iff {l:List ByteArray} {x:ByteArray} {p:Nat} (hr:Rising l) (hp:PlaceS l x p):at? l x p=true↔x ∈ l:=by
  unfold at?
  rw [decide_eq_true_eq]
  exact ⟨fun h=>List.mem_of_getElem? h,fun h=>place_of_mem hr hp h⟩
theorem filter_at {l:List ByteArray} {x:ByteArray} {p:Nat} (hr:Rising l) (h:l[p]?=some x):l.filter (fun d=>decide (¬ d=x))=l.take p ++ l.drop (p + 1):=by
  obtain ⟨hp,hx⟩:=List.getElem?_eq_some_iff.1 h
  have hl:l=l.take p ++ (x :: l.drop (p + 1)):=by rw [← hx,← List.drop_eq_getElem_cons hp,List.take_append_drop]
  conv=>lhs;rw [hl]
  rw [List.filter_append,List.filter_cons_of_neg (by simp)]
  congr 1
  · refine List.filter_eq_self.2 (fun d hd=>?_)
    obtain ⟨i,hi,rfl⟩:=List.getElem_of_mem hd
    rw [List.length_take] at hi
    rw [List.getElem_take,decide_eq_true_eq]
    intro e
    have:=hr i p (by omega) hp (by omega)
    rw [e,hx] at this
    exact less_irrefl _ this
  · refine List.filter_eq_self.2 (fun d hd=>?_)
    obtain ⟨i,hi,rfl⟩:=List.getElem_of_mem hd
    rw [List.length_drop] at hi
    rw [List.getElem_drop,decide_eq_true_eq]
    intro e
    have:=hr p (p + 1 + i) hp (by omega) (by omega)
    rw [e,hx] at this
    exact less_irrefl _ this
theorem rising_pw (l:List ByteArray):Rising l↔l.Pairwise (fun a b=>less a b=true):=by rw [List.pairwise_iff_getElem];rfl
theorem PlaceS.unique {l:List ByteArray} {x:ByteArray} {p q:Nat} (hp:PlaceS l x p) (hq:PlaceS l x q):p=q:=by
  rcases Nat.lt_trichotomy p q with h | h | h
  · exact absurd (hq.2.1 p (by have:=hq.1;omega) h) (hp.2.2 p (by have:=hq.1;omega) (Nat.le_refl p))
  · exact h
  · exact absurd (hp.2.1 q (by have:=hp.1;omega) h) (hq.2.2 q (by have:=hp.1;omega) (Nat.le_refl q))
/-- Where x belongs. -/
def placeM (l:List ByteArray) (x:ByteArray):Nat:=(l.takeWhile (fun d=>less d x)).length
theorem placeM_is {l:List ByteArray} (hr:Rising l) (x:ByteArray):PlaceS l x (placeM l x):=by
  induction l with
  | nil=>exact ⟨Nat.le_refl _,fun q h=>absurd h (by simp),fun q h=>absurd h (by simp)⟩
  | cons a l ih =>
    rw [rising_pw,List.pairwise_cons] at hr
    have ih:=ih ((rising_pw l).2 hr.2)
    unfold placeM
    rw [List.takeWhile_cons]
    by_cases h:less a x=true
    · rw [if_pos h]
      refine ⟨by simpa [placeM] using ih.1,fun q hq hlt=>?_,fun q hq hge=>?_⟩
      · cases q with
        | zero=>exact h
        | succ q=>exact ih.2.1 q (by simpa using hq) (by simpa [placeM] using hlt)
      · cases q with
        | zero=>simp at hge
        | succ q=>exact ih.2.2 q (by simpa using hq) (by simpa [placeM] using hge)
    · rw [if_neg h]
      refine ⟨Nat.zero_le _,fun q hq hlt=>absurd hlt (by simp),fun q hq hge=>?_⟩
      cases q with
      | zero=>exact h
      | succ q =>
        intro hl
        exact h (less_trans (hr.1 _ (List.getElem_mem (by simpa using hq))) hl)
/-- x put where it belongs, if it isn't there. -/
def insM (l:List ByteArray) (x:ByteArray):List ByteArray:=if x ∈ l then l else l.take (placeM l x) ++ x :: l.drop (placeM l x)
theorem insM_at {l:List ByteArray} {x:ByteArray} {p:Nat} (hr:Rising l) (hx:¬ x ∈ l) (hp:PlaceS l x p):insM l x=l.take p ++ x :: l.drop p:=by
  rw [insM,if_neg hx,(placeM_is hr x).unique hp]
theorem insM_rising {l:List ByteArray} (hr:Rising l) (x:ByteArray):Rising (insM l x):=by
  unfold insM
  split
  · exact hr
  · rename_i hx
    have hp:=placeM_is hr x
    generalize placeM l x=p at hp
    rw [rising_pw] at hr ⊢
    rw [← List.take_append_drop p l,List.pairwise_append] at hr
    rw [List.pairwise_append,List.pairwise_cons]
    have hd:∀ d ∈ l.drop p,less x d=true:=by
      intro d hd
      obtain ⟨i,hi,rfl⟩:=List.getElem_of_mem hd
      rw [List.length_drop] at hi
      rw [List.getElem_drop]
      by_cases h:less x l[p + i]=true
      · exact h
      · have:=less_total (hp.2.2 (p + i) (by omega) (by omega)) h
        exact absurd (this ▸ List.getElem_mem _) hx
    have ht:∀ d ∈ l.take p,less d x=true:=by
      intro d hd
      obtain ⟨i,hi,rfl⟩:=List.getElem_of_mem hd
      rw [List.length_take] at hi
      rw [List.getElem_take]
      exact hp.2.1 i (by omega) (by omega)
    refine ⟨hr.1,⟨hd,hr.2.1⟩,fun a ha b hb=>?_⟩
    rcases List.mem_cons.1 hb with rfl | hb
    · exact ht a ha
    · exact hr.2.2 a ha b hb
theorem mem_insM (l:List ByteArray) (x:ByteArray):x ∈ insM l x:=by
  unfold insM
  split
  · assumption
  · exact List.mem_append.2 (.inr List.mem_cons_self)
end Go.Proofs.Ytldpdaifajjaeaa.Order
