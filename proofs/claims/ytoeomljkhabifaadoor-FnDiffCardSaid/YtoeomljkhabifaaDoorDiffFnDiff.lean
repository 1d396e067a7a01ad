import Derived.Test.YtoeomljkhabifaaDoorStepsFnDiff
/-! What the comparing of two sets finds out: the plain side. -/
namespace Go.Proofs.YtoeomljkhabifaaDoor.DiffOf
open Go.RowKit Go.Proofs.YtoeomljkhabifaaDoorW.PrintWords Go.Proofs.YtoeomljkhabifaaDoorW.PrintLast Go.Proofs.YtoeomljkhabifaaDoorW.PrintMore Go.Proofs.YtoeomljkhabifaaDoor.Bits Go.Proofs.YtoeomljkhabifaaDoor.Num Go.Proofs.YtoeomljkhabifaaDoor.Dig Go.Proofs.YtoeomljkhabifaaDoor.Loops Go.Proofs.YtoeomljkhabifaaDoor.SetOf Go.Proofs.YtoeomljkhabifaaDoor.Sha Go.Proofs.YtoeomljkhabifaaDoor.Digest Go.Proofs.YtoeomljkhabifaaDoor.TreeOf Go.Proofs.YtoeomljkhabifaaDoor.StepsOf Go.Proofs.YtoeomljkhabifaaDoor.Order
set_option linter.unusedSimpArgs false
set_option linter.unusedVariables false

/-- The law's search for two unlike sets with one digest. -/
def clashM (a b : List ByteArray) : Nat → List ByteArray → Nat → Bool
  | 0, _, _ => false
  | n + 1, qs, i => if i < qs.length then (if underM a (atS qs i) = underM b (atS qs i) then clashM a b n qs (i + 1) else if nodeE a (atS qs i) = nodeE b (atS qs i) then true else clashM a b n (if (atS qs i).size < 2 then qs ++ kidsOf (atS qs i) else qs) (i + 1)) else false
theorem node_of_under {a b : List ByteArray} {p : ByteArray} (h : underM a p = underM b p) : nodeE a p = nodeE b p := by
  unfold nodeE
  rw [← node_self _ a p, ← node_self _ b p, h]
def gM (a b : List ByteArray) (p : ByteArray) : List ByteArray := if p.size < 2 then [] else lessU a b p
theorem less_same {a b : List ByteArray} {p : ByteArray} (h : underM a p = underM b p) : lessU a b p = [] := by
  unfold lessU
  rw [h, List.filter_eq_nil_iff]
  intro x hx
  simp [hx]
theorem gM_same {a b : List ByteArray} {p : ByteArray} (h : underM a p = underM b p) : gM a b p = [] := by
  unfold gM
  split
  · rfl
  · exact less_same h
/-- What the rounds have done when they end, where no two unlike sets have one digest. -/
structure Done (a b qs ms ls : List ByteArray) (i : Nat) (R : List ByteArray × List ByteArray × List ByteArray) : Prop where
  all : ∃ ext, R.1 = qs ++ ext
  more : R.2.1 = ms ++ (R.1.drop i).flatMap (gM a b)
  less : R.2.2 = ls ++ (R.1.drop i).flatMap (gM b a)
  kids : ∀ p ∈ R.1.drop i, p.size < 2 → underM a p ≠ underM b p → ∀ q ∈ kidsOf p, q ∈ R.1.drop i
theorem drop_split {l : List ByteArray} {i : Nat} (h : i < l.length) : l.drop i = atS l i :: l.drop (i + 1) := by
  rw [atS_is l i h]; exact List.drop_eq_getElem_cons h
theorem atS_app (l m : List ByteArray) (i : Nat) (h : i < l.length) : atS (l ++ m) i = atS l i := by
  rw [atS_is l i h, atS_is (l ++ m) i (by rw [List.length_append]; omega), List.getElem_append_left h]
theorem done_loop (a b : List ByteArray) (hla : a.length ≤ 200) (hlb : b.length ≤ 200) : ∀ (n : Nat) (qs ms ls : List ByteArray) (i : Nat), Run a b qs ms ls i n → clashM a b n qs i = false → Done a b qs ms ls i (stepsM a b n qs ms ls i) := by
  intro n
  induction n with
  | zero =>
    intro qs ms ls i h _
    have h1 := meas_len (qs.drop i)
    have h2 := h.left
    have e : qs.drop i = [] := List.length_eq_zero_iff.1 (by omega)
    exact ⟨⟨[], (List.append_nil _).symm⟩, by show ms = ms ++ (qs.drop i).flatMap _; rw [e]; simp, by show ls = ls ++ (qs.drop i).flatMap _; rw [e]; simp, fun p hp => by
      have hp : p ∈ qs.drop i := hp
      rw [e] at hp; cases hp⟩
  | succ n ih =>
    intro qs ms ls i h hc
    rw [clashM] at hc
    rw [stepsM]
    by_cases hi : i < qs.length
    · rw [if_pos hi] at hc ⊢
      have hon := h.on hi
      have hmore := h.more hi
      have hml := h.ml
      have hll := h.ll
      by_cases hu : underM a (atS qs i) = underM b (atS qs i)
      · rw [if_pos hu] at hc
        rw [if_pos (node_of_under hu)]
        have hd := ih qs ms ls (i + 1) (hon ms ls (by omega) (by omega)) hc
        generalize stepsM a b n qs ms ls (i + 1) = R at hd
        obtain ⟨⟨ext, h1⟩, h2, h3, h4⟩ := hd
        have hl : i < R.1.length := by rw [h1, List.length_append]; omega
        have ha : atS R.1 i = atS qs i := by rw [h1, atS_app qs ext i hi]
        have hs := drop_split hl
        rw [ha] at hs
        refine ⟨⟨ext, h1⟩, ?_, ?_, ?_⟩
        · rw [hs, List.flatMap_cons, gM_same hu, List.nil_append]; exact h2
        · rw [hs, List.flatMap_cons, gM_same hu.symm, List.nil_append]; exact h3
        · intro p hp hz hne q hq
          rw [hs] at hp ⊢
          rcases List.mem_cons.1 hp with rfl | hp
          · exact absurd hu hne
          · exact List.mem_cons_of_mem _ (h4 p hp hz hne q hq)
      · rw [if_neg hu] at hc
        by_cases hn : nodeE a (atS qs i) = nodeE b (atS qs i)
        · rw [if_pos hn] at hc; cases hc
        · rw [if_neg hn] at hc ⊢
          by_cases hz : (atS qs i).size < 2
          · rw [if_pos hz] at hc ⊢
            have hd := ih _ ms ls (i + 1) (hmore hz) hc
            generalize stepsM a b n (qs ++ kidsOf (atS qs i)) ms ls (i + 1) = R at hd
            obtain ⟨⟨ext, h1⟩, h2, h3, h4⟩ := hd
            have hl : i < R.1.length := by rw [h1, List.length_append, List.length_append]; omega
            have ha : atS R.1 i = atS qs i := by rw [h1, List.append_assoc, atS_app qs _ i hi]
            have hs := drop_split hl
            rw [ha] at hs
            have g0 : gM a b (atS qs i) = [] := by unfold gM; rw [if_pos hz]
            have g1 : gM b a (atS qs i) = [] := by unfold gM; rw [if_pos hz]
            refine ⟨⟨kidsOf (atS qs i) ++ ext, by rw [h1, List.append_assoc]⟩, ?_, ?_, ?_⟩
            · rw [hs, List.flatMap_cons, g0, List.nil_append]; exact h2
            · rw [hs, List.flatMap_cons, g1, List.nil_append]; exact h3
            · intro p hp hz2 hne q hq
              rw [hs] at hp ⊢
              rcases List.mem_cons.1 hp with rfl | hp
              · refine List.mem_cons_of_mem _ ?_
                rw [h1, List.append_assoc, List.drop_append_of_le_length (by omega)]
                exact List.mem_append_right _ (List.mem_append_left _ hq)
              · exact List.mem_cons_of_mem _ (h4 p hp hz2 hne q hq)
          · rw [if_neg hz] at hc ⊢
            have e1 := lessU_len a b (atS qs i)
            have e2 := lessU_len b a (atS qs i)
            have hd := ih qs (ms ++ lessU a b (atS qs i)) (ls ++ lessU b a (atS qs i)) (i + 1) (hon _ _ (by rw [List.length_append]; omega) (by rw [List.length_append]; omega)) hc
            generalize stepsM a b n qs (ms ++ lessU a b (atS qs i)) (ls ++ lessU b a (atS qs i)) (i + 1) = R at hd
            obtain ⟨⟨ext, h1⟩, h2, h3, h4⟩ := hd
            have hl : i < R.1.length := by rw [h1, List.length_append]; omega
            have ha : atS R.1 i = atS qs i := by rw [h1, atS_app qs ext i hi]
            have hs := drop_split hl
            rw [ha] at hs
            have g0 : gM a b (atS qs i) = lessU a b (atS qs i) := by unfold gM; rw [if_neg hz]
            have g1 : gM b a (atS qs i) = lessU b a (atS qs i) := by unfold gM; rw [if_neg hz]
            refine ⟨⟨ext, h1⟩, ?_, ?_, ?_⟩
            · rw [hs, List.flatMap_cons, g0, ← List.append_assoc]; exact h2
            · rw [hs, List.flatMap_cons, g1, ← List.append_assoc]; exact h3
            · intro p hp hz2 hne q hq
              rw [hs] at hp ⊢
              rcases List.mem_cons.1 hp with rfl | hp
              · exact absurd hz2 hz
              · exact List.mem_cons_of_mem _ (h4 p hp hz2 hne q hq)
    · rw [if_neg hi]
      have e : qs.drop i = [] := List.drop_eq_nil_of_le (by omega)
      exact ⟨⟨[], (List.append_nil _).symm⟩, by show ms = ms ++ (qs.drop i).flatMap _; rw [e]; simp, by show ls = ls ++ (qs.drop i).flatMap _; rw [e]; simp, fun p hp => by
        have hp : p ∈ qs.drop i := hp
        rw [e] at hp; cases hp⟩
/-- How many texts are under prefixes, all told. -/
def tot (a : List ByteArray) : List ByteArray → Nat
  | [] => 0
  | p :: l => (underM a p).length + tot a l
theorem tot_append (a l m : List ByteArray) : tot a (l ++ m) = tot a l + tot a m := by
  induction l with
  | nil => simp [tot]
  | cons p l ih => rw [List.cons_append, tot, tot, ih]; omega
theorem tot_nil (l : List ByteArray) : tot [] l = 0 := by
  induction l with
  | nil => rfl
  | cons p l ih => rw [tot, ih]; rfl
theorem tot_cons (x : ByteArray) (a l : List ByteArray) : tot (x :: a) l = l.countP (fun q => startsB q x) + tot a l := by
  induction l with
  | nil => rfl
  | cons p l ih =>
    rw [tot, tot, ih, List.countP_cons]
    have e : (underM (x :: a) p).length = (underM a p).length + if startsB p x = true then 1 else 0 := by
      unfold underM
      rw [List.filter_cons]
      split
      · rw [List.length_cons]
      · rfl
    rw [e]; omega
set_option maxRecDepth 100000 in
theorem hexS_inj {i j : Nat} (hi : i < 16) (hj : j < 16) (h : (hexS i).data.toList = (hexS j).data.toList) : i = j := by
  have := (by decide : ∀ p q : Fin 16, (hexS p.1).data.toList = (hexS q.1).data.toList → p.1 = q.1) ⟨i, hi⟩ ⟨j, hj⟩ h
  exact this
theorem starts_kids {p x : ByteArray} {i j : Nat} (hi : i < 16) (hj : j < 16) (h : startsB (kid p i) x = true) (k : startsB (kid p j) x = true) : i = j := by
  simp only [startsB, beq_iff_eq, kid_size p i hi, kid_size p j hj] at h k
  rw [h, toL, toL, kid, kid, ByteArray.data_append, ByteArray.data_append, Array.toList_append, Array.toList_append] at k
  exact hexS_inj hi hj (List.append_cancel_left k)
theorem cnt_kids (p x : ByteArray) : (kidsOf p).countP (fun q => startsB q x) ≤ if startsB p x = true then 1 else 0 := by
  have key : ∀ n : Nat, n ≤ 16 → ((List.range n).map (kid p)).countP (fun q => startsB q x) ≤ if startsB p x = true then 1 else 0 := by
    intro n
    induction n with
    | zero => intro _; exact Nat.zero_le _
    | succ n ih =>
      intro hn
      rw [List.range_succ, List.map_append, List.countP_append, List.map_cons, List.map_nil, List.countP_cons, List.countP_nil]
      by_cases hk : startsB (kid p n) x = true
      · have h0 : ((List.range n).map (kid p)).countP (fun q => startsB q x) = 0 := by
          rw [List.countP_eq_zero]
          intro q hq
          obtain ⟨i, hi, rfl⟩ := List.mem_map.1 hq
          rw [List.mem_range] at hi
          intro hki
          have := starts_kids (show i < 16 by omega) (show n < 16 by omega) hki hk
          omega
        rw [h0, if_pos hk, if_pos (starts_more p _ x hk)]
        omega
      · rw [if_neg hk]
        exact ih (by omega)
  exact key 16 (Nat.le_refl _)
theorem tot_kids (a : List ByteArray) (p : ByteArray) : tot a (kidsOf p) ≤ (underM a p).length := by
  induction a with
  | nil => rw [tot_nil]; exact Nat.zero_le _
  | cons x a ih =>
    rw [tot_cons]
    have h := cnt_kids p x
    have e : (underM (x :: a) p).length = (underM a p).length + if startsB p x = true then 1 else 0 := by
      unfold underM
      rw [List.filter_cons]
      split
      · rw [List.length_cons]
      · rfl
    omega
theorem lessU_le (a b : List ByteArray) (p : ByteArray) : (lessU a b p).length ≤ (underM a p).length := List.length_filter_le _ _
theorem more_len (a b : List ByteArray) : ∀ (n : Nat) (qs ms ls : List ByteArray) (i : Nat), (stepsM a b n qs ms ls i).2.1.length ≤ ms.length + tot a (qs.drop i) ∧ (stepsM a b n qs ms ls i).2.2.length ≤ ls.length + tot b (qs.drop i) := by
  intro n
  induction n with
  | zero => intro qs ms ls i; exact ⟨Nat.le_add_right _ _, Nat.le_add_right _ _⟩
  | succ n ih =>
    intro qs ms ls i
    rw [stepsM]
    split
    · rename_i hi
      rw [drop_split hi, tot, tot]
      split
      · have := ih qs ms ls (i + 1)
        exact ⟨by omega, by omega⟩
      · split
        · have := ih (qs ++ kidsOf (atS qs i)) ms ls (i + 1)
          rw [List.drop_append_of_le_length (by omega), tot_append, tot_append] at this
          have h1 := tot_kids a (atS qs i)
          have h2 := tot_kids b (atS qs i)
          exact ⟨by omega, by omega⟩
        · have := ih qs (ms ++ lessU a b (atS qs i)) (ls ++ lessU b a (atS qs i)) (i + 1)
          rw [List.length_append, List.length_append] at this
          have h1 := lessU_le a b (atS qs i)
          have h2 := lessU_le b a (atS qs i)
          exact ⟨by omega, by omega⟩
    · exact ⟨Nat.le_add_right _ _, Nat.le_add_right _ _⟩
set_option maxRecDepth 100000 in
theorem hex_one (b : UInt8) (h : hexB (b.toNat : Int) = true) : ∃ i, i < 16 ∧ (hexS i).data.toList = [b] := by
  rw [← hexSet_is, List.contains_iff_mem] at h
  obtain ⟨i, hi, he⟩ := List.mem_iff_getElem.1 h
  have hi16 : i < 16 := hi
  refine ⟨i, hi16, ?_⟩
  have key := (by decide : ∀ q : Fin 16, (hexS q.1).data.toList = [hexSet.getD q.1 0]) ⟨i, hi16⟩
  rw [key, List.getD_eq_getElem?_getD, List.getElem?_eq_getElem hi, he]
  try rfl
theorem starts_none (d : ByteArray) : startsB (⟨#[]⟩ : ByteArray) d = true := by
  simp only [startsB, beq_iff_eq]
  rw [toL, toL, extract_data, show (⟨#[]⟩ : ByteArray).size = 0 from rfl, Nat.add_zero, Nat.sub_self, List.take_zero]
theorem kid_exists {p x : ByteArray} (hx : digestOk x = true) (hp : p.size < 2) (h : startsB p x = true) : ∃ i, i < 16 ∧ startsB (kid p i) x = true := by
  have hz := digestOk_size hx
  have hzl : x.data.toList.length = 71 := by rw [← hz]; exact Array.length_toList
  have hl : 7 + p.size < x.data.toList.length := by omega
  have hb : hexB ((x.data.toList[7 + p.size]'hl).toNat : Int) = true := by
    unfold digestOk at hx
    simp only [Bool.and_eq_true] at hx
    have h3 := hx.2.2
    rw [all_bytes] at h3
    refine List.all_eq_true.1 h3 _ ?_
    refine List.mem_iff_getElem.2 ⟨p.size, by rw [List.length_drop]; omega, ?_⟩
    rw [List.getElem_drop]
  obtain ⟨i, hi, he⟩ := hex_one _ hb
  refine ⟨i, hi, ?_⟩
  simp only [startsB, beq_iff_eq] at h ⊢
  rw [kid_size p i hi]
  rw [toL, toL, extract_data, Nat.add_sub_cancel_left] at h ⊢
  rw [kid, ByteArray.data_append, Array.toList_append, he, List.take_add_one, h, List.getElem?_drop, List.getElem?_eq_getElem hl]
  rfl
theorem mem_under {a : List ByteArray} {p x : ByteArray} : x ∈ underM a p ↔ x ∈ a ∧ startsB p x = true := List.mem_filter
theorem ne_left {a b : List ByteArray} {x : ByteArray} (ha : x ∈ a) (hb : ¬ x ∈ b) (p : ByteArray) (h : startsB p x = true) : underM a p ≠ underM b p := by
  intro e
  have : x ∈ underM b p := e ▸ mem_under.2 ⟨ha, h⟩
  exact hb (mem_under.1 this).1
theorem reach {a b : List ByteArray} {L : List ByteArray} (hk : ∀ p ∈ L, p.size < 2 → underM a p ≠ underM b p → ∀ q ∈ kidsOf p, q ∈ L) (h0 : (⟨#[]⟩ : ByteArray) ∈ L) {x : ByteArray} (hx : digestOk x = true) (hD : ∀ p, startsB p x = true → underM a p ≠ underM b p) : ∃ p ∈ L, ¬ p.size < 2 ∧ startsB p x = true := by
  have s0 := starts_none x
  obtain ⟨i, hi, s1⟩ := kid_exists hx (show (⟨#[]⟩ : ByteArray).size < 2 by decide) s0
  have m1 := hk _ h0 (by decide) (hD _ s0) (kid ⟨#[]⟩ i) (List.mem_map.2 ⟨i, List.mem_range.2 hi, rfl⟩)
  have z1 : (kid (⟨#[]⟩ : ByteArray) i).size = 1 := kid_size _ i hi
  obtain ⟨j, hj, s2⟩ := kid_exists hx (show (kid (⟨#[]⟩ : ByteArray) i).size < 2 by omega) s1
  have m2 := hk _ m1 (by omega) (hD _ s1) (kid (kid ⟨#[]⟩ i) j) (List.mem_map.2 ⟨j, List.mem_range.2 hj, rfl⟩)
  have z2 := kid_size (kid (⟨#[]⟩ : ByteArray) i) j hj
  exact ⟨_, m2, by omega, s2⟩
theorem mem_gM {a b : List ByteArray} {p x : ByteArray} : x ∈ gM a b p ↔ ¬ p.size < 2 ∧ x ∈ a ∧ startsB p x = true ∧ ¬ x ∈ b := by
  unfold gM
  by_cases hp : p.size < 2
  · rw [if_pos hp]; exact ⟨fun h => absurd h List.not_mem_nil, fun h => absurd hp h.1⟩
  · rw [if_neg hp]
    unfold lessU
    rw [List.mem_filter, mem_under, decide_eq_true_eq, mem_under]
    exact ⟨fun ⟨⟨h1, h2⟩, h3⟩ => ⟨hp, h1, h2, fun h => h3 ⟨h, h2⟩⟩, fun ⟨_, h1, h2, h3⟩ => ⟨⟨h1, h2⟩, fun h => h3 h.1⟩⟩
theorem under_none (a : List ByteArray) : underM a (⟨#[]⟩ : ByteArray) = a := List.filter_eq_self.2 (fun x _ => starts_none x)
/-- What the law says. -/
structure FoundD (a b : List ByteArray) (R : List ByteArray × List ByteArray × List ByteArray) : Prop where
  more : ∀ x ∈ a, (x ∈ R.2.1 ↔ ¬ x ∈ b)
  less : ∀ x ∈ b, (x ∈ R.2.2 ↔ ¬ x ∈ a)
  root : nodeE a (⟨#[]⟩ : ByteArray) = nodeE b (⟨#[]⟩ : ByteArray) ↔ a = b
  one : R.1.length = 1 ↔ a = b
  ml : R.2.1.length ≤ a.length
  ll : R.2.2.length ≤ b.length
theorem found (a b : List ByteArray) (ha : setOk a = true) (hb : setOk b = true) (n : Nat) (hr : Run a b [⟨#[]⟩] [] [] 0 n) (hc : clashM a b n [⟨#[]⟩] 0 = false) : FoundD a b (stepsM a b n [⟨#[]⟩] [] [] 0) := by
  have hd := done_loop a b (setOk_len ha) (setOk_len hb) n _ _ _ 0 hr hc
  have hlen := more_len a b n [⟨#[]⟩] [] [] 0
  have hn : 1 ≤ n := by
    have h1 := hr.left
    have h2 := meas_len (([⟨#[]⟩] : List ByteArray).drop 0)
    have h3 : (([⟨#[]⟩] : List ByteArray).drop 0).length = 1 := rfl
    omega
  obtain ⟨m, rfl⟩ : ∃ m, n = m + 1 := ⟨n - 1, by omega⟩
  have hat : atS [(⟨#[]⟩ : ByteArray)] 0 = ⟨#[]⟩ := rfl
  have hroot : nodeE a (⟨#[]⟩ : ByteArray) = nodeE b (⟨#[]⟩ : ByteArray) ↔ a = b := by
    constructor
    · intro h
      rw [clashM, if_pos (by decide), hat, under_none, under_none] at hc
      by_cases e : a = b
      · exact e
      · rw [if_neg e, if_pos h] at hc; cases hc
    · intro h; rw [h]
  have hsame : a = b → (stepsM a b (m + 1) [⟨#[]⟩] [] [] 0).1 = [⟨#[]⟩] := by
    intro h
    rw [stepsM, if_pos (by decide), hat, if_pos (hroot.2 h)]
    cases m with
    | zero => rfl
    | succ m => rw [stepsM, if_neg (by decide)]
  generalize stepsM a b (m + 1) [⟨#[]⟩] [] [] 0 = R at hd hlen hsame
  obtain ⟨⟨ext, h1⟩, h2, h3, h4⟩ := hd
  rw [List.drop_zero, List.nil_append] at h2 h3
  rw [List.drop_zero] at h4
  have h0 : (⟨#[]⟩ : ByteArray) ∈ R.1 := by rw [h1]; exact List.mem_append_left _ (List.mem_singleton.2 rfl)
  have hda := setOk_dig ha
  have hdb := setOk_dig hb
  refine ⟨fun x hx => ?_, fun x hx => ?_, hroot, ?_, ?_, ?_⟩
  · rw [h2, List.mem_flatMap]
    constructor
    · rintro ⟨p, _, hp⟩
      exact (mem_gM.1 hp).2.2.2
    · intro hnb
      obtain ⟨p, hp, hz, hs⟩ := reach h4 h0 (hda x hx) (ne_left hx hnb)
      exact ⟨p, hp, mem_gM.2 ⟨hz, hx, hs, hnb⟩⟩
  · rw [h3, List.mem_flatMap]
    constructor
    · rintro ⟨p, _, hp⟩
      exact (mem_gM.1 hp).2.2.2
    · intro hna
      obtain ⟨p, hp, hz, hs⟩ := reach h4 h0 (hdb x hx) (fun p hp e => ne_left hx hna p hp e.symm)
      exact ⟨p, hp, mem_gM.2 ⟨hz, hx, hs, hna⟩⟩
  · constructor
    · intro hl
      refine Decidable.byContradiction (fun hne => ?_)
      have hu : underM a (⟨#[]⟩ : ByteArray) ≠ underM b (⟨#[]⟩ : ByteArray) := by rw [under_none, under_none]; exact hne
      have hk := h4 _ h0 (by decide) hu (kid ⟨#[]⟩ 0) (List.mem_map.2 ⟨0, by decide, rfl⟩)
      rw [h1, List.length_append, List.length_singleton] at hl
      have he : ext = [] := List.length_eq_zero_iff.1 (by omega)
      rw [h1, he, List.append_nil, List.mem_singleton] at hk
      have := kid_size (⟨#[]⟩ : ByteArray) 0 (by decide)
      rw [hk] at this
      exact absurd this (by decide)
    · intro h; rw [hsame h]; rfl
  · have := hlen.1
    rw [List.drop_zero, tot, under_none, tot] at this
    exact Nat.le_trans this (by show 0 + _ ≤ _; omega)
  · have := hlen.2
    rw [List.drop_zero, tot, under_none, tot] at this
    exact Nat.le_trans this (by show 0 + _ ≤ _; omega)
set_option maxRecDepth 100000 in
theorem hex_all (i : Nat) (hi : i < 16) : (bytesOf (hexS i)).all hexB = true :=
  (by decide : ∀ q : Fin 16, (bytesOf (hexS q.1)).all hexB = true) ⟨i, hi⟩
/-- A prefix by its digits. -/
theorem pref_kid {p : ByteArray} (h : prefOk p = true) (hz : p.size < 2) (i : Nat) (hi : i < 16) : prefOk (kid p i) = true := by
  unfold prefOk at h ⊢
  simp only [Bool.and_eq_true, decide_eq_true_eq] at h ⊢
  refine ⟨by rw [kid_size p i hi]; omega, ?_⟩
  have e : bytesOf (kid p i) = bytesOf p ++ bytesOf (hexS i) := by
    unfold bytesOf
    rw [kid, ByteArray.data_append, Array.toList_append, List.map_append]
  rw [e, List.all_append, h.2, Bool.true_and]
  exact hex_all i hi
end Go.Proofs.YtoeomljkhabifaaDoor.DiffOf
