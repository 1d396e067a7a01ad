/- For every net and side the program's Cutting returns what the reference's returns, leaves the net and the side as they were, and what it returns owns its memory. No condition but that the net can be read. -/
import Derived.Test.YtcefbmcehmkpnaaQFnExactCuttingx
import Derived.Test.YtcefbmcehmkpnaaLoopsFnExactCutting
namespace Go.Proofs.Ytcefbmcehmkpnaa.Pure
open Go.RowKit Go.Proofs.Ytcefbmcehmkpnaa.QFnExactCutting Go.Proofs.YtcefbmcehmkpnaaW.PrintWords Go.Proofs.YtcefbmcehmkpnaaW.PrintLast Go.Proofs.YtcefbmcehmkpnaaW.PrintMore Go.Proofs.Ytcefbmcehmkpnaa.Bits Go.Proofs.Ytcefbmcehmkpnaa.Num Go.Proofs.Ytcefbmcehmkpnaa.Loops
set_option linter.unusedSimpArgs false
set_option linter.unusedVariables false
namespace CuttingOf
abbrev LP := S95
abbrev IP := S34
def toP (x : LP) : IP := ⟨x.f0, x.f1, x.f2, x.f3⟩
theorem rdL (xs : List LP) (i : Nat) (h : i < xs.length) : rd_T95 xs (i : Int) = xs[i] := getD_at xs i _ h
theorem rdI (xs : List IP) (i : Nat) (h : i < xs.length) : rd_T34 xs (i : Int) = xs[i] := getD_at xs i _ h
/-- What the sizes come to: less than nothing, or the list is short and its texts are. -/
theorem sz_loop (xs : List LP) (hx : ∀ x ∈ xs, x.f3.size ≤ maxLen) (hl : xs.length ≤ 1048576) (d : Nat) : ∀ (i : Nat) (left : Int), i + d = xs.length → 0 ≤ left → left ≤ 1048576 →
    ∃ r, Ev (fun k => laws_szPacketS.l0 k xs left (i : Int)) r ∧ r ≤ 1048576 ∧ (0 ≤ r → ∀ j, i ≤ j → (h : j < xs.length) → xs[j].f3.size ≤ 1048576) := by
  induction d with
  | zero =>
    intro i left hi h0 h1
    refine ⟨left, Ev.step (f := fun _ => some left) (fun k => ?_) (Ev.now _), h1, fun _ j hj h => by omega⟩
    simp only [laws_szPacketS.l0]; rw [if_neg (by omega)]
  | succ d ih =>
    intro i left hi h0 h1
    have hlt : i < xs.length := by omega
    have hs := hx _ (List.getElem_mem hlt)
    unfold maxLen at hs
    have ew : wrap64 (left - (xs[i].f3.size : Int)) = left - xs[i].f3.size := by unfold wrap64; omega
    by_cases hn : left - (xs[i].f3.size : Int) < 0
    · refine ⟨-1, Ev.step (f := fun _ => some (-1)) (fun k => ?_) (Ev.now _), by omega, fun h => absurd h (by omega)⟩
      simp only [laws_szPacketS.l0]; rw [if_pos (by omega), if_pos (by omega)]
      unfold laws_szPacket.f; rw [rdL xs i hlt, ew, if_pos hn]; simp
    · obtain ⟨r, hr, hr1, hr2⟩ := ih (i + 1) (left - xs[i].f3.size) (by omega) (by omega) (by omega)
      refine ⟨r, Ev.step (f := fun k => laws_szPacketS.l0 k xs (left - xs[i].f3.size) ((i + 1 : Nat) : Int)) (fun k => ?_) hr, hr1, fun h j hj hjl => ?_⟩
      · simp only [laws_szPacketS.l0]; rw [if_pos (by omega), if_pos (by omega)]
        unfold laws_szPacket.f; rw [rdL xs i hlt, ew, if_neg hn, wrap_nat i (by omega)]; simp only [Option.bind_some]; rw [if_neg hn]
      · by_cases e : i = j
        · subst e; omega
        · exact hr2 h j (by omega) hjl
theorem sz_ok (a : Int) (xs : List LP) (hl : xs.length ≤ maxLen) (hx : ∀ x ∈ xs, x.f3.size ≤ maxLen) :
    ∃ r, Ev (fun k => laws_szNet.f k a xs 1048576) r ∧ r ≤ 1048576 ∧ (0 ≤ r → xs.length ≤ 1048576 ∧ ∀ x ∈ xs, x.f3.size ≤ 1048576) := by
  unfold laws_szNet.f laws_szPacketS.f
  unfold maxLen at hl
  have ew : wrap64 (1048576 - (xs.length : Int)) = 1048576 - xs.length := by unfold wrap64; omega
  by_cases hn : (1048576 - (xs.length : Int)) < 0
  · refine ⟨-1, ?_, by omega, fun h => absurd h (by omega)⟩
    simp only [ew, if_pos hn, Option.bind_some]; exact Ev.now _
  · obtain ⟨r, hr, hr1, hr2⟩ := sz_loop xs hx (by omega) xs.length 0 (1048576 - xs.length) (by omega) (by omega) (by omega)
    simp only [ew, if_neg hn]
    by_cases h0 : r < 0
    · refine ⟨-1, Ev.bind hr ?_, by omega, fun h => absurd h (by omega)⟩
      simp only [if_pos h0]; exact Ev.now _
    · refine ⟨r, Ev.bind hr ?_, hr1, fun h => ⟨by omega, fun x hxm => ?_⟩⟩
      · simp only [if_neg h0]; exact Ev.now _
      · obtain ⟨j, hj, rfl⟩ := List.getElem_of_mem hxm
        exact hr2 h j (by omega) hj
theorem to_ok (a : Int) (xs : List LP) (hl : xs.length ≤ 1048576) : Ev (fun k => laws_toNet.f k a xs) (a, xs.map toP) := by
  unfold laws_toNet.f laws_toPacketS.f
  simp only [if_pos (show (0 : Int) ≤ (xs.length : Int) by omega), if_pos (show ((xs.length : Int)).toNat ≤ 7036874417766 by omega)]
  refine Ev.bind (a := xs.map toP) ?_ (Ev.now _)
  refine fill_loop xs toP (F := fun k acc i => laws_toPacketS.l0 k xs acc i) (fun i h acc ha k => ?_) (fun acc ha k => ?_) _ (by simp)
  · simp only [laws_toPacketS.l0]; rw [if_pos (by omega), if_pos (by omega)]
    unfold laws_toPacket.f; simp only [Option.bind_some]; rw [if_pos (by omega), rdL xs i h, wrap_nat i (by omega), Int.toNat_natCast]; rfl
  · simp only [laws_toPacketS.l0]; rw [if_neg (by omega)]
theorem eqP_refl (x : IP) : laws_eqPacket.f x.f0 x.f1 x.f2 x.f3 x.f0 x.f1 x.f2 x.f3 = some true := by unfold laws_eqPacket.f; simp
theorem eq_refl (a : Int) (xs : List IP) (hl : xs.length ≤ 2097152) : Ev (fun k => laws_eqNet.f k a xs a xs) true := by
  unfold laws_eqNet.f laws_eqPacketS.f
  simp only [if_true]
  refine Ev.bind (a := true) ?_ (by simp only [if_true]; exact Ev.now _)
  refine on_loop (n := xs.length) (F := fun k i => laws_eqPacketS.l0 k xs xs i) (fun i hi k => ?_) (Ev.step (f := fun _ => some true) (fun k => ?_) (Ev.now _))
  · simp only [laws_eqPacketS.l0]; rw [if_pos (by omega), if_pos (by omega), if_pos (by omega), rdI xs i hi, eqP_refl, wrap_nat i (by omega)]; rfl
  · simp only [laws_eqPacketS.l0]; rw [if_neg (by omega)]
theorem l1In_eq (a b c : Int) : spec_l1In.f a b c = some (decide (b ≤ a ∧ a ≤ c)) := by
  unfold spec_l1In.f
  by_cases h : a ≥ b
  · rw [if_pos h]; simp [h]
  · rw [if_neg h]; simp [h]
theorem in_eq (a b c : Int) : impl_in.f a b c = some (decide (b ≤ a ∧ a ≤ c)) := by
  unfold impl_in.f
  by_cases h : a ≥ b
  · rw [if_pos h]; simp [h]
  · rw [if_neg h]; simp [h]
/-- One packet at its place. -/
def pktOk (next : Int) (xs : List IP) (i : Nat) : Bool :=
  decide (1 ≤ (rd_T34 xs (i : Int)).f0 ∧ (rd_T34 xs (i : Int)).f0 ≤ wrap64 (next - 1)) &&
  (decide (1 ≤ (rd_T34 xs (i : Int)).f1 ∧ (rd_T34 xs (i : Int)).f1 ≤ 50) && (decide (1 ≤ (rd_T34 xs (i : Int)).f2 ∧ (rd_T34 xs (i : Int)).f2 ≤ 50) && decide (((rd_T34 xs (i : Int)).f3.size : Int) ≤ 20000))) &&
  (decide (i = 0) || decide (¬ (rd_T34 xs (i : Int)).f0 ≤ (rd_T34 xs ((i - 1 : Nat) : Int)).f0))
def netOk (next : Int) (xs : List IP) : Bool := decide (1 ≤ next ∧ next ≤ 1000000000000) && decide ((xs.length : Int) ≤ 300) && (List.range xs.length).all (pktOk next xs)
theorem ends_eq (a b : Int) (s : ByteArray) : spec_l8Ends.f a b s = some (decide (1 ≤ a ∧ a ≤ 50) && (decide (1 ≤ b ∧ b ≤ 50) && decide ((s.size : Int) ≤ 20000))) := by
  unfold spec_l8Ends.f
  rw [l1In_eq]; simp only [Option.bind_some]
  by_cases h1 : 1 ≤ a ∧ a ≤ 50
  · simp only [h1, and_self, decide_true, if_true]
    rw [l1In_eq]; simp only [Option.bind_some]
    by_cases h2 : 1 ≤ b ∧ b ≤ 50
    · simp only [h2, and_self, decide_true, if_true, Bool.true_and]
    · simp only [h2, decide_false, Bool.false_eq_true, if_false, Bool.false_and, Bool.true_and]
  · simp only [h1, decide_false, Bool.false_eq_true, if_false, Bool.false_and]
theorem node_eq (a : Int) : impl_isNodeId.f a = some (decide (1 ≤ a ∧ a ≤ 50)) := by unfold impl_isNodeId.f; rw [in_eq]; rfl
theorem spec_netOk (next : Int) (xs : List IP) (hl : xs.length ≤ 2097152) : Ev (fun k => spec_NetOk.f k next xs) (netOk next xs) := by
  have loop : Ev (fun k => spec_NetOk.l0 k 0 next xs) ((List.range xs.length).all (pktOk next xs)) := by
    refine all_loop (F := fun k i => spec_NetOk.l0 k i next xs) (fun i hi r hr => ?_) (Ev.step (f := fun _ => some true) (fun k => ?_) (Ev.now _))
    · have j2 : ∀ b : Bool, Ev (fun k => spec_NetOk.j2 k (i : Int) b next xs) (!b && r) := by
        intro b
        refine Ev.step (f := fun k => if b = true then some false else spec_NetOk.l0 k ((i + 1 : Nat) : Int) next xs) (fun k => by simp only [spec_NetOk.j2]; rw [wrap_nat i (by omega)]) ?_
        cases b with
        | true => exact Ev.now _
        | false => exact hr
      refine Ev.step (f := fun k => spec_NetOk.j2 k (i : Int) (!(pktOk next xs i)) next xs) (fun k => ?_) (by have := j2 (!(pktOk next xs i)); rwa [Bool.not_not] at this)
      simp only [spec_NetOk.l0]; rw [if_pos (by omega), if_pos (by omega), l1In_eq, ends_eq]; simp only [Option.bind_some]
      unfold pktOk
      by_cases h1 : 1 ≤ (rd_T34 xs (i : Int)).f0 ∧ (rd_T34 xs (i : Int)).f0 ≤ wrap64 (next - 1)
      · simp only [h1, and_self, decide_true, if_true, Bool.true_and]
        generalize hE : (decide (1 ≤ (rd_T34 xs (i : Int)).f1 ∧ (rd_T34 xs (i : Int)).f1 ≤ 50) && (decide (1 ≤ (rd_T34 xs (i : Int)).f2 ∧ (rd_T34 xs (i : Int)).f2 ≤ 50) && decide (((rd_T34 xs (i : Int)).f3.size : Int) ≤ 20000))) = E
        cases E with
        | false => simp only [Bool.false_eq_true, if_false, Bool.false_and, Bool.not_false]
        | true =>
          simp only [if_true, Bool.true_and]
          by_cases h0 : i = 0
          · subst h0; simp
          · rw [if_pos (show (i : Int) > 0 by omega), wrap_pred i (by omega) (by omega), if_pos (by omega), if_pos (by omega)]
            congr 1
            by_cases h5 : (rd_T34 xs (i : Int)).f0 ≤ (rd_T34 xs ((i - 1 : Nat) : Int)).f0 <;> simp only [h0, h5, decide_true, decide_false, not_true, not_false_eq_true, Bool.or_true, Bool.or_false, Bool.not_true, Bool.not_false]
      · simp only [h1, decide_false, Bool.false_eq_true, if_false, Bool.false_and, Bool.not_false]
    · simp only [spec_NetOk.l0]; rw [if_neg (by omega)]
  have j0 : ∀ b : Bool, Ev (fun k => spec_NetOk.j0 k b next xs) (!b && (List.range xs.length).all (pktOk next xs)) := by
    intro b
    refine Ev.step (f := fun k => if b = true then some false else spec_NetOk.l0 k 0 next xs) (fun k => by simp only [spec_NetOk.j0]) ?_
    cases b with
    | true => exact Ev.now _
    | false => exact loop
  unfold spec_NetOk.f netOk
  simp only [l1In_eq, Option.bind_some]
  by_cases h1 : 1 ≤ next ∧ next ≤ 1000000000000
  · simp only [h1, and_self, decide_true, if_true, Bool.true_and]
    have := j0 (decide ((xs.length : Int) > 300))
    rwa [show (!decide ((xs.length : Int) > 300)) = decide ((xs.length : Int) ≤ 300) by by_cases h : (xs.length : Int) ≤ 300 <;> simp [h] <;> omega] at this
  · simp only [h1, decide_false, Bool.false_eq_true, if_false, Bool.false_and]
    have := j0 true; simpa using this
theorem impl_netOk (next : Int) (xs : List IP) (hl : xs.length ≤ 2097152) : Ev (fun k => impl_isNet.f k next xs) (netOk next xs) := by
  have loop : Ev (fun k => impl_isNet.l0 k xs (xs.length : Int) 0 next xs) ((List.range xs.length).all (pktOk next xs)) := by
    refine all_loop (F := fun k i => impl_isNet.l0 k xs (xs.length : Int) i next xs) (fun i hi r hr => ?_) (Ev.step (f := fun _ => some true) (fun k => ?_) (Ev.now _))
    · have j2 : ∀ b : Bool, Ev (fun k => impl_isNet.j2 k xs (xs.length : Int) (i : Int) b next xs) (!b && r) := by
        intro b
        refine Ev.step (f := fun k => if b = true then some false else impl_isNet.l0 k xs (xs.length : Int) ((i + 1 : Nat) : Int) next xs) (fun k => by simp only [impl_isNet.j2]; rw [wrap_nat i (by omega)]) ?_
        cases b with
        | true => exact Ev.now _
        | false => exact hr
      refine Ev.step (f := fun k => impl_isNet.j2 k xs (xs.length : Int) (i : Int) (!(pktOk next xs i)) next xs) (fun k => ?_) (by have := j2 (!(pktOk next xs i)); rwa [Bool.not_not] at this)
      simp only [impl_isNet.l0]; rw [if_pos (by omega), if_pos (by omega), if_pos (by omega), in_eq, node_eq, node_eq]; simp only [Option.bind_some]
      have ends : ∀ c : Bool, (!c) = true → (if decide (1 ≤ (rd_T34 xs (i : Int)).f1 ∧ (rd_T34 xs (i : Int)).f1 ≤ 50) = true then (if decide (1 ≤ (rd_T34 xs (i : Int)).f2 ∧ (rd_T34 xs (i : Int)).f2 ≤ 50) = true then impl_isNet.j2 k xs (xs.length : Int) (i : Int) (decide (((rd_T34 xs (i : Int)).f3.size : Int) > 20000)) next xs else impl_isNet.j2 k xs (xs.length : Int) (i : Int) true next xs) else impl_isNet.j2 k xs (xs.length : Int) (i : Int) true next xs) =
          impl_isNet.j2 k xs (xs.length : Int) (i : Int) (!(decide (1 ≤ (rd_T34 xs (i : Int)).f1 ∧ (rd_T34 xs (i : Int)).f1 ≤ 50) && (decide (1 ≤ (rd_T34 xs (i : Int)).f2 ∧ (rd_T34 xs (i : Int)).f2 ≤ 50) && decide (((rd_T34 xs (i : Int)).f3.size : Int) ≤ 20000)))) next xs := by
        intro c _
        by_cases g1 : 1 ≤ (rd_T34 xs (i : Int)).f1 ∧ (rd_T34 xs (i : Int)).f1 ≤ 50
        · by_cases g2 : 1 ≤ (rd_T34 xs (i : Int)).f2 ∧ (rd_T34 xs (i : Int)).f2 ≤ 50
          · simp only [g1, g2, and_self, decide_true, if_true, Bool.true_and]
            congr 1
            by_cases h : ((rd_T34 xs (i : Int)).f3.size : Int) ≤ 20000 <;> simp [h] <;> omega
          · simp only [g1, g2, and_self, decide_true, decide_false, Bool.false_eq_true, if_true, if_false, Bool.true_and, Bool.false_and, Bool.not_false]
        · simp only [g1, decide_false, Bool.false_eq_true, if_false, Bool.false_and, Bool.not_false]
      have ends := ends false rfl
      unfold pktOk
      by_cases h1 : 1 ≤ (rd_T34 xs (i : Int)).f0 ∧ (rd_T34 xs (i : Int)).f0 ≤ wrap64 (next - 1)
      · rw [show decide (1 ≤ (rd_T34 xs (i : Int)).f0 ∧ (rd_T34 xs (i : Int)).f0 ≤ wrap64 (next - 1)) = true by simpa using h1]
        simp only [if_true, Bool.true_and]
        by_cases h0 : i = 0
        · subst h0
          rw [if_neg (show ¬ (((0 : Nat) : Int) > 0) by omega), ends]; simp
        · rw [if_pos (show (i : Int) > 0 by omega), wrap_pred i (by omega) (by omega), if_pos (by omega), if_pos (by omega)]
          by_cases h3 : (rd_T34 xs ((i - 1 : Nat) : Int)).f0 ≥ (rd_T34 xs (i : Int)).f0
          · rw [if_pos h3]
            congr 1
            simp [h0, h3]
          · rw [if_neg h3, ends]
            congr 1
            simp [h0, show ¬ (rd_T34 xs (i : Int)).f0 ≤ (rd_T34 xs ((i - 1 : Nat) : Int)).f0 from h3]
      · rw [show decide (1 ≤ (rd_T34 xs (i : Int)).f0 ∧ (rd_T34 xs (i : Int)).f0 ≤ wrap64 (next - 1)) = false by simpa using h1]
        simp only [Bool.false_eq_true, if_false, Bool.false_and, Bool.not_false]
    · simp only [impl_isNet.l0]; rw [if_neg (by omega)]
  have j0 : ∀ b : Bool, Ev (fun k => impl_isNet.j0 k b next xs) (!b && (List.range xs.length).all (pktOk next xs)) := by
    intro b
    refine Ev.step (f := fun k => if b = true then some false else impl_isNet.l0 k xs (xs.length : Int) 0 next xs) (fun k => by simp only [impl_isNet.j0]) ?_
    cases b with
    | true => exact Ev.now _
    | false => exact loop
  unfold impl_isNet.f netOk
  simp only [in_eq, Option.bind_some]
  by_cases h1 : 1 ≤ next ∧ next ≤ 1000000000000
  · simp only [h1, and_self, decide_true, if_true, Bool.true_and]
    have := j0 (decide ((xs.length : Int) > 300))
    rwa [show (!decide ((xs.length : Int) > 300)) = decide ((xs.length : Int) ≤ 300) by by_cases h : (xs.length : Int) ≤ 300 <;> simp [h] <;> omega] at this
  · simp only [h1, decide_false, Bool.false_eq_true, if_false, Bool.false_and]
    have := j0 true; simpa using this
theorem markText_loop (n : Nat) : ∀ (v : Int) (acc : ByteArray), v.toNat ≤ n → 0 ≤ v → v ≤ 4611686018427387904 → acc.size + v.toNat ≤ 4611686018427387905 → ∃ t, Ev (fun k => laws_markText.l0 k v acc) t := by
  induction n with
  | zero =>
    intro v acc hn h0 h1 hs
    refine ⟨(⟨#[109]⟩ : ByteArray) ++ acc, Ev.step (f := fun _ => some ((⟨#[109]⟩ : ByteArray) ++ acc)) (fun k => ?_) (Ev.now _)⟩
    simp only [laws_markText.l0]; rw [if_neg (by omega), if_pos (by omega)]
  | succ n ih =>
    intro v acc hn h0 h1 hs
    by_cases hv : v > 0
    · have e1 : wrap64 (Int.tdiv v 10) = v / 10 := by rw [Int.tdiv_eq_ediv_of_nonneg h0]; unfold wrap64; omega
      have sz : (strOfNums [wrap64 (48 + Int.tmod v 10) % 256]).size = 1 := by rw [size_strOfNums]; rfl
      have sz2 : (strOfNums [wrap64 (48 + Int.tmod v 10) % 256] ++ acc).size = 1 + acc.size := by rw [ByteArray.size_append, sz]
      obtain ⟨t, ht⟩ := ih (v / 10) (strOfNums [wrap64 (48 + Int.tmod v 10) % 256] ++ acc) (by omega) (by omega) (by omega) (by rw [sz2]; omega)
      refine ⟨t, Ev.step (f := fun k => laws_markText.l0 k (v / 10) (strOfNums [wrap64 (48 + Int.tmod v 10) % 256] ++ acc)) (fun k => ?_) ht⟩
      simp only [laws_markText.l0, Option.bind_some]; rw [if_pos hv, if_pos (by rw [sz]; omega), e1]
    · refine ⟨(⟨#[109]⟩ : ByteArray) ++ acc, Ev.step (f := fun _ => some ((⟨#[109]⟩ : ByteArray) ++ acc)) (fun k => ?_) (Ev.now _)⟩
      simp only [laws_markText.l0]; rw [if_neg hv, if_pos (by omega)]
/-- The text of a mark. -/
noncomputable def markT (v : Int) : ByteArray := open Classical in if h : ∃ t, Ev (fun k => laws_markText.f k v) t then Classical.choose h else ⟨#[]⟩
theorem markT_ok (v : Int) (h0 : 0 < v) (h1 : v ≤ 4611686018427387904) : Ev (fun k => laws_markText.f k v) (markT v) := by
  have h : ∃ t, Ev (fun k => laws_markText.f k v) t := by
    obtain ⟨t, ht⟩ := markText_loop v.toNat v ⟨#[]⟩ (Nat.le_refl _) (by omega) h1 (by show 0 + v.toNat ≤ _; omega)
    refine ⟨t, ?_⟩
    unfold laws_markText.f
    simp only [if_neg (show ¬ v ≤ 0 by omega)]; exact ht
  unfold markT
  rw [dif_pos h]; exact Classical.choose_spec h
noncomputable def updP (v : Int) (x : IP) : IP := ⟨v, v + 1, v + 2, markT (v + 3)⟩
theorem mark_only (a : Int) (xs : List IP) (hl : xs.length ≤ 2097152) : ∃ ys, Ev (fun k => laws_markNet.f k a xs 1) (1 + 4 * (xs.length : Int), ys) ∧ ys.length = xs.length ∧ ∀ (i : Nat) (h : i < ys.length) (h' : i < xs.length), ys[i] = updP (1 + 4 * i) xs[i] := by
  obtain ⟨ys, he, hyl, hy⟩ := mark_loop (c := 4) (upd := updP) (F := fun k acc v i => laws_markPacketS.l0 k acc v i) xs 1
    (fun i acc h ha r hr => by
      have e1 : wrap64 (1 + 4 * (i : Int) + 1) = 1 + 4 * (i : Int) + 1 := by unfold wrap64; omega
      have e2 : wrap64 (1 + 4 * (i : Int) + 1 + 1) = 1 + 4 * (i : Int) + 2 := by unfold wrap64; omega
      have e3 : wrap64 (1 + 4 * (i : Int) + 2 + 1) = 1 + 4 * (i : Int) + 3 := by unfold wrap64; omega
      have e4 : wrap64 (1 + 4 * (i : Int) + 3 + 1) = 1 + 4 * ((i + 1 : Nat) : Int) := by unfold wrap64; omega
      have hi : (i : Int) < (acc.length : Int) := by omega
      refine Ev.step (f := fun k => (laws_markText.f k (1 + 4 * (i : Int) + 3)).bind fun t => laws_markPacketS.l0 k (acc.set i ⟨1 + 4 * (i : Int), 1 + 4 * (i : Int) + 1, 1 + 4 * (i : Int) + 2, t⟩) (1 + 4 * ((i + 1 : Nat) : Int)) ((i + 1 : Nat) : Int)) (fun k => ?_) (Ev.bind (markT_ok _ (by omega) (by omega)) hr)
      have g : ∀ x : IP, rd_T34 (acc.set i x) (i : Int) = x := fun x => by
        rw [rdI _ i (by rw [List.length_set]; exact h), List.getElem_set_self]
      simp only [laws_markPacketS.l0]; rw [if_pos hi, if_pos (by omega), Int.toNat_natCast, e1, e2, e3, e4, wrap_nat i (by omega)]
      rw [Option.bind_some, g, List.set_set, Option.bind_some, g, List.set_set, Option.bind_some, g]
      simp only [List.set_set])
    (fun acc ha => Ev.step (f := fun _ => some (1 + 4 * (xs.length : Int), acc)) (fun k => by simp only [laws_markPacketS.l0]; rw [if_neg (by omega)]) (Ev.now _))
  refine ⟨ys, ?_, hyl, hy⟩
  unfold laws_markNet.f laws_markPacketS.f
  exact Ev.bind he (Ev.now _)
theorem mark_held (a : Int) (xs : List IP) (hl : xs.length ≤ 2097152) : ∃ m ys, Ev (fun k => laws_markNet.f k a xs 1) (m, ys) ∧ 1 ≤ m ∧ m ≤ 10000000 ∧ Ev (fun k => laws_heldNet.f k a ys 1) m := by
  obtain ⟨ys, he, hyl, hy⟩ := mark_only a xs hl
  refine ⟨1 + 4 * (xs.length : Int), ys, he, by omega, by omega, ?_⟩
  unfold laws_heldNet.f laws_heldPacketS.f
  refine Ev.bind (a := 1 + 4 * (xs.length : Int)) ?_ (by simp only [if_neg (show ¬ (1 + 4 * (xs.length : Int)) < 0 by omega)]; exact Ev.now _)
  refine fold_loop (n := xs.length) (F := fun k v i => laws_heldPacketS.l0 k ys v i) (st := fun i => 1 + 4 * (i : Int)) (fun i hi hr => ?_) (Ev.step (f := fun _ => some (1 + 4 * (xs.length : Int))) (fun k => ?_) (Ev.now _))
  · have hi' : i < ys.length := by omega
    have e1 : wrap64 (1 + 4 * (i : Int) + 1) = 1 + 4 * (i : Int) + 1 := by unfold wrap64; omega
    have e2 : wrap64 (1 + 4 * (i : Int) + 1 + 1) = 1 + 4 * (i : Int) + 2 := by unfold wrap64; omega
    have e3 : wrap64 (1 + 4 * (i : Int) + 2 + 1) = 1 + 4 * (i : Int) + 3 := by unfold wrap64; omega
    have e4 : wrap64 (1 + 4 * (i : Int) + 3 + 1) = 1 + 4 * ((i + 1 : Nat) : Int) := by unfold wrap64; omega
    have g := hy i hi' hi
    refine Ev.step (f := fun k => (laws_markText.f k (1 + 4 * (i : Int) + 3)).bind fun t => if (markT (1 + 4 * (i : Int) + 3)).toList = t.toList then laws_heldPacketS.l0 k ys (1 + 4 * ((i + 1 : Nat) : Int)) ((i + 1 : Nat) : Int) else some (-1)) (fun k => ?_) (Ev.bind (markT_ok _ (by omega) (by omega)) (by simp only [if_true]; exact hr))
    simp only [laws_heldPacketS.l0]; rw [if_pos (by omega), if_pos (by omega), rdI ys i hi', g]
    simp only [updP, if_true, e1, e2, e3, e4, wrap_nat i (show i < 9223372036854775807 by omega)]
  · simp only [laws_heldPacketS.l0]; rw [if_neg (by omega)]
theorem rdN (l : List Int) (i : Nat) (h : i < l.length) : rd l (i : Int) = l[i] := getD_at l i 0 h
theorem toI_ok (l : List Int) (hl : l.length ≤ 1048576) : Ev (fun k => laws_toInt64S.f k l) l := by
  unfold laws_toInt64S.f
  simp only [if_pos (show (0 : Int) ≤ (l.length : Int) by omega), if_pos (show ((l.length : Int)).toNat ≤ 35184372088832 by omega)]
  have := fill_loop l id (F := fun k acc i => laws_toInt64S.l0 k l acc i) (fun i h acc ha k => by
    simp only [laws_toInt64S.l0]; rw [if_pos (by omega), if_pos (by omega), if_pos (by omega), rdN l i h, wrap_nat i (by omega), Int.toNat_natCast]; rfl) (fun acc ha k => by
    simp only [laws_toInt64S.l0]; rw [if_neg (by omega)]) (List.replicate ((l.length : Int)).toNat 0) (by simp)
  simpa using this
theorem eqI_refl (l : List Int) (hl : l.length ≤ 2097152) : Ev (fun k => laws_eqInt64S.f k l l) true := by
  unfold laws_eqInt64S.f
  simp only [if_true]
  refine on_loop (n := l.length) (F := fun k i => laws_eqInt64S.l0 k l l i) (fun i hi k => ?_) (Ev.step (f := fun _ => some true) (fun k => ?_) (Ev.now _))
  · simp only [laws_eqInt64S.l0]; rw [if_pos (by omega), if_pos (by omega), if_pos (by omega), if_pos trivial, wrap_nat i (by omega)]
  · simp only [laws_eqInt64S.l0]; rw [if_neg (by omega)]
theorem markI_ok (l : List Int) (hl : l.length ≤ 2097152) (m : Int) (h0 : 1 ≤ m) (h1 : m ≤ 1000000000) :
    ∃ ys : List Int, Ev (fun k => laws_markInt64S.f k l m) (m + l.length, ys) ∧ ys.length = l.length ∧ ∀ (i : Nat) (h : i < ys.length), ys[i] = m + i := by
  obtain ⟨ys, he, hyl, hy⟩ := mark_loop (c := 1) (upd := fun v _ => v) (F := fun k acc v i => laws_markInt64S.l0 k acc v i) l m
    (fun i acc h ha r hr => by
      refine Ev.step (fun k => ?_) hr
      simp only [laws_markInt64S.l0]; rw [if_pos (by omega), if_pos (by omega), Int.toNat_natCast, wrap_nat i (by omega), show wrap64 (m + 1 * (i : Int) + 1) = m + 1 * ((i + 1 : Nat) : Int) by unfold wrap64; omega])
    (fun acc ha => Ev.step (f := fun _ => some (m + 1 * (l.length : Int), acc)) (fun k => by simp only [laws_markInt64S.l0]; rw [if_neg (by omega)]) (Ev.now _))
  refine ⟨ys, ?_, hyl, fun i h => ?_⟩
  · unfold laws_markInt64S.f
    rw [Int.one_mul] at he; exact he
  · rw [hy i h (by omega), Int.one_mul]
theorem any_loop {l : List Int} {x : Int} {F : Nat → Int → Option Bool} (hstep : ∀ i : Nat, (h : i < l.length) → ∀ k, F (k + 1) (i : Int) = if l[i] = x then some true else F k ((i + 1 : Nat) : Int)) (hend : ∀ k, F (k + 1) (l.length : Int) = some false) : Ev (fun k => F k 0) (l.contains x) := by
  have key : ∀ d i : Nat, i + d = l.length → Ev (fun k => F k (i : Int)) ((l.drop i).contains x) := by
    intro d
    induction d with
    | zero =>
      intro i hi
      obtain rfl : i = l.length := by omega
      rw [List.drop_length]
      exact Ev.step (f := fun _ => some false) hend (Ev.now _)
    | succ d ih =>
      intro i hi
      have hlt : i < l.length := by omega
      refine Ev.step (hstep i hlt) ?_
      rw [List.drop_eq_getElem_cons hlt, List.contains_cons]
      by_cases e : l[i] = x
      · simp only [if_pos e]; rw [show (x == l[i]) = true by simp [e], Bool.true_or]; exact Ev.now _
      · simp only [if_neg e]; rw [show (x == l[i]) = false by simp only [beq_eq_false_iff_ne]; exact fun h => e h.symm, Bool.false_or]; exact ih (i + 1) (by omega)
  simpa using key l.length 0 (by omega)
theorem spec_has (l : List Int) (x : Int) (hl : l.length ≤ 2097152) : Ev (fun k => spec_l1Ints.f k l x) (l.contains x) := by
  unfold spec_l1Ints.f
  refine any_loop (F := fun k i => spec_l1Ints.l0 k l x i) (fun i h k => ?_) (fun k => ?_)
  · simp only [spec_l1Ints.l0]; rw [if_pos (by omega), if_pos (by omega), rdN l i h, wrap_nat i (by omega)]
  · simp only [spec_l1Ints.l0]; rw [if_neg (by omega)]
theorem impl_has (l : List Int) (x : Int) (hl : l.length ≤ 2097152) : Ev (fun k => slices_Contains_int64_int64.f k l x) (l.contains x) := by
  have key : ∀ d i : Nat, i + d = l.length → ∃ r, Ev (fun k => slices_Index_int64_int64.l0 k l x (l.length : Int) (i : Int)) r ∧ decide (r ≥ 0) = (l.drop i).contains x := by
    intro d
    induction d with
    | zero =>
      intro i hi
      obtain rfl : i = l.length := by omega
      rw [List.drop_length]
      exact ⟨-1, Ev.step (f := fun _ => some (-1)) (fun k => by simp only [slices_Index_int64_int64.l0]; rw [if_neg (by omega)]) (Ev.now _), rfl⟩
    | succ d ih =>
      intro i hi
      have hlt : i < l.length := by omega
      rw [List.drop_eq_getElem_cons hlt, List.contains_cons]
      by_cases e : x = l[i]
      · refine ⟨(i : Int), Ev.step (f := fun _ => some (i : Int)) (fun k => ?_) (Ev.now _), ?_⟩
        · simp only [slices_Index_int64_int64.l0]; rw [if_pos (by omega), if_pos (by omega), if_pos (by omega), rdN l i hlt, if_pos e]
        · rw [show (x == l[i]) = true by simpa using e, Bool.true_or]; simp
      · obtain ⟨r, hr, h2⟩ := ih (i + 1) (by omega)
        refine ⟨r, Ev.step (fun k => ?_) hr, ?_⟩
        · simp only [slices_Index_int64_int64.l0]; rw [if_pos (by omega), if_pos (by omega), if_pos (by omega), rdN l i hlt, if_neg e, wrap_nat i (by omega)]
        · rw [h2, show (x == l[i]) = false by simpa using e, Bool.false_or]
  obtain ⟨r, hr, h2⟩ := key l.length 0 (by omega)
  unfold slices_Contains_int64_int64.f slices_Index_int64_int64.f
  have := Ev.bind (f := fun _ t => some (decide (t ≥ 0))) hr (Ev.now (decide (r ≥ 0)))
  rw [h2] at this
  simpa using this
def stays (side : List Int) (p : IP) : Bool := side.contains p.f1 == side.contains p.f2
def cuttingM (n : Int) (xs : List IP) (side : List Int) : Int × List IP × Int :=
  if netOk n xs = true then (n, xs.filter (stays side), (xs.length : Int) - ((xs.filter (stays side)).length : Int)) else (0, [], -1)
theorem filter_snoc (side : List Int) (xs : List IP) (i : Nat) (h : i < xs.length) : (xs.take (i + 1)).filter (stays side) = (xs.take i).filter (stays side) ++ if stays side xs[i] = true then [xs[i]] else [] := by
  rw [List.take_succ_eq_append_getElem h, List.filter_append]
  congr 1
  by_cases e : stays side xs[i] = true <;> simp [List.filter_cons, e]
theorem filter_short (side : List Int) (xs : List IP) (i : Nat) : ((xs.take i).filter (stays side)).length ≤ xs.length :=
  Nat.le_trans (List.length_filter_le _ _) (by rw [List.length_take]; omega)
theorem spec_cut (n : Int) (xs : List IP) (side : List Int) (hl : xs.length ≤ 1048576) (hs : side.length ≤ 2097152) : Ev (fun k => spec_Cutting.f k n xs side) (cuttingM n xs side) := by
  unfold spec_Cutting.f cuttingM
  refine Ev.bind (spec_netOk n xs (by omega)) ?_
  cases netOk n xs with
  | false => exact Ev.now _
  | true =>
    simp only [if_true]
    have := fold_loop (n := xs.length) (F := fun k st i => spec_Cutting.l0 k side i n xs n st) (st := fun i => (xs.take i).filter (stays side)) (r := (n, xs.filter (stays side), (xs.length : Int) - ((xs.filter (stays side)).length : Int))) (fun i hi hr => by
      refine Ev.step (f := fun k => (spec_l1Ints.f k side xs[i].f1).bind fun t => (spec_l1Ints.f k side xs[i].f2).bind fun u => if (t == u) = true then spec_Cutting.l0 k side ((i + 1 : Nat) : Int) n xs n ((xs.take i).filter (stays side) ++ [xs[i]]) else spec_Cutting.l0 k side ((i + 1 : Nat) : Int) n xs n ((xs.take i).filter (stays side))) (fun k => ?_) (Ev.bind (spec_has side _ hs) (Ev.bind (spec_has side _ hs) ?_))
      · have := filter_short side xs i
        simp only [spec_Cutting.l0]; rw [if_pos (by omega), if_pos (by omega), rdI xs i hi, wrap_nat i (by omega), if_pos (by omega)]
      · simp only [filter_snoc side xs i hi] at hr
        by_cases e : stays side xs[i] = true
        · simp only [if_pos e] at hr
          unfold stays at e; simp only [if_pos e]; exact hr
        · simp only [if_neg e, List.append_nil] at hr
          unfold stays at e; simp only [if_neg e]; exact hr) (by
      refine Ev.step (f := fun _ => some (n, xs.filter (stays side), (xs.length : Int) - ((xs.filter (stays side)).length : Int))) (fun k => ?_) (Ev.now _)
      have := filter_short side xs xs.length
      simp only [spec_Cutting.l0, List.take_length] at *; rw [if_neg (by omega)]
      congr 3
      unfold wrap64; omega)
    simpa using this
theorem impl_cut (n : Int) (xs : List IP) (side : List Int) (hl : xs.length ≤ 1048576) (hs : side.length ≤ 2097152) : Ev (fun k => impl_Cutting.f k n xs side) (cuttingM n xs side) := by
  unfold impl_Cutting.f cuttingM
  refine Ev.bind (impl_netOk n xs (by omega)) ?_
  cases netOk n xs with
  | false => exact Ev.now _
  | true =>
    simp only [if_true]
    have := fold_loop (n := xs.length) (F := fun k st i => impl_Cutting.l0 k side xs (xs.length : Int) i n xs n st) (st := fun i => (xs.take i).filter (stays side)) (r := (n, xs.filter (stays side), (xs.length : Int) - ((xs.filter (stays side)).length : Int))) (fun i hi hr => by
      refine Ev.step (f := fun k => (slices_Contains_int64_int64.f k side xs[i].f1).bind fun t => (slices_Contains_int64_int64.f k side xs[i].f2).bind fun u => if (t == u) = true then impl_Cutting.l0 k side xs (xs.length : Int) ((i + 1 : Nat) : Int) n xs n ((xs.take i).filter (stays side) ++ [xs[i]]) else impl_Cutting.l0 k side xs (xs.length : Int) ((i + 1 : Nat) : Int) n xs n ((xs.take i).filter (stays side))) (fun k => ?_) (Ev.bind (impl_has side _ hs) (Ev.bind (impl_has side _ hs) ?_))
      · have := filter_short side xs i
        simp only [impl_Cutting.l0]; rw [if_pos (by omega), if_pos (by omega), if_pos (by omega), rdI xs i hi, wrap_nat i (by omega), if_pos (by omega)]
      · simp only [filter_snoc side xs i hi] at hr
        by_cases e : stays side xs[i] = true
        · simp only [if_pos e] at hr
          unfold stays at e; simp only [if_pos e]; exact hr
        · simp only [if_neg e, List.append_nil] at hr
          unfold stays at e; simp only [if_neg e]; exact hr) (by
      refine Ev.step (f := fun _ => some (n, xs.filter (stays side), (xs.length : Int) - ((xs.filter (stays side)).length : Int))) (fun k => ?_) (Ev.now _)
      have := filter_short side xs xs.length
      simp only [impl_Cutting.l0, List.take_length] at *; rw [if_neg (by omega)]
      congr 3
      unfold wrap64; omega)
    simpa using this
theorem cuttingM_len (n : Int) (xs : List IP) (side : List Int) : (cuttingM n xs side).2.1.length ≤ xs.length := by
  unfold cuttingM; split
  · exact List.length_filter_le _ _
  · simp
end CuttingOf
open CuttingOf

theorem FnExactCutting : laws_FnExactCutting.Pure := by
  intro n xs side _ hx _
  refine Ev.rounds (g := fun k => laws_FnExactCutting.f k n xs side) ?_
  unfold laws_FnExactCutting.f
  by_cases hs : (side.length : Int) > 1048576
  · simp only [if_pos hs]; exact Ev.now _
  simp only [if_neg hs]
  obtain ⟨r, hr, _, hr2⟩ := sz_ok n xs hx.1 (fun x h => (hx.2 x h).2.2.2)
  refine Ev.bind hr ?_
  by_cases h0 : r < 0
  · simp only [if_pos h0]; exact Ev.now _
  simp only [if_neg h0]
  obtain ⟨hl, _⟩ := hr2 (by omega)
  have ht := to_ok n xs hl
  have hti := toI_ok side (by omega)
  have hm : (xs.map toP).length ≤ 1048576 := by rw [List.length_map]; omega
  have hspec := spec_cut n (xs.map toP) side hm (by omega)
  have himpl := impl_cut n (xs.map toP) side hm (by omega)
  have hlen := cuttingM_len n (xs.map toP) side
  generalize cuttingM n (xs.map toP) side = P at hspec himpl hlen
  obtain ⟨p1, p2, p3⟩ := P
  have he := eq_refl p1 p2 (by simp only at hlen; omega)
  obtain ⟨m1, y1, hm1, hm1p, hm1q, _⟩ := mark_held n (xs.map toP) (by omega)
  obtain ⟨y3, hm3, _, _⟩ := markI_ok side (by omega) m1 (by omega) (by omega)
  obtain ⟨m2, y2, hm2, hm2p, _, hh2⟩ := mark_held p1 p2 (by simp only at hlen; omega)
  refine Ev.bind ht (Ev.bind hti (Ev.bind hspec (Ev.bind ht (Ev.bind hti (Ev.bind himpl (Ev.bind he ?_))))))
  simp only [if_true, bne_self_eq_false]
  refine Ev.step (f := fun k => _) (fun k => by simp only [laws_FnExactCutting.j0, Bool.false_eq_true, if_false]; rfl) ?_
  refine Ev.bind ht (Ev.bind (eq_refl n _ (by omega)) ?_)
  simp only [if_true]
  refine Ev.bind hti (Ev.bind (eqI_refl side (by omega)) ?_)
  simp only [if_true]
  refine Ev.bind hm1 (Ev.bind hm3 ?_)
  simp only [if_neg (show ¬ m1 + (side.length : Int) < 0 by omega)]
  refine Ev.bind he ?_
  simp only [if_true, bne_self_eq_false]
  refine Ev.step (f := fun k => _) (fun k => by simp only [laws_FnExactCutting.j1, Bool.false_eq_true, if_false]; rfl) ?_
  refine Ev.bind hm2 (Ev.bind hh2 ?_)
  simp only [if_neg (show ¬ m2 < 0 by omega), if_true]
  refine Ev.bind ht (Ev.bind hti (Ev.bind himpl (Ev.bind he ?_)))
  simp only [if_true, bne_self_eq_false]
  refine Ev.step (f := fun k => _) (fun k => by simp only [laws_FnExactCutting.j2, Bool.false_eq_true, if_false]; rfl) ?_
  refine Ev.bind hh2 ?_
  simp only [if_neg (show ¬ m2 < 0 by omega), if_true]; exact Ev.now _

end Go.Proofs.Ytcefbmcehmkpnaa.Pure
