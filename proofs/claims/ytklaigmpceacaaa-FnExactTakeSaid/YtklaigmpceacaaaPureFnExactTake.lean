/- For every net, number and wish to keep the program's Take returns what the reference's returns, leaves the net as it was, and what it returns owns its memory. No condition but that the net can be read. -/
import Derived.Test.YtklaigmpceacaaaQFnExactTakex
import Derived.Test.YtklaigmpceacaaaLoopsFnExactTake
namespace Go.Proofs.Ytklaigmpceacaaa.Pure
open Go.RowKit Go.Proofs.Ytklaigmpceacaaa.QFnExactTake Go.Proofs.YtklaigmpceacaaaW.PrintWords Go.Proofs.YtklaigmpceacaaaW.PrintLast Go.Proofs.YtklaigmpceacaaaW.PrintMore Go.Proofs.Ytklaigmpceacaaa.Bits Go.Proofs.Ytklaigmpceacaaa.Num Go.Proofs.Ytklaigmpceacaaa.Loops
set_option linter.unusedSimpArgs false
set_option linter.unusedVariables false
namespace TakeOf
abbrev LP := S88
abbrev IP := S39
def toP (x : LP) : IP := ⟨x.f0, x.f1, x.f2, x.f3⟩
theorem rdL (xs : List LP) (i : Nat) (h : i < xs.length) : rd_T88 xs (i : Int) = xs[i] := getD_at xs i _ h
theorem rdI (xs : List IP) (i : Nat) (h : i < xs.length) : rd_T39 xs (i : Int) = xs[i] := getD_at xs i _ h
/-- What the sizes come to: less than nothing, or the list is short and its texts are. -/
theorem sz_loop (xs : List LP) (hx : ∀ x ∈ xs, x.f3.size ≤ maxLen) (hl : xs.length ≤ 1048576) (d : Nat) : ∀ (i : Nat) (left : Int), i + d = xs.length → 0 ≤ left → left ≤ 1048576 →
    ∃ r, Ev (fun k => laws_szPacketS.l0 k xs left (i : Int)) r ∧ r ≤ 1048576 ∧ (0 ≤ r → ∀ j, i ≤ j → (h : j < xs.length) → xs[j].f3.size ≤ 1048576) := by
  induction d with
  | zero =>
    intro i left hi h0 h1
    refine ⟨left, Ev.step (f := fun _ => some left) (fun k => ?_) (Ev.now _), h1, fun _ j hj h => by omega⟩
    simp only [laws_szPacketS.l0]; rw [if_neg (by omega)]
  | succ d ih =>
    intro i left hi h0 h1
    have hlt : i < xs.length := by omega
    have hs := hx _ (List.getElem_mem hlt)
    unfold maxLen at hs
    have ew : wrap64 (left - (xs[i].f3.size : Int)) = left - xs[i].f3.size := by unfold wrap64; omega
    by_cases hn : left - (xs[i].f3.size : Int) < 0
    · refine ⟨-1, Ev.step (f := fun _ => some (-1)) (fun k => ?_) (Ev.now _), by omega, fun h => absurd h (by omega)⟩
      simp only [laws_szPacketS.l0]; rw [if_pos (by omega), if_pos (by omega)]
      unfold laws_szPacket.f; rw [rdL xs i hlt, ew, if_pos hn]; simp
    · obtain ⟨r, hr, hr1, hr2⟩ := ih (i + 1) (left - xs[i].f3.size) (by omega) (by omega) (by omega)
      refine ⟨r, Ev.step (f := fun k => laws_szPacketS.l0 k xs (left - xs[i].f3.size) ((i + 1 : Nat) : Int)) (fun k => ?_) hr, hr1, fun h j hj hjl => ?_⟩
      · simp only [laws_szPacketS.l0]; rw [if_pos (by omega), if_pos (by omega)]
        unfold laws_szPacket.f; rw [rdL xs i hlt, ew, if_neg hn, wrap_nat i (by omega)]; simp only [Option.bind_some]; rw [if_neg hn]
      · by_cases e : i = j
        · subst e; omega
        · exact hr2 h j (by omega) hjl
theorem sz_ok (a : Int) (xs : List LP) (hl : xs.length ≤ maxLen) (hx : ∀ x ∈ xs, x.f3.size ≤ maxLen) :
    ∃ r, Ev (fun k => laws_szNet.f k a xs 1048576) r ∧ r ≤ 1048576 ∧ (0 ≤ r → xs.length ≤ 1048576 ∧ ∀ x ∈ xs, x.f3.size ≤ 1048576) := by
  unfold laws_szNet.f laws_szPacketS.f
  unfold maxLen at hl
  have ew : wrap64 (1048576 - (xs.length : Int)) = 1048576 - xs.length := by unfold wrap64; omega
  by_cases hn : (1048576 - (xs.length : Int)) < 0
  · refine ⟨-1, ?_, by omega, fun h => absurd h (by omega)⟩
    simp only [ew, if_pos hn, Option.bind_some]; exact Ev.now _
  · obtain ⟨r, hr, hr1, hr2⟩ := sz_loop xs hx (by omega) xs.length 0 (1048576 - xs.length) (by omega) (by omega) (by omega)
    simp only [ew, if_neg hn]
    by_cases h0 : r < 0
    · refine ⟨-1, Ev.bind hr ?_, by omega, fun h => absurd h (by omega)⟩
      simp only [if_pos h0]; exact Ev.now _
    · refine ⟨r, Ev.bind hr ?_, hr1, fun h => ⟨by omega, fun x hxm => ?_⟩⟩
      · simp only [if_neg h0]; exact Ev.now _
      · obtain ⟨j, hj, rfl⟩ := List.getElem_of_mem hxm
        exact hr2 h j (by omega) hj
theorem to_ok (a : Int) (xs : List LP) (hl : xs.length ≤ 1048576) : Ev (fun k => laws_toNet.f k a xs) (a, xs.map toP) := by
  unfold laws_toNet.f laws_toPacketS.f
  simp only [if_pos (show (0 : Int) ≤ (xs.length : Int) by omega), if_pos (show ((xs.length : Int)).toNat ≤ 7036874417766 by omega)]
  refine Ev.bind (a := xs.map toP) ?_ (Ev.now _)
  refine fill_loop xs toP (F := fun k acc i => laws_toPacketS.l0 k xs acc i) (fun i h acc ha k => ?_) (fun acc ha k => ?_) _ (by simp)
  · simp only [laws_toPacketS.l0]; rw [if_pos (by omega), if_pos (by omega)]
    unfold laws_toPacket.f; simp only [Option.bind_some]; rw [if_pos (by omega), rdL xs i h, wrap_nat i (by omega), Int.toNat_natCast]; rfl
  · simp only [laws_toPacketS.l0]; rw [if_neg (by omega)]
theorem eqP_refl (x : IP) : laws_eqPacket.f x.f0 x.f1 x.f2 x.f3 x.f0 x.f1 x.f2 x.f3 = some true := by unfold laws_eqPacket.f; simp
theorem eq_refl (a : Int) (xs : List IP) (hl : xs.length ≤ 2097152) : Ev (fun k => laws_eqNet.f k a xs a xs) true := by
  unfold laws_eqNet.f laws_eqPacketS.f
  simp only [if_true]
  refine Ev.bind (a := true) ?_ (by simp only [if_true]; exact Ev.now _)
  refine on_loop (n := xs.length) (F := fun k i => laws_eqPacketS.l0 k xs xs i) (fun i hi k => ?_) (Ev.step (f := fun _ => some true) (fun k => ?_) (Ev.now _))
  · simp only [laws_eqPacketS.l0]; rw [if_pos (by omega), if_pos (by omega), if_pos (by omega), rdI xs i hi, eqP_refl, wrap_nat i (by omega)]; rfl
  · simp only [laws_eqPacketS.l0]; rw [if_neg (by omega)]
theorem l1In_eq (a b c : Int) : spec_l1In.f a b c = some (decide (b ≤ a ∧ a ≤ c)) := by
  unfold spec_l1In.f
  by_cases h : a ≥ b
  · rw [if_pos h]; simp [h]
  · rw [if_neg h]; simp [h]
theorem in_eq (a b c : Int) : impl_in.f a b c = some (decide (b ≤ a ∧ a ≤ c)) := by
  unfold impl_in.f
  by_cases h : a ≥ b
  · rw [if_pos h]; simp [h]
  · rw [if_neg h]; simp [h]
/-- One packet at its place. -/
def pktOk (next : Int) (xs : List IP) (i : Nat) : Bool :=
  decide (1 ≤ (rd_T39 xs (i : Int)).f0 ∧ (rd_T39 xs (i : Int)).f0 ≤ wrap64 (next - 1)) &&
  (decide (1 ≤ (rd_T39 xs (i : Int)).f1 ∧ (rd_T39 xs (i : Int)).f1 ≤ 50) && (decide (1 ≤ (rd_T39 xs (i : Int)).f2 ∧ (rd_T39 xs (i : Int)).f2 ≤ 50) && decide (((rd_T39 xs (i : Int)).f3.size : Int) ≤ 20000))) &&
  (decide (i = 0) || decide (¬ (rd_T39 xs (i : Int)).f0 ≤ (rd_T39 xs ((i - 1 : Nat) : Int)).f0))
def netOk (next : Int) (xs : List IP) : Bool := decide (1 ≤ next ∧ next ≤ 1000000000000) && decide ((xs.length : Int) ≤ 300) && (List.range xs.length).all (pktOk next xs)
theorem ends_eq (a b : Int) (s : ByteArray) : spec_l8Ends.f a b s = some (decide (1 ≤ a ∧ a ≤ 50) && (decide (1 ≤ b ∧ b ≤ 50) && decide ((s.size : Int) ≤ 20000))) := by
  unfold spec_l8Ends.f
  rw [l1In_eq]; simp only [Option.bind_some]
  by_cases h1 : 1 ≤ a ∧ a ≤ 50
  · simp only [h1, and_self, decide_true, if_true]
    rw [l1In_eq]; simp only [Option.bind_some]
    by_cases h2 : 1 ≤ b ∧ b ≤ 50
    · simp only [h2, and_self, decide_true, if_true, Bool.true_and]
    · simp only [h2, decide_false, Bool.false_eq_true, if_false, Bool.false_and, Bool.true_and]
  · simp only [h1, decide_false, Bool.false_eq_true, if_false, Bool.false_and]
theorem node_eq (a : Int) : impl_isNodeId.f a = some (decide (1 ≤ a ∧ a ≤ 50)) := by unfold impl_isNodeId.f; rw [in_eq]; rfl
theorem spec_netOk (next : Int) (xs : List IP) (hl : xs.length ≤ 2097152) : Ev (fun k => spec_NetOk.f k next xs) (netOk next xs) := by
  have loop : Ev (fun k => spec_NetOk.l0 k 0 next xs) ((List.range xs.length).all (pktOk next xs)) := by
    refine all_loop (F := fun k i => spec_NetOk.l0 k i next xs) (fun i hi r hr => ?_) (Ev.step (f := fun _ => some true) (fun k => ?_) (Ev.now _))
    · have j2 : ∀ b : Bool, Ev (fun k => spec_NetOk.j2 k (i : Int) b next xs) (!b && r) := by
        intro b
        refine Ev.step (f := fun k => if b = true then some false else spec_NetOk.l0 k ((i + 1 : Nat) : Int) next xs) (fun k => by simp only [spec_NetOk.j2]; rw [wrap_nat i (by omega)]) ?_
        cases b with
        | true => exact Ev.now _
        | false => exact hr
      refine Ev.step (f := fun k => spec_NetOk.j2 k (i : Int) (!(pktOk next xs i)) next xs) (fun k => ?_) (by have := j2 (!(pktOk next xs i)); rwa [Bool.not_not] at this)
      simp only [spec_NetOk.l0]; rw [if_pos (by omega), if_pos (by omega), l1In_eq, ends_eq]; simp only [Option.bind_some]
      unfold pktOk
      by_cases h1 : 1 ≤ (rd_T39 xs (i : Int)).f0 ∧ (rd_T39 xs (i : Int)).f0 ≤ wrap64 (next - 1)
      · simp only [h1, and_self, decide_true, if_true, Bool.true_and]
        generalize hE : (decide (1 ≤ (rd_T39 xs (i : Int)).f1 ∧ (rd_T39 xs (i : Int)).f1 ≤ 50) && (decide (1 ≤ (rd_T39 xs (i : Int)).f2 ∧ (rd_T39 xs (i : Int)).f2 ≤ 50) && decide (((rd_T39 xs (i : Int)).f3.size : Int) ≤ 20000))) = E
        cases E with
        | false => simp only [Bool.false_eq_true, if_false, Bool.false_and, Bool.not_false]
        | true =>
          simp only [if_true, Bool.true_and]
          by_cases h0 : i = 0
          · subst h0; simp
          · rw [if_pos (show (i : Int) > 0 by omega), wrap_pred i (by omega) (by omega), if_pos (by omega), if_pos (by omega)]
            congr 1
            by_cases h5 : (rd_T39 xs (i : Int)).f0 ≤ (rd_T39 xs ((i - 1 : Nat) : Int)).f0 <;> simp only [h0, h5, decide_true, decide_false, not_true, not_false_eq_true, Bool.or_true, Bool.or_false, Bool.not_true, Bool.not_false]
      · simp only [h1, decide_false, Bool.false_eq_true, if_false, Bool.false_and, Bool.not_false]
    · simp only [spec_NetOk.l0]; rw [if_neg (by omega)]
  have j0 : ∀ b : Bool, Ev (fun k => spec_NetOk.j0 k b next xs) (!b && (List.range xs.length).all (pktOk next xs)) := by
    intro b
    refine Ev.step (f := fun k => if b = true then some false else spec_NetOk.l0 k 0 next xs) (fun k => by simp only [spec_NetOk.j0]) ?_
    cases b with
    | true => exact Ev.now _
    | false => exact loop
  unfold spec_NetOk.f netOk
  simp only [l1In_eq, Option.bind_some]
  by_cases h1 : 1 ≤ next ∧ next ≤ 1000000000000
  · simp only [h1, and_self, decide_true, if_true, Bool.true_and]
    have := j0 (decide ((xs.length : Int) > 300))
    rwa [show (!decide ((xs.length : Int) > 300)) = decide ((xs.length : Int) ≤ 300) by by_cases h : (xs.length : Int) ≤ 300 <;> simp [h] <;> omega] at this
  · simp only [h1, decide_false, Bool.false_eq_true, if_false, Bool.false_and]
    have := j0 true; simpa using this
theorem impl_netOk (next : Int) (xs : List IP) (hl : xs.length ≤ 2097152) : Ev (fun k => impl_isNet.f k next xs) (netOk next xs) := by
  have loop : Ev (fun k => impl_isNet.l0 k xs (xs.length : Int) 0 next xs) ((List.range xs.length).all (pktOk next xs)) := by
    refine all_loop (F := fun k i => impl_isNet.l0 k xs (xs.length : Int) i next xs) (fun i hi r hr => ?_) (Ev.step (f := fun _ => some true) (fun k => ?_) (Ev.now _))
    · have j2 : ∀ b : Bool, Ev (fun k => impl_isNet.j2 k xs (xs.length : Int) (i : Int) b next xs) (!b && r) := by
        intro b
        refine Ev.step (f := fun k => if b = true then some false else impl_isNet.l0 k xs (xs.length : Int) ((i + 1 : Nat) : Int) next xs) (fun k => by simp only [impl_isNet.j2]; rw [wrap_nat i (by omega)]) ?_
        cases b with
        | true => exact Ev.now _
        | false => exact hr
      refine Ev.step (f := fun k => impl_isNet.j2 k xs (xs.length : Int) (i : Int) (!(pktOk next xs i)) next xs) (fun k => ?_) (by have := j2 (!(pktOk next xs i)); rwa [Bool.not_not] at this)
      simp only [impl_isNet.l0]; rw [if_pos (by omega), if_pos (by omega), if_pos (by omega), in_eq, node_eq, node_eq]; simp only [Option.bind_some]
      have ends : ∀ c : Bool, (!c) = true → (if decide (1 ≤ (rd_T39 xs (i : Int)).f1 ∧ (rd_T39 xs (i : Int)).f1 ≤ 50) = true then (if decide (1 ≤ (rd_T39 xs (i : Int)).f2 ∧ (rd_T39 xs (i : Int)).f2 ≤ 50) = true then impl_isNet.j2 k xs (xs.length : Int) (i : Int) (decide (((rd_T39 xs (i : Int)).f3.size : Int) > 20000)) next xs else impl_isNet.j2 k xs (xs.length : Int) (i : Int) true next xs) else impl_isNet.j2 k xs (xs.length : Int) (i : Int) true next xs) =
          impl_isNet.j2 k xs (xs.length : Int) (i : Int) (!(decide (1 ≤ (rd_T39 xs (i : Int)).f1 ∧ (rd_T39 xs (i : Int)).f1 ≤ 50) && (decide (1 ≤ (rd_T39 xs (i : Int)).f2 ∧ (rd_T39 xs (i : Int)).f2 ≤ 50) && decide (((rd_T39 xs (i : Int)).f3.size : Int) ≤ 20000)))) next xs := by
        intro c _
        by_cases g1 : 1 ≤ (rd_T39 xs (i : Int)).f1 ∧ (rd_T39 xs (i : Int)).f1 ≤ 50
        · by_cases g2 : 1 ≤ (rd_T39 xs (i : Int)).f2 ∧ (rd_T39 xs (i : Int)).f2 ≤ 50
          · simp only [g1, g2, and_self, decide_true, if_true, Bool.true_and]
            congr 1
            by_cases h : ((rd_T39 xs (i : Int)).f3.size : Int) ≤ 20000 <;> simp [h] <;> omega
          · simp only [g1, g2, and_self, decide_true, decide_false, Bool.false_eq_true, if_true, if_false, Bool.true_and, Bool.false_and, Bool.not_false]
        · simp only [g1, decide_false, Bool.false_eq_true, if_false, Bool.false_and, Bool.not_false]
      have ends := ends false rfl
      unfold pktOk
      by_cases h1 : 1 ≤ (rd_T39 xs (i : Int)).f0 ∧ (rd_T39 xs (i : Int)).f0 ≤ wrap64 (next - 1)
      · rw [show decide (1 ≤ (rd_T39 xs (i : Int)).f0 ∧ (rd_T39 xs (i : Int)).f0 ≤ wrap64 (next - 1)) = true by simpa using h1]
        simp only [if_true, Bool.true_and]
        by_cases h0 : i = 0
        · subst h0
          rw [if_neg (show ¬ (((0 : Nat) : Int) > 0) by omega), ends]; simp
        · rw [if_pos (show (i : Int) > 0 by omega), wrap_pred i (by omega) (by omega), if_pos (by omega), if_pos (by omega)]
          by_cases h3 : (rd_T39 xs ((i - 1 : Nat) : Int)).f0 ≥ (rd_T39 xs (i : Int)).f0
          · rw [if_pos h3]
            congr 1
            simp [h0, h3]
          · rw [if_neg h3, ends]
            congr 1
            simp [h0, show ¬ (rd_T39 xs (i : Int)).f0 ≤ (rd_T39 xs ((i - 1 : Nat) : Int)).f0 from h3]
      · rw [show decide (1 ≤ (rd_T39 xs (i : Int)).f0 ∧ (rd_T39 xs (i : Int)).f0 ≤ wrap64 (next - 1)) = false by simpa using h1]
        simp only [Bool.false_eq_true, if_false, Bool.false_and, Bool.not_false]
    · simp only [impl_isNet.l0]; rw [if_neg (by omega)]
  have j0 : ∀ b : Bool, Ev (fun k => impl_isNet.j0 k b next xs) (!b && (List.range xs.length).all (pktOk next xs)) := by
    intro b
    refine Ev.step (f := fun k => if b = true then some false else impl_isNet.l0 k xs (xs.length : Int) 0 next xs) (fun k => by simp only [impl_isNet.j0]) ?_
    cases b with
    | true => exact Ev.now _
    | false => exact loop
  unfold impl_isNet.f netOk
  simp only [in_eq, Option.bind_some]
  by_cases h1 : 1 ≤ next ∧ next ≤ 1000000000000
  · simp only [h1, and_self, decide_true, if_true, Bool.true_and]
    have := j0 (decide ((xs.length : Int) > 300))
    rwa [show (!decide ((xs.length : Int) > 300)) = decide ((xs.length : Int) ≤ 300) by by_cases h : (xs.length : Int) ≤ 300 <;> simp [h] <;> omega] at this
  · simp only [h1, decide_false, Bool.false_eq_true, if_false, Bool.false_and]
    have := j0 true; simpa using this
theorem markText_loop (n : Nat) : ∀ (v : Int) (acc : ByteArray), v.toNat ≤ n → 0 ≤ v → v ≤ 4611686018427387904 → acc.size + v.toNat ≤ 4611686018427387905 → ∃ t, Ev (fun k => laws_markText.l0 k v acc) t := by
  induction n with
  | zero =>
    intro v acc hn h0 h1 hs
    refine ⟨(⟨#[109]⟩ : ByteArray) ++ acc, Ev.step (f := fun _ => some ((⟨#[109]⟩ : ByteArray) ++ acc)) (fun k => ?_) (Ev.now _)⟩
    simp only [laws_markText.l0]; rw [if_neg (by omega), if_pos (by omega)]
  | succ n ih =>
    intro v acc hn h0 h1 hs
    by_cases hv : v > 0
    · have e1 : wrap64 (Int.tdiv v 10) = v / 10 := by rw [Int.tdiv_eq_ediv_of_nonneg h0]; unfold wrap64; omega
      have sz : (strOfNums [wrap64 (48 + Int.tmod v 10) % 256]).size = 1 := by rw [size_strOfNums]; rfl
      have sz2 : (strOfNums [wrap64 (48 + Int.tmod v 10) % 256] ++ acc).size = 1 + acc.size := by rw [ByteArray.size_append, sz]
      obtain ⟨t, ht⟩ := ih (v / 10) (strOfNums [wrap64 (48 + Int.tmod v 10) % 256] ++ acc) (by omega) (by omega) (by omega) (by rw [sz2]; omega)
      refine ⟨t, Ev.step (f := fun k => laws_markText.l0 k (v / 10) (strOfNums [wrap64 (48 + Int.tmod v 10) % 256] ++ acc)) (fun k => ?_) ht⟩
      simp only [laws_markText.l0, Option.bind_some]; rw [if_pos hv, if_pos (by rw [sz]; omega), e1]
    · refine ⟨(⟨#[109]⟩ : ByteArray) ++ acc, Ev.step (f := fun _ => some ((⟨#[109]⟩ : ByteArray) ++ acc)) (fun k => ?_) (Ev.now _)⟩
      simp only [laws_markText.l0]; rw [if_neg hv, if_pos (by omega)]
/-- The text of a mark. -/
noncomputable def markT (v : Int) : ByteArray := open Classical in if h : ∃ t, Ev (fun k => laws_markText.f k v) t then Classical.choose h else ⟨#[]⟩
theorem markT_ok (v : Int) (h0 : 0 < v) (h1 : v ≤ 4611686018427387904) : Ev (fun k => laws_markText.f k v) (markT v) := by
  have h : ∃ t, Ev (fun k => laws_markText.f k v) t := by
    obtain ⟨t, ht⟩ := markText_loop v.toNat v ⟨#[]⟩ (Nat.le_refl _) (by omega) h1 (by show 0 + v.toNat ≤ _; omega)
    refine ⟨t, ?_⟩
    unfold laws_markText.f
    simp only [if_neg (show ¬ v ≤ 0 by omega)]; exact ht
  unfold markT
  rw [dif_pos h]; exact Classical.choose_spec h
noncomputable def updP (v : Int) (x : IP) : IP := ⟨v, v + 1, v + 2, markT (v + 3)⟩
theorem mark_only (a : Int) (xs : List IP) (hl : xs.length ≤ 2097152) : ∃ ys, Ev (fun k => laws_markNet.f k a xs 1) (1 + 4 * (xs.length : Int), ys) ∧ ys.length = xs.length ∧ ∀ (i : Nat) (h : i < ys.length) (h' : i < xs.length), ys[i] = updP (1 + 4 * i) xs[i] := by
  obtain ⟨ys, he, hyl, hy⟩ := mark_loop (c := 4) (upd := updP) (F := fun k acc v i => laws_markPacketS.l0 k acc v i) xs 1
    (fun i acc h ha r hr => by
      have e1 : wrap64 (1 + 4 * (i : Int) + 1) = 1 + 4 * (i : Int) + 1 := by unfold wrap64; omega
      have e2 : wrap64 (1 + 4 * (i : Int) + 1 + 1) = 1 + 4 * (i : Int) + 2 := by unfold wrap64; omega
      have e3 : wrap64 (1 + 4 * (i : Int) + 2 + 1) = 1 + 4 * (i : Int) + 3 := by unfold wrap64; omega
      have e4 : wrap64 (1 + 4 * (i : Int) + 3 + 1) = 1 + 4 * ((i + 1 : Nat) : Int) := by unfold wrap64; omega
      have hi : (i : Int) < (acc.length : Int) := by omega
      refine Ev.step (f := fun k => (laws_markText.f k (1 + 4 * (i : Int) + 3)).bind fun t => laws_markPacketS.l0 k (acc.set i ⟨1 + 4 * (i : Int), 1 + 4 * (i : Int) + 1, 1 + 4 * (i : Int) + 2, t⟩) (1 + 4 * ((i + 1 : Nat) : Int)) ((i + 1 : Nat) : Int)) (fun k => ?_) (Ev.bind (markT_ok _ (by omega) (by omega)) hr)
      have g : ∀ x : IP, rd_T39 (acc.set i x) (i : Int) = x := fun x => by
        rw [rdI _ i (by rw [List.length_set]; exact h), List.getElem_set_self]
      simp only [laws_markPacketS.l0]; rw [if_pos hi, if_pos (by omega), Int.toNat_natCast, e1, e2, e3, e4, wrap_nat i (by omega)]
      rw [Option.bind_some, g, List.set_set, Option.bind_some, g, List.set_set, Option.bind_some, g]
      simp only [List.set_set])
    (fun acc ha => Ev.step (f := fun _ => some (1 + 4 * (xs.length : Int), acc)) (fun k => by simp only [laws_markPacketS.l0]; rw [if_neg (by omega)]) (Ev.now _))
  refine ⟨ys, ?_, hyl, hy⟩
  unfold laws_markNet.f laws_markPacketS.f
  exact Ev.bind he (Ev.now _)
theorem mark_held (a : Int) (xs : List IP) (hl : xs.length ≤ 2097152) : ∃ m ys, Ev (fun k => laws_markNet.f k a xs 1) (m, ys) ∧ 1 ≤ m ∧ m ≤ 10000000 ∧ Ev (fun k => laws_heldNet.f k a ys 1) m := by
  obtain ⟨ys, he, hyl, hy⟩ := mark_only a xs hl
  refine ⟨1 + 4 * (xs.length : Int), ys, he, by omega, by omega, ?_⟩
  unfold laws_heldNet.f laws_heldPacketS.f
  refine Ev.bind (a := 1 + 4 * (xs.length : Int)) ?_ (by simp only [if_neg (show ¬ (1 + 4 * (xs.length : Int)) < 0 by omega)]; exact Ev.now _)
  refine fold_loop (n := xs.length) (F := fun k v i => laws_heldPacketS.l0 k ys v i) (st := fun i => 1 + 4 * (i : Int)) (fun i hi hr => ?_) (Ev.step (f := fun _ => some (1 + 4 * (xs.length : Int))) (fun k => ?_) (Ev.now _))
  · have hi' : i < ys.length := by omega
    have e1 : wrap64 (1 + 4 * (i : Int) + 1) = 1 + 4 * (i : Int) + 1 := by unfold wrap64; omega
    have e2 : wrap64 (1 + 4 * (i : Int) + 1 + 1) = 1 + 4 * (i : Int) + 2 := by unfold wrap64; omega
    have e3 : wrap64 (1 + 4 * (i : Int) + 2 + 1) = 1 + 4 * (i : Int) + 3 := by unfold wrap64; omega
    have e4 : wrap64 (1 + 4 * (i : Int) + 3 + 1) = 1 + 4 * ((i + 1 : Nat) : Int) := by unfold wrap64; omega
    have g := hy i hi' hi
    refine Ev.step (f := fun k => (laws_markText.f k (1 + 4 * (i : Int) + 3)).bind fun t => if (markT (1 + 4 * (i : Int) + 3)).toList = t.toList then laws_heldPacketS.l0 k ys (1 + 4 * ((i + 1 : Nat) : Int)) ((i + 1 : Nat) : Int) else some (-1)) (fun k => ?_) (Ev.bind (markT_ok _ (by omega) (by omega)) (by simp only [if_true]; exact hr))
    simp only [laws_heldPacketS.l0]; rw [if_pos (by omega), if_pos (by omega), rdI ys i hi', g]
    simp only [updP, if_true, e1, e2, e3, e4, wrap_nat i (show i < 9223372036854775807 by omega)]
  · simp only [laws_heldPacketS.l0]; rw [if_neg (by omega)]
/-- A loop that looks for the first place of its kind. -/
theorem find_loop {α R : Type} (xs : List α) (p : α → Bool) {F : Nat → Int → Option R} (found : Nat → R) (none_ : R) (hstep : ∀ (i : Nat) (h : i < xs.length), p xs[i] = false → ∀ k, F (k + 1) (i : Int) = F k ((i + 1 : Nat) : Int))
    (hfound : ∀ (i : Nat) (h : i < xs.length), p xs[i] = true → Ev (fun k => F k (i : Int)) (found i)) (hend : Ev (fun k => F k (xs.length : Int)) none_) : Ev (fun k => F k 0) (match xs.findIdx? p with | some i => found i | none => none_) := by
  have key : ∀ d i : Nat, i + d = xs.length → (∀ (j : Nat) (h : j < xs.length), j < i → p xs[j] = false) → Ev (fun k => F k (i : Int)) (match xs.findIdx? p with | some i => found i | none => none_) := by
    intro d
    induction d with
    | zero =>
      intro i hi hno
      obtain rfl : i = xs.length := by omega
      have : xs.findIdx? p = none := by
        rw [List.findIdx?_eq_none_iff]
        intro x hx
        obtain ⟨j, hj, rfl⟩ := List.getElem_of_mem hx
        exact hno j hj hj
      rw [this]; exact hend
    | succ d ih =>
      intro i hi hno
      have hlt : i < xs.length := by omega
      cases hp : p xs[i] with
      | true =>
        have : xs.findIdx? p = some i := by
          rw [List.findIdx?_eq_some_iff_getElem]
          exact ⟨hlt, hp, fun j hj => by rw [hno j (by omega) hj]; simp⟩
        rw [this]; exact hfound i hlt hp
      | false =>
        refine Ev.step (hstep i hlt hp) (ih (i + 1) (by omega) (fun j hj hji => ?_))
        by_cases e : j = i
        · subst e; exact hp
        · exact hno j hj (by omega)
  exact key xs.length 0 (by omega) (fun j _ h => absurd h (by omega))
/-- What Take answers. -/
def takeM (n : Int) (xs : List IP) (id : Int) (keep : Bool) : Int × List IP × Int × Int × Int × ByteArray × Bool :=
  if netOk n xs = true then
    match xs.findIdx? (fun x => x.f0 == id) with
    | some i => (n, (if keep = true then xs else xs.eraseIdx i), (rd_T39 xs (i : Int)).f0, (rd_T39 xs (i : Int)).f1, (rd_T39 xs (i : Int)).f2, (rd_T39 xs (i : Int)).f3, true)
    | none => (n, xs, 0, 0, 0, ⟨#[]⟩, false)
  else (0, [], 0, 0, 0, ⟨#[]⟩, false)
theorem takeM_len (n : Int) (xs : List IP) (id : Int) (keep : Bool) : (takeM n xs id keep).2.1.length ≤ xs.length := by
  unfold takeM
  repeat' split
  all_goals first | exact Nat.le_refl _ | exact Nat.zero_le _ | exact List.length_eraseIdx_le _ _
theorem spec_takeNet (n : Int) (xs : List IP) (id : Int) (keep : Bool) (hl : xs.length ≤ 1048576) : Ev (fun k => spec_Take.f k n xs id keep) (takeM n xs id keep) := by
  unfold spec_Take.f takeM spec_l8Copy.f
  refine Ev.bind (spec_netOk n xs (by omega)) ?_
  cases netOk n xs with
  | false => exact Ev.now _
  | true =>
    simp only [if_true]
    refine Ev.bind (a := (n, xs)) ?_ ?_
    · refine Ev.is ?_
      rw [Option.bind_some, if_pos (by simp only [List.length_nil]; omega), List.nil_append]
    refine find_loop xs (fun x => x.f0 == id) (F := fun k i => spec_Take.l0 k id keep i n xs n xs) (fun i => (n, (if keep = true then xs else xs.eraseIdx i), (rd_T39 xs (i : Int)).f0, (rd_T39 xs (i : Int)).f1, (rd_T39 xs (i : Int)).f2, (rd_T39 xs (i : Int)).f3, true)) (n, xs, 0, 0, 0, ⟨#[]⟩, false) (fun i h hp k => ?_) (fun i h hp => ?_) ?_
    · have hp : ¬ xs[i].f0 = id := by simpa using hp
      simp only [spec_Take.l0]; rw [if_pos (by omega), if_pos (by omega), rdI xs i h, if_neg hp, wrap_nat i (by omega)]
    · have hp : xs[i].f0 = id := by simpa using hp
      refine Ev.step (f := fun _ => some (n, (if keep = true then xs else xs.eraseIdx i), (rd_T39 xs (i : Int)).f0, (rd_T39 xs (i : Int)).f1, (rd_T39 xs (i : Int)).f2, (rd_T39 xs (i : Int)).f3, true)) (fun k => ?_) (Ev.now _)
      simp only [spec_Take.l0]; rw [if_pos (by omega), if_pos (by omega), rdI xs i h, if_pos hp]
      cases keep with
      | true => rfl
      | false => rw [if_neg (by simp), if_pos (by omega), wrap_nat i (by omega), if_pos (by omega), if_pos (by omega), Int.toNat_natCast]; rfl
    · refine Ev.step (f := fun _ => some (n, xs, 0, 0, 0, ⟨#[]⟩, false)) (fun k => ?_) (Ev.now _)
      simp only [spec_Take.l0]; rw [if_neg (by omega)]
theorem at_find (xs : List IP) (id : Int) : ∀ d i : Nat, i + d = xs.length → impl_Packet_43.at xs id d i = match (xs.drop i).findIdx? (fun x => x.f0 == id) with | some j => ((i + j : Nat) : Int) | none => -1 := by
  intro d
  induction d with
  | zero => intro i hi; rw [List.drop_eq_nil_of_le (by omega)]; rfl
  | succ d ih =>
    intro i hi
    unfold impl_Packet_43.at
    have hlt : i < xs.length := by omega
    rw [rdI xs i hlt, List.drop_eq_getElem_cons hlt, List.findIdx?_cons]
    by_cases h : xs[i].f0 = id
    · rw [if_pos h, if_pos (by simpa using h)]; rfl
    · rw [if_neg h, if_neg (by simpa using h), ih (i + 1) (by omega)]
      cases (xs.drop (i + 1)).findIdx? (fun x => x.f0 == id) with
      | none => rfl
      | some j => simp only [Option.map_some]; congr 1; omega
theorem impl_takeNet (n : Int) (xs : List IP) (id : Int) (keep : Bool) (hl : xs.length ≤ 1048576) : Ev (fun k => impl_Take.f k n xs id keep) (takeM n xs id keep) := by
  unfold impl_Take.f takeM impl_copyNet.f
  have hc : (if ([] : List IP).length + xs.length < 2932031007403 then some (n, ([] : List IP) ++ xs) else none) = some (n, xs) := by rw [if_pos (by simp only [List.length_nil]; omega), List.nil_append]
  refine Ev.bind (a := (n, xs)) ?_ ?_
  · refine Ev.is ?_
    rw [Option.bind_some, if_pos (by simp only [List.length_nil]; omega), List.nil_append]
  refine Ev.bind (impl_netOk n xs (by omega)) ?_
  cases netOk n xs with
  | false => exact Ev.now _
  | true =>
    simp only [if_true]
    have hat := at_find xs id xs.length 0 (by omega)
    simp only [List.drop_zero, Nat.zero_add] at hat
    refine Ev.bind (a := impl_Packet_43.at xs id xs.length 0) (Ev.is (by unfold impl_Packet_43.f; rw [if_pos (by omega)])) ?_
    rw [hat]
    cases hf : xs.findIdx? (fun x => x.f0 == id) with
    | none => simp only [if_pos (show (-1 : Int) < 0 by omega)]; exact Ev.now _
    | some i =>
      have hi : i < xs.length := by
        have := List.findIdx?_eq_some_iff_getElem.1 hf
        exact this.1
      have ew : wrap64 ((i : Int) + 1) = (i : Int) + 1 := by unfold wrap64; omega
      simp only [if_neg (show ¬ (i : Int) < 0 by omega), if_pos (show (0 : Int) ≤ (i : Int) by omega), if_pos (show (i : Int) < (xs.length : Int) by omega)]
      cases keep with
      | true => simp only [if_true]; exact Ev.now _
      | false =>
        simp only [Bool.false_eq_true, if_false]
        refine Ev.bind (a := xs.eraseIdx i) (Ev.is (by unfold impl_Packet_45.f; rw [ew, if_pos ⟨by omega, rfl, by omega⟩, Int.toNat_natCast])) (Ev.now _)
end TakeOf
open TakeOf

theorem FnExactTake : laws_FnExactTake.Pure := by
  intro n xs id keep _ hx _
  refine Ev.rounds (g := fun k => laws_FnExactTake.f k n xs id keep) ?_
  unfold laws_FnExactTake.f
  obtain ⟨r, hr, _, hr2⟩ := sz_ok n xs hx.1 (fun x h => (hx.2 x h).2.2.2)
  refine Ev.bind hr ?_
  by_cases h0 : r < 0
  · simp only [if_pos h0]; exact Ev.now _
  simp only [if_neg h0]
  obtain ⟨hl, _⟩ := hr2 (by omega)
  have ht := to_ok n xs hl
  have hm : (xs.map toP).length ≤ 1048576 := by rw [List.length_map]; omega
  have hspec := spec_takeNet n (xs.map toP) id keep hm
  have himpl := impl_takeNet n (xs.map toP) id keep hm
  have hlen := takeM_len n (xs.map toP) id keep
  generalize takeM n (xs.map toP) id keep = P at hspec himpl hlen
  obtain ⟨p1, p2, p3, p4, p5, p6, p7⟩ := P
  have hp := eqP_refl (⟨p3, p4, p5, p6⟩ : IP)
  simp only at hp
  have he := eq_refl p1 p2 (by simp only at hlen; omega)
  obtain ⟨m1, y1, hm1, hm1p, _, _⟩ := mark_held n (xs.map toP) (by omega)
  obtain ⟨m2, y2, hm2, hm2p, _, hh2⟩ := mark_held p1 p2 (by simp only at hlen; omega)
  refine Ev.bind ht (Ev.bind hspec (Ev.bind ht (Ev.bind himpl (Ev.bind he ?_))))
  simp only [if_true]
  refine Ev.bind (Ev.is hp) ?_
  simp only [if_true, bne_self_eq_false]
  refine Ev.step (f := fun k => _) (fun k => by simp only [laws_FnExactTake.j0, Bool.false_eq_true, if_false]; rfl) ?_
  refine Ev.bind ht (Ev.bind (eq_refl n _ (by omega)) ?_)
  simp only [if_true]
  refine Ev.bind hm1 ?_
  simp only [if_neg (show ¬ m1 < 0 by omega)]
  refine Ev.bind he ?_
  simp only [if_true]
  refine Ev.bind (Ev.is hp) ?_
  simp only [if_true, bne_self_eq_false]
  refine Ev.step (f := fun k => _) (fun k => by simp only [laws_FnExactTake.j1, Bool.false_eq_true, if_false]; rfl) ?_
  refine Ev.bind hm2 (Ev.bind hh2 ?_)
  simp only [if_neg (show ¬ m2 < 0 by omega), if_true]
  refine Ev.bind ht (Ev.bind himpl (Ev.bind he ?_))
  simp only [if_true]
  refine Ev.bind (Ev.is hp) ?_
  simp only [if_true, bne_self_eq_false]
  refine Ev.step (f := fun k => _) (fun k => by simp only [laws_FnExactTake.j2, Bool.false_eq_true, if_false]; rfl) ?_
  refine Ev.bind hh2 ?_
  simp only [if_neg (show ¬ m2 < 0 by omega), if_true]; exact Ev.now _

end Go.Proofs.Ytklaigmpceacaaa.Pure
