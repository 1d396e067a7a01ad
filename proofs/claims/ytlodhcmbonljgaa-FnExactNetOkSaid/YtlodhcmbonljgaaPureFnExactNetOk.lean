/- For every net the program's NetOk returns what the reference's returns, and leaves the net as it was. No condition but that the net can be read. -/
import Derived.Test.YtlodhcmbonljgaaQFnExactNetOkx6
import Derived.Test.YtlodhcmbonljgaaLoops
namespace Go.Proofs.Ytlodhcmbonljgaa.Pure
open Go.RowKit Go.Proofs.Ytlodhcmbonljgaa.QFnExactNetOk Go.Proofs.YtlodhcmbonljgaaW.PrintWords Go.Proofs.YtlodhcmbonljgaaW.PrintLast Go.Proofs.YtlodhcmbonljgaaW.PrintMore Go.Proofs.Ytlodhcmbonljgaa.Bits Go.Proofs.Ytlodhcmbonljgaa.Num Go.Proofs.Ytlodhcmbonljgaa.Loops
set_option linter.unusedSimpArgs false
set_option linter.unusedVariables false
namespace NetOkOf
abbrev LP := S127
abbrev IP := S100
def toP (x : LP) : IP := ⟨x.f0, x.f1, x.f2, x.f3⟩
theorem rdL (xs : List LP) (i : Nat) (h : i < xs.length) : rd_T127 xs (i : Int) = xs[i] := getD_at xs i _ h
theorem rdI (xs : List IP) (i : Nat) (h : i < xs.length) : rd_T100 xs (i : Int) = xs[i] := getD_at xs i _ h
/-- What the sizes come to: less than nothing, or the list is short and its texts are. -/
theorem sz_loop (xs : List LP) (hx : ∀ x ∈ xs, x.f3.size ≤ maxLen) (hl : xs.length ≤ 1048576) (d : Nat) : ∀ (i : Nat) (left : Int), i + d = xs.length → 0 ≤ left → left ≤ 1048576 →
    ∃ r, Ev (fun k => laws_szPacketS.l0 k xs left (i : Int)) r ∧ r ≤ 1048576 ∧ (0 ≤ r → ∀ j, i ≤ j → (h : j < xs.length) → xs[j].f3.size ≤ 1048576) := by
  induction d with
  | zero =>
    intro i left hi h0 h1
    refine ⟨left, Ev.step (f := fun _ => some left) (fun k => ?_) (Ev.now _), h1, fun _ j hj h => by omega⟩
    simp only [laws_szPacketS.l0]; rw [if_neg (by omega)]
  | succ d ih =>
    intro i left hi h0 h1
    have hlt : i < xs.length := by omega
    have hs := hx _ (List.getElem_mem hlt)
    unfold maxLen at hs
    have ew : wrap64 (left - (xs[i].f3.size : Int)) = left - xs[i].f3.size := by unfold wrap64; omega
    by_cases hn : left - (xs[i].f3.size : Int) < 0
    · refine ⟨-1, Ev.step (f := fun _ => some (-1)) (fun k => ?_) (Ev.now _), by omega, fun h => absurd h (by omega)⟩
      simp only [laws_szPacketS.l0]; rw [if_pos (by omega), if_pos (by omega)]
      unfold laws_szPacket.f; rw [rdL xs i hlt, ew, if_pos hn]; simp
    · obtain ⟨r, hr, hr1, hr2⟩ := ih (i + 1) (left - xs[i].f3.size) (by omega) (by omega) (by omega)
      refine ⟨r, Ev.step (f := fun k => laws_szPacketS.l0 k xs (left - xs[i].f3.size) ((i + 1 : Nat) : Int)) (fun k => ?_) hr, hr1, fun h j hj hjl => ?_⟩
      · simp only [laws_szPacketS.l0]; rw [if_pos (by omega), if_pos (by omega)]
        unfold laws_szPacket.f; rw [rdL xs i hlt, ew, if_neg hn, wrap_nat i (by omega)]; simp only [Option.bind_some]; rw [if_neg hn]
      · by_cases e : i = j
        · subst e; omega
        · exact hr2 h j (by omega) hjl
theorem sz_ok (a : Int) (xs : List LP) (hl : xs.length ≤ maxLen) (hx : ∀ x ∈ xs, x.f3.size ≤ maxLen) :
    ∃ r, Ev (fun k => laws_szNet.f k a xs 1048576) r ∧ r ≤ 1048576 ∧ (0 ≤ r → xs.length ≤ 1048576 ∧ ∀ x ∈ xs, x.f3.size ≤ 1048576) := by
  unfold laws_szNet.f laws_szPacketS.f
  unfold maxLen at hl
  have ew : wrap64 (1048576 - (xs.length : Int)) = 1048576 - xs.length := by unfold wrap64; omega
  by_cases hn : (1048576 - (xs.length : Int)) < 0
  · refine ⟨-1, ?_, by omega, fun h => absurd h (by omega)⟩
    simp only [ew, if_pos hn, Option.bind_some]; exact Ev.now _
  · obtain ⟨r, hr, hr1, hr2⟩ := sz_loop xs hx (by omega) xs.length 0 (1048576 - xs.length) (by omega) (by omega) (by omega)
    simp only [ew, if_neg hn]
    by_cases h0 : r < 0
    · refine ⟨-1, Ev.bind hr ?_, by omega, fun h => absurd h (by omega)⟩
      simp only [if_pos h0]; exact Ev.now _
    · refine ⟨r, Ev.bind hr ?_, hr1, fun h => ⟨by omega, fun x hxm => ?_⟩⟩
      · simp only [if_neg h0]; exact Ev.now _
      · obtain ⟨j, hj, rfl⟩ := List.getElem_of_mem hxm
        exact hr2 h j (by omega) hj
theorem to_ok (a : Int) (xs : List LP) (hl : xs.length ≤ 1048576) : Ev (fun k => laws_toNet.f k a xs) (a, xs.map toP) := by
  unfold laws_toNet.f laws_toPacketS.f
  simp only [if_pos (show (0 : Int) ≤ (xs.length : Int) by omega), if_pos (show ((xs.length : Int)).toNat ≤ 7036874417766 by omega)]
  refine Ev.bind (a := xs.map toP) ?_ (Ev.now _)
  refine fill_loop xs toP (F := fun k acc i => laws_toPacketS.l0 k xs acc i) (fun i h acc ha k => ?_) (fun acc ha k => ?_) _ (by simp)
  · simp only [laws_toPacketS.l0]; rw [if_pos (by omega), if_pos (by omega)]
    unfold laws_toPacket.f; simp only [Option.bind_some]; rw [if_pos (by omega), rdL xs i h, wrap_nat i (by omega), Int.toNat_natCast]; rfl
  · simp only [laws_toPacketS.l0]; rw [if_neg (by omega)]
theorem eqP_refl (x : IP) : laws_eqPacket.f x.f0 x.f1 x.f2 x.f3 x.f0 x.f1 x.f2 x.f3 = some true := by unfold laws_eqPacket.f; simp
theorem eq_refl (a : Int) (xs : List IP) (hl : xs.length ≤ 2097152) : Ev (fun k => laws_eqNet.f k a xs a xs) true := by
  unfold laws_eqNet.f laws_eqPacketS.f
  simp only [if_true]
  refine Ev.bind (a := true) ?_ (by simp only [if_true]; exact Ev.now _)
  refine on_loop (n := xs.length) (F := fun k i => laws_eqPacketS.l0 k xs xs i) (fun i hi k => ?_) (Ev.step (f := fun _ => some true) (fun k => ?_) (Ev.now _))
  · simp only [laws_eqPacketS.l0]; rw [if_pos (by omega), if_pos (by omega), if_pos (by omega), rdI xs i hi, eqP_refl, wrap_nat i (by omega)]; rfl
  · simp only [laws_eqPacketS.l0]; rw [if_neg (by omega)]
theorem l1In_eq (a b c : Int) : spec_l1In.f a b c = some (decide (b ≤ a ∧ a ≤ c)) := by
  unfold spec_l1In.f
  by_cases h : a ≥ b
  · rw [if_pos h]; simp [h]
  · rw [if_neg h]; simp [h]
theorem in_eq (a b c : Int) : impl_in.f a b c = some (decide (b ≤ a ∧ a ≤ c)) := by
  unfold impl_in.f
  by_cases h : a ≥ b
  · rw [if_pos h]; simp [h]
  · rw [if_neg h]; simp [h]
/-- One packet at its place. -/
def pktOk (next : Int) (xs : List IP) (i : Nat) : Bool :=
  decide (1 ≤ (rd_T100 xs (i : Int)).f0 ∧ (rd_T100 xs (i : Int)).f0 ≤ wrap64 (next - 1)) &&
  (decide (1 ≤ (rd_T100 xs (i : Int)).f1 ∧ (rd_T100 xs (i : Int)).f1 ≤ 50) && (decide (1 ≤ (rd_T100 xs (i : Int)).f2 ∧ (rd_T100 xs (i : Int)).f2 ≤ 50) && decide (((rd_T100 xs (i : Int)).f3.size : Int) ≤ 20000))) &&
  (decide (i = 0) || decide (¬ (rd_T100 xs (i : Int)).f0 ≤ (rd_T100 xs ((i - 1 : Nat) : Int)).f0))
def netOk (next : Int) (xs : List IP) : Bool := decide (1 ≤ next ∧ next ≤ 1000000000000) && decide ((xs.length : Int) ≤ 300) && (List.range xs.length).all (pktOk next xs)
theorem ends_eq (a b : Int) (s : ByteArray) : spec_l8Ends.f a b s = some (decide (1 ≤ a ∧ a ≤ 50) && (decide (1 ≤ b ∧ b ≤ 50) && decide ((s.size : Int) ≤ 20000))) := by
  unfold spec_l8Ends.f
  rw [l1In_eq]; simp only [Option.bind_some]
  by_cases h1 : 1 ≤ a ∧ a ≤ 50
  · simp only [h1, and_self, decide_true, if_true]
    rw [l1In_eq]; simp only [Option.bind_some]
    by_cases h2 : 1 ≤ b ∧ b ≤ 50
    · simp only [h2, and_self, decide_true, if_true, Bool.true_and]
    · simp only [h2, decide_false, Bool.false_eq_true, if_false, Bool.false_and, Bool.true_and]
  · simp only [h1, decide_false, Bool.false_eq_true, if_false, Bool.false_and]
theorem node_eq (a : Int) : impl_isNodeId.f a = some (decide (1 ≤ a ∧ a ≤ 50)) := by unfold impl_isNodeId.f; rw [in_eq]; rfl
theorem spec_netOk (next : Int) (xs : List IP) (hl : xs.length ≤ 2097152) : Ev (fun k => spec_NetOk.f k next xs) (netOk next xs) := by
  have loop : Ev (fun k => spec_NetOk.l0 k 0 next xs) ((List.range xs.length).all (pktOk next xs)) := by
    refine all_loop (F := fun k i => spec_NetOk.l0 k i next xs) (fun i hi r hr => ?_) (Ev.step (f := fun _ => some true) (fun k => ?_) (Ev.now _))
    · have j2 : ∀ b : Bool, Ev (fun k => spec_NetOk.j2 k (i : Int) b next xs) (!b && r) := by
        intro b
        refine Ev.step (f := fun k => if b = true then some false else spec_NetOk.l0 k ((i + 1 : Nat) : Int) next xs) (fun k => by simp only [spec_NetOk.j2]; rw [wrap_nat i (by omega)]) ?_
        cases b with
        | true => exact Ev.now _
        | false => exact hr
      refine Ev.step (f := fun k => spec_NetOk.j2 k (i : Int) (!(pktOk next xs i)) next xs) (fun k => ?_) (by have := j2 (!(pktOk next xs i)); rwa [Bool.not_not] at this)
      simp only [spec_NetOk.l0]; rw [if_pos (by omega), if_pos (by omega), l1In_eq, ends_eq]; simp only [Option.bind_some]
      unfold pktOk
      by_cases h1 : 1 ≤ (rd_T100 xs (i : Int)).f0 ∧ (rd_T100 xs (i : Int)).f0 ≤ wrap64 (next - 1)
      · simp only [h1, and_self, decide_true, if_true, Bool.true_and]
        generalize hE : (decide (1 ≤ (rd_T100 xs (i : Int)).f1 ∧ (rd_T100 xs (i : Int)).f1 ≤ 50) && (decide (1 ≤ (rd_T100 xs (i : Int)).f2 ∧ (rd_T100 xs (i : Int)).f2 ≤ 50) && decide (((rd_T100 xs (i : Int)).f3.size : Int) ≤ 20000))) = E
        cases E with
        | false => simp only [Bool.false_eq_true, if_false, Bool.false_and, Bool.not_false]
        | true =>
          simp only [if_true, Bool.true_and]
          by_cases h0 : i = 0
          · subst h0; simp
          · rw [if_pos (show (i : Int) > 0 by omega), wrap_pred i (by omega) (by omega), if_pos (by omega), if_pos (by omega)]
            congr 1
            by_cases h5 : (rd_T100 xs (i : Int)).f0 ≤ (rd_T100 xs ((i - 1 : Nat) : Int)).f0 <;> simp only [h0, h5, decide_true, decide_false, not_true, not_false_eq_true, Bool.or_true, Bool.or_false, Bool.not_true, Bool.not_false]
      · simp only [h1, decide_false, Bool.false_eq_true, if_false, Bool.false_and, Bool.not_false]
    · simp only [spec_NetOk.l0]; rw [if_neg (by omega)]
  have j0 : ∀ b : Bool, Ev (fun k => spec_NetOk.j0 k b next xs) (!b && (List.range xs.length).all (pktOk next xs)) := by
    intro b
    refine Ev.step (f := fun k => if b = true then some false else spec_NetOk.l0 k 0 next xs) (fun k => by simp only [spec_NetOk.j0]) ?_
    cases b with
    | true => exact Ev.now _
    | false => exact loop
  unfold spec_NetOk.f netOk
  simp only [l1In_eq, Option.bind_some]
  by_cases h1 : 1 ≤ next ∧ next ≤ 1000000000000
  · simp only [h1, and_self, decide_true, if_true, Bool.true_and]
    have := j0 (decide ((xs.length : Int) > 300))
    rwa [show (!decide ((xs.length : Int) > 300)) = decide ((xs.length : Int) ≤ 300) by by_cases h : (xs.length : Int) ≤ 300 <;> simp [h] <;> omega] at this
  · simp only [h1, decide_false, Bool.false_eq_true, if_false, Bool.false_and]
    have := j0 true; simpa using this
theorem impl_netOk (next : Int) (xs : List IP) (hl : xs.length ≤ 2097152) : Ev (fun k => impl_isNet.f k next xs) (netOk next xs) := by
  have loop : Ev (fun k => impl_isNet.l0 k xs (xs.length : Int) 0 next xs) ((List.range xs.length).all (pktOk next xs)) := by
    refine all_loop (F := fun k i => impl_isNet.l0 k xs (xs.length : Int) i next xs) (fun i hi r hr => ?_) (Ev.step (f := fun _ => some true) (fun k => ?_) (Ev.now _))
    · have j2 : ∀ b : Bool, Ev (fun k => impl_isNet.j2 k xs (xs.length : Int) (i : Int) b next xs) (!b && r) := by
        intro b
        refine Ev.step (f := fun k => if b = true then some false else impl_isNet.l0 k xs (xs.length : Int) ((i + 1 : Nat) : Int) next xs) (fun k => by simp only [impl_isNet.j2]; rw [wrap_nat i (by omega)]) ?_
        cases b with
        | true => exact Ev.now _
        | false => exact hr
      refine Ev.step (f := fun k => impl_isNet.j2 k xs (xs.length : Int) (i : Int) (!(pktOk next xs i)) next xs) (fun k => ?_) (by have := j2 (!(pktOk next xs i)); rwa [Bool.not_not] at this)
      simp only [impl_isNet.l0]; rw [if_pos (by omega), if_pos (by omega), if_pos (by omega), in_eq, node_eq, node_eq]; simp only [Option.bind_some]
      have ends : ∀ c : Bool, (!c) = true → (if decide (1 ≤ (rd_T100 xs (i : Int)).f1 ∧ (rd_T100 xs (i : Int)).f1 ≤ 50) = true then (if decide (1 ≤ (rd_T100 xs (i : Int)).f2 ∧ (rd_T100 xs (i : Int)).f2 ≤ 50) = true then impl_isNet.j2 k xs (xs.length : Int) (i : Int) (decide (((rd_T100 xs (i : Int)).f3.size : Int) > 20000)) next xs else impl_isNet.j2 k xs (xs.length : Int) (i : Int) true next xs) else impl_isNet.j2 k xs (xs.length : Int) (i : Int) true next xs) =
          impl_isNet.j2 k xs (xs.length : Int) (i : Int) (!(decide (1 ≤ (rd_T100 xs (i : Int)).f1 ∧ (rd_T100 xs (i : Int)).f1 ≤ 50) && (decide (1 ≤ (rd_T100 xs (i : Int)).f2 ∧ (rd_T100 xs (i : Int)).f2 ≤ 50) && decide (((rd_T100 xs (i : Int)).f3.size : Int) ≤ 20000)))) next xs := by
        intro c _
        by_cases g1 : 1 ≤ (rd_T100 xs (i : Int)).f1 ∧ (rd_T100 xs (i : Int)).f1 ≤ 50
        · by_cases g2 : 1 ≤ (rd_T100 xs (i : Int)).f2 ∧ (rd_T100 xs (i : Int)).f2 ≤ 50
          · simp only [g1, g2, and_self, decide_true, if_true, Bool.true_and]
            congr 1
            by_cases h : ((rd_T100 xs (i : Int)).f3.size : Int) ≤ 20000 <;> simp [h] <;> omega
          · simp only [g1, g2, and_self, decide_true, decide_false, Bool.false_eq_true, if_true, if_false, Bool.true_and, Bool.false_and, Bool.not_false]
        · simp only [g1, decide_false, Bool.false_eq_true, if_false, Bool.false_and, Bool.not_false]
      have ends := ends false rfl
      unfold pktOk
      by_cases h1 : 1 ≤ (rd_T100 xs (i : Int)).f0 ∧ (rd_T100 xs (i : Int)).f0 ≤ wrap64 (next - 1)
      · rw [show decide (1 ≤ (rd_T100 xs (i : Int)).f0 ∧ (rd_T100 xs (i : Int)).f0 ≤ wrap64 (next - 1)) = true by simpa using h1]
        simp only [if_true, Bool.true_and]
        by_cases h0 : i = 0
        · subst h0
          rw [if_neg (show ¬ (((0 : Nat) : Int) > 0) by omega), ends]; simp
        · rw [if_pos (show (i : Int) > 0 by omega), wrap_pred i (by omega) (by omega), if_pos (by omega), if_pos (by omega)]
          by_cases h3 : (rd_T100 xs ((i - 1 : Nat) : Int)).f0 ≥ (rd_T100 xs (i : Int)).f0
          · rw [if_pos h3]
            congr 1
            simp [h0, h3]
          · rw [if_neg h3, ends]
            congr 1
            simp [h0, show ¬ (rd_T100 xs (i : Int)).f0 ≤ (rd_T100 xs ((i - 1 : Nat) : Int)).f0 from h3]
      · rw [show decide (1 ≤ (rd_T100 xs (i : Int)).f0 ∧ (rd_T100 xs (i : Int)).f0 ≤ wrap64 (next - 1)) = false by simpa using h1]
        simp only [Bool.false_eq_true, if_false, Bool.false_and, Bool.not_false]
    · simp only [impl_isNet.l0]; rw [if_neg (by omega)]
  have j0 : ∀ b : Bool, Ev (fun k => impl_isNet.j0 k b next xs) (!b && (List.range xs.length).all (pktOk next xs)) := by
    intro b
    refine Ev.step (f := fun k => if b = true then some false else impl_isNet.l0 k xs (xs.length : Int) 0 next xs) (fun k => by simp only [impl_isNet.j0]) ?_
    cases b with
    | true => exact Ev.now _
    | false => exact loop
  unfold impl_isNet.f netOk
  simp only [in_eq, Option.bind_some]
  by_cases h1 : 1 ≤ next ∧ next ≤ 1000000000000
  · simp only [h1, and_self, decide_true, if_true, Bool.true_and]
    have := j0 (decide ((xs.length : Int) > 300))
    rwa [show (!decide ((xs.length : Int) > 300)) = decide ((xs.length : Int) ≤ 300) by by_cases h : (xs.length : Int) ≤ 300 <;> simp [h] <;> omega] at this
  · simp only [h1, decide_false, Bool.false_eq_true, if_false, Bool.false_and]
    have := j0 true; simpa using this
end NetOkOf
open NetOkOf

theorem FnExactNetOk : laws_FnExactNetOk.Pure := by
  intro a xs _ hx
  refine Ev.rounds (g := fun k => laws_FnExactNetOk.f k a xs) ?_
  unfold laws_FnExactNetOk.f
  obtain ⟨r, hr, _, hr2⟩ := sz_ok a xs hx.1 (fun x h => (hx.2 x h).2.2.2)
  refine Ev.bind hr ?_
  by_cases h0 : r < 0
  · simp only [if_pos h0]; exact Ev.now _
  simp only [if_neg h0]
  obtain ⟨hl, _⟩ := hr2 (by omega)
  have ht := to_ok a xs hl
  have hm : (xs.map toP).length ≤ 2097152 := by rw [List.length_map]; omega
  refine Ev.bind ht (Ev.bind (spec_netOk a _ hm) (Ev.bind ht (Ev.bind (a := netOk a (xs.map toP)) ?_ ?_)))
  · unfold impl_NetOk.f; exact Ev.bind (impl_netOk a _ hm) (Ev.now _)
  · simp only [bne_self_eq_false, Bool.false_eq_true, if_false]
    refine Ev.bind ht (Ev.bind (eq_refl a _ hm) ?_)
    simp only [if_true]; exact Ev.now _

end Go.Proofs.Ytlodhcmbonljgaa.Pure
