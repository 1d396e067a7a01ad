/- For every code: what the drawn post says, and that what was posted is found and taken. No condition but the size that the model lets a code have. -/
import Derived.Test.YtklaigmpceacaaaQFnPostedx
import Derived.Test.YtklaigmpceacaaaLoopsFnPosted
namespace Go.Proofs.Ytklaigmpceacaaa.Pure
open Go.RowKit Go.Proofs.Ytklaigmpceacaaa.QFnPosted Go.Proofs.YtklaigmpceacaaaW.PrintWords Go.Proofs.YtklaigmpceacaaaW.PrintLast Go.Proofs.YtklaigmpceacaaaW.PrintMore Go.Proofs.Ytklaigmpceacaaa.Bits Go.Proofs.Ytklaigmpceacaaa.Num Go.Proofs.Ytklaigmpceacaaa.Loops
set_option maxRecDepth 100000
set_option linter.unusedSimpArgs false
set_option linter.unusedVariables false
namespace PostedOf
abbrev IP := S39
theorem rdI (xs : List IP) (i : Nat) (h : i < xs.length) : rd_T39 xs (i : Int) = xs[i] := getD_at xs i _ h
theorem l1In_eq (a b c : Int) : spec_l1In.f a b c = some (decide (b ≤ a ∧ a ≤ c)) := by
  unfold spec_l1In.f
  by_cases h : a ≥ b
  · rw [if_pos h]; simp [h]
  · rw [if_neg h]; simp [h]
theorem in_eq (a b c : Int) : impl_in.f a b c = some (decide (b ≤ a ∧ a ≤ c)) := by
  unfold impl_in.f
  by_cases h : a ≥ b
  · rw [if_pos h]; simp [h]
  · rw [if_neg h]; simp [h]
/-- One packet at its place. -/
def pktOk (next : Int) (xs : List IP) (i : Nat) : Bool :=
  decide (1 ≤ (rd_T39 xs (i : Int)).f0 ∧ (rd_T39 xs (i : Int)).f0 ≤ wrap64 (next - 1)) &&
  (decide (1 ≤ (rd_T39 xs (i : Int)).f1 ∧ (rd_T39 xs (i : Int)).f1 ≤ 50) && (decide (1 ≤ (rd_T39 xs (i : Int)).f2 ∧ (rd_T39 xs (i : Int)).f2 ≤ 50) && decide (((rd_T39 xs (i : Int)).f3.size : Int) ≤ 20000))) &&
  (decide (i = 0) || decide (¬ (rd_T39 xs (i : Int)).f0 ≤ (rd_T39 xs ((i - 1 : Nat) : Int)).f0))
def netOk (next : Int) (xs : List IP) : Bool := decide (1 ≤ next ∧ next ≤ 1000000000000) && decide ((xs.length : Int) ≤ 300) && (List.range xs.length).all (pktOk next xs)
theorem ends_eq (a b : Int) (s : ByteArray) : spec_l8Ends.f a b s = some (decide (1 ≤ a ∧ a ≤ 50) && (decide (1 ≤ b ∧ b ≤ 50) && decide ((s.size : Int) ≤ 20000))) := by
  unfold spec_l8Ends.f
  rw [l1In_eq]; simp only [Option.bind_some]
  by_cases h1 : 1 ≤ a ∧ a ≤ 50
  · simp only [h1, and_self, decide_true, if_true]
    rw [l1In_eq]; simp only [Option.bind_some]
    by_cases h2 : 1 ≤ b ∧ b ≤ 50
    · simp only [h2, and_self, decide_true, if_true, Bool.true_and]
    · simp only [h2, decide_false, Bool.false_eq_true, if_false, Bool.false_and, Bool.true_and]
  · simp only [h1, decide_false, Bool.false_eq_true, if_false, Bool.false_and]
theorem node_eq (a : Int) : impl_isNodeId.f a = some (decide (1 ≤ a ∧ a ≤ 50)) := by unfold impl_isNodeId.f; rw [in_eq]; rfl
theorem spec_netOk (next : Int) (xs : List IP) (hl : xs.length ≤ 2097152) : Ev (fun k => spec_NetOk.f k next xs) (netOk next xs) := by
  have loop : Ev (fun k => spec_NetOk.l0 k 0 next xs) ((List.range xs.length).all (pktOk next xs)) := by
    refine all_loop (F := fun k i => spec_NetOk.l0 k i next xs) (fun i hi r hr => ?_) (Ev.step (f := fun _ => some true) (fun k => ?_) (Ev.now _))
    · have j2 : ∀ b : Bool, Ev (fun k => spec_NetOk.j2 k (i : Int) b next xs) (!b && r) := by
        intro b
        refine Ev.step (f := fun k => if b = true then some false else spec_NetOk.l0 k ((i + 1 : Nat) : Int) next xs) (fun k => by simp only [spec_NetOk.j2]; rw [wrap_nat i (by omega)]) ?_
        cases b with
        | true => exact Ev.now _
        | false => exact hr
      refine Ev.step (f := fun k => spec_NetOk.j2 k (i : Int) (!(pktOk next xs i)) next xs) (fun k => ?_) (by have := j2 (!(pktOk next xs i)); rwa [Bool.not_not] at this)
      simp only [spec_NetOk.l0]; rw [if_pos (by omega), if_pos (by omega), l1In_eq, ends_eq]; simp only [Option.bind_some]
      unfold pktOk
      by_cases h1 : 1 ≤ (rd_T39 xs (i : Int)).f0 ∧ (rd_T39 xs (i : Int)).f0 ≤ wrap64 (next - 1)
      · simp only [h1, and_self, decide_true, if_true, Bool.true_and]
        generalize hE : (decide (1 ≤ (rd_T39 xs (i : Int)).f1 ∧ (rd_T39 xs (i : Int)).f1 ≤ 50) && (decide (1 ≤ (rd_T39 xs (i : Int)).f2 ∧ (rd_T39 xs (i : Int)).f2 ≤ 50) && decide (((rd_T39 xs (i : Int)).f3.size : Int) ≤ 20000))) = E
        cases E with
        | false => simp only [Bool.false_eq_true, if_false, Bool.false_and, Bool.not_false]
        | true =>
          simp only [if_true, Bool.true_and]
          by_cases h0 : i = 0
          · subst h0; simp
          · rw [if_pos (show (i : Int) > 0 by omega), wrap_pred i (by omega) (by omega), if_pos (by omega), if_pos (by omega)]
            congr 1
            by_cases h5 : (rd_T39 xs (i : Int)).f0 ≤ (rd_T39 xs ((i - 1 : Nat) : Int)).f0 <;> simp only [h0, h5, decide_true, decide_false, not_true, not_false_eq_true, Bool.or_true, Bool.or_false, Bool.not_true, Bool.not_false]
      · simp only [h1, decide_false, Bool.false_eq_true, if_false, Bool.false_and, Bool.not_false]
    · simp only [spec_NetOk.l0]; rw [if_neg (by omega)]
  have j0 : ∀ b : Bool, Ev (fun k => spec_NetOk.j0 k b next xs) (!b && (List.range xs.length).all (pktOk next xs)) := by
    intro b
    refine Ev.step (f := fun k => if b = true then some false else spec_NetOk.l0 k 0 next xs) (fun k => by simp only [spec_NetOk.j0]) ?_
    cases b with
    | true => exact Ev.now _
    | false => exact loop
  unfold spec_NetOk.f netOk
  simp only [l1In_eq, Option.bind_some]
  by_cases h1 : 1 ≤ next ∧ next ≤ 1000000000000
  · simp only [h1, and_self, decide_true, if_true, Bool.true_and]
    have := j0 (decide ((xs.length : Int) > 300))
    rwa [show (!decide ((xs.length : Int) > 300)) = decide ((xs.length : Int) ≤ 300) by by_cases h : (xs.length : Int) ≤ 300 <;> simp [h] <;> omega] at this
  · simp only [h1, decide_false, Bool.false_eq_true, if_false, Bool.false_and]
    have := j0 true; simpa using this
theorem impl_netOk (next : Int) (xs : List IP) (hl : xs.length ≤ 2097152) : Ev (fun k => impl_isNet.f k next xs) (netOk next xs) := by
  have loop : Ev (fun k => impl_isNet.l0 k xs (xs.length : Int) 0 next xs) ((List.range xs.length).all (pktOk next xs)) := by
    refine all_loop (F := fun k i => impl_isNet.l0 k xs (xs.length : Int) i next xs) (fun i hi r hr => ?_) (Ev.step (f := fun _ => some true) (fun k => ?_) (Ev.now _))
    · have j2 : ∀ b : Bool, Ev (fun k => impl_isNet.j2 k xs (xs.length : Int) (i : Int) b next xs) (!b && r) := by
        intro b
        refine Ev.step (f := fun k => if b = true then some false else impl_isNet.l0 k xs (xs.length : Int) ((i + 1 : Nat) : Int) next xs) (fun k => by simp only [impl_isNet.j2]; rw [wrap_nat i (by omega)]) ?_
        cases b with
        | true => exact Ev.now _
        | false => exact hr
      refine Ev.step (f := fun k => impl_isNet.j2 k xs (xs.length : Int) (i : Int) (!(pktOk next xs i)) next xs) (fun k => ?_) (by have := j2 (!(pktOk next xs i)); rwa [Bool.not_not] at this)
      simp only [impl_isNet.l0]; rw [if_pos (by omega), if_pos (by omega), if_pos (by omega), in_eq, node_eq, node_eq]; simp only [Option.bind_some]
      have ends : ∀ c : Bool, (!c) = true → (if decide (1 ≤ (rd_T39 xs (i : Int)).f1 ∧ (rd_T39 xs (i : Int)).f1 ≤ 50) = true then (if decide (1 ≤ (rd_T39 xs (i : Int)).f2 ∧ (rd_T39 xs (i : Int)).f2 ≤ 50) = true then impl_isNet.j2 k xs (xs.length : Int) (i : Int) (decide (((rd_T39 xs (i : Int)).f3.size : Int) > 20000)) next xs else impl_isNet.j2 k xs (xs.length : Int) (i : Int) true next xs) else impl_isNet.j2 k xs (xs.length : Int) (i : Int) true next xs) =
          impl_isNet.j2 k xs (xs.length : Int) (i : Int) (!(decide (1 ≤ (rd_T39 xs (i : Int)).f1 ∧ (rd_T39 xs (i : Int)).f1 ≤ 50) && (decide (1 ≤ (rd_T39 xs (i : Int)).f2 ∧ (rd_T39 xs (i : Int)).f2 ≤ 50) && decide (((rd_T39 xs (i : Int)).f3.size : Int) ≤ 20000)))) next xs := by
        intro c _
        by_cases g1 : 1 ≤ (rd_T39 xs (i : Int)).f1 ∧ (rd_T39 xs (i : Int)).f1 ≤ 50
        · by_cases g2 : 1 ≤ (rd_T39 xs (i : Int)).f2 ∧ (rd_T39 xs (i : Int)).f2 ≤ 50
          · simp only [g1, g2, and_self, decide_true, if_true, Bool.true_and]
            congr 1
            by_cases h : ((rd_T39 xs (i : Int)).f3.size : Int) ≤ 20000 <;> simp [h] <;> omega
          · simp only [g1, g2, and_self, decide_true, decide_false, Bool.false_eq_true, if_true, if_false, Bool.true_and, Bool.false_and, Bool.not_false]
        · simp only [g1, decide_false, Bool.false_eq_true, if_false, Bool.false_and, Bool.not_false]
      have ends := ends false rfl
      unfold pktOk
      by_cases h1 : 1 ≤ (rd_T39 xs (i : Int)).f0 ∧ (rd_T39 xs (i : Int)).f0 ≤ wrap64 (next - 1)
      · rw [show decide (1 ≤ (rd_T39 xs (i : Int)).f0 ∧ (rd_T39 xs (i : Int)).f0 ≤ wrap64 (next - 1)) = true by simpa using h1]
        simp only [if_true, Bool.true_and]
        by_cases h0 : i = 0
        · subst h0
          rw [if_neg (show ¬ (((0 : Nat) : Int) > 0) by omega), ends]; simp
        · rw [if_pos (show (i : Int) > 0 by omega), wrap_pred i (by omega) (by omega), if_pos (by omega), if_pos (by omega)]
          by_cases h3 : (rd_T39 xs ((i - 1 : Nat) : Int)).f0 ≥ (rd_T39 xs (i : Int)).f0
          · rw [if_pos h3]
            congr 1
            simp [h0, h3]
          · rw [if_neg h3, ends]
            congr 1
            simp [h0, show ¬ (rd_T39 xs (i : Int)).f0 ≤ (rd_T39 xs ((i - 1 : Nat) : Int)).f0 from h3]
      · rw [show decide (1 ≤ (rd_T39 xs (i : Int)).f0 ∧ (rd_T39 xs (i : Int)).f0 ≤ wrap64 (next - 1)) = false by simpa using h1]
        simp only [Bool.false_eq_true, if_false, Bool.false_and, Bool.not_false]
    · simp only [impl_isNet.l0]; rw [if_neg (by omega)]
  have j0 : ∀ b : Bool, Ev (fun k => impl_isNet.j0 k b next xs) (!b && (List.range xs.length).all (pktOk next xs)) := by
    intro b
    refine Ev.step (f := fun k => if b = true then some false else impl_isNet.l0 k xs (xs.length : Int) 0 next xs) (fun k => by simp only [impl_isNet.j0]) ?_
    cases b with
    | true => exact Ev.now _
    | false => exact loop
  unfold impl_isNet.f netOk
  simp only [in_eq, Option.bind_some]
  by_cases h1 : 1 ≤ next ∧ next ≤ 1000000000000
  · simp only [h1, and_self, decide_true, if_true, Bool.true_and]
    have := j0 (decide ((xs.length : Int) > 300))
    rwa [show (!decide ((xs.length : Int) > 300)) = decide ((xs.length : Int) ≤ 300) by by_cases h : (xs.length : Int) ≤ 300 <;> simp [h] <;> omega] at this
  · simp only [h1, decide_false, Bool.false_eq_true, if_false, Bool.false_and]
    have := j0 true; simpa using this
def endOk3 (x : IP) : Prop := (1 ≤ x.f1 ∧ x.f1 ≤ 50) ∧ (1 ≤ x.f2 ∧ x.f2 ≤ 50) ∧ (x.f3.size : Int) ≤ 20000
theorem netOk_is (n : Int) (xs : List IP) : netOk n xs = true ↔ (1 ≤ n ∧ n ≤ 1000000000000) ∧ xs.length ≤ 300 ∧ (∀ x ∈ xs, (1 ≤ x.f0 ∧ x.f0 ≤ wrap64 (n - 1)) ∧ endOk3 x) ∧ xs.Pairwise (fun a b => a.f0 < b.f0) := by
  have pk : ∀ (i : Nat) (h : i < xs.length), pktOk n xs i = true ↔ ((1 ≤ xs[i].f0 ∧ xs[i].f0 ≤ wrap64 (n - 1)) ∧ endOk3 xs[i]) ∧ (∀ h0 : 0 < i, (xs[i - 1]'(by omega)).f0 < xs[i].f0) := by
    intro i h
    unfold pktOk endOk3
    rw [rdI xs i h]
    simp only [Bool.and_eq_true, decide_eq_true_eq, Bool.or_eq_true]
    by_cases h0 : i = 0
    · subst h0
      constructor
      · rintro ⟨⟨a, b, c, d⟩, _⟩; exact ⟨⟨a, b, c, d⟩, fun h => absurd h (by omega)⟩
      · rintro ⟨⟨a, b, c, d⟩, _⟩; exact ⟨⟨a, b, c, d⟩, .inl rfl⟩
    · rw [rdI xs (i - 1) (by omega)]
      constructor
      · rintro ⟨⟨a, b, c, d⟩, e⟩
        refine ⟨⟨a, b, c, d⟩, fun _ => ?_⟩
        rcases e with e | e
        · exact absurd e h0
        · omega
      · rintro ⟨⟨a, b, c, d⟩, e⟩
        exact ⟨⟨a, b, c, d⟩, .inr (by have := e (by omega); omega)⟩
  unfold netOk
  simp only [Bool.and_eq_true, decide_eq_true_eq, List.all_eq_true, List.mem_range]
  constructor
  · rintro ⟨⟨h1, h2⟩, h3⟩
    have g : ∀ (i : Nat) (h : i < xs.length), ((1 ≤ xs[i].f0 ∧ xs[i].f0 ≤ wrap64 (n - 1)) ∧ endOk3 xs[i]) ∧ (∀ h0 : 0 < i, (xs[i - 1]'(by omega)).f0 < xs[i].f0) := fun i h => (pk i h).1 (h3 i h)
    refine ⟨h1, by omega, fun x hx => ?_, ?_⟩
    · obtain ⟨i, hi, rfl⟩ := List.getElem_of_mem hx
      exact (g i hi).1
    · rw [List.pairwise_iff_getElem]
      intro i j hi hj hij
      have : ∀ d i : Nat, (h : i + d + 1 < xs.length) → (xs[i]'(by omega)).f0 < xs[i + d + 1].f0 := by
        intro d
        induction d with
        | zero => intro i h; exact (g (i + 1) h).2 (by omega)
        | succ d ih =>
          intro i h
          have h1 := ih i (by omega)
          have h2 := (g (i + (d + 1) + 1) h).2 (by omega)
          exact Int.lt_trans h1 h2
      have := this (j - i - 1) i (by omega)
      simp only [show i + (j - i - 1) + 1 = j by omega] at this
      exact this
  · rintro ⟨h1, h2, h3, h4⟩
    refine ⟨⟨h1, by omega⟩, fun i hi => (pk i hi).2 ⟨h3 _ (List.getElem_mem hi), fun h0 => ?_⟩⟩
    rw [List.pairwise_iff_getElem] at h4
    exact h4 (i - 1) i (by omega) hi (by omega)
theorem netOk_sub (n : Int) (xs ys : List IP) (h : netOk n xs = true) (hs : ys.Sublist xs) : netOk n ys = true := by
  rw [netOk_is] at h ⊢
  obtain ⟨h1, h2, h3, h4⟩ := h
  exact ⟨h1, Nat.le_trans hs.length_le h2, fun x hx => h3 x (hs.subset hx), h4.sublist hs⟩
theorem rdN (l : List Int) (i : Nat) (h : i < l.length) : rd l (i : Int) = l[i] := getD_at l i 0 h
theorem any_loop {l : List Int} {x : Int} {F : Nat → Int → Option Bool} (hstep : ∀ i : Nat, (h : i < l.length) → ∀ k, F (k + 1) (i : Int) = if l[i] = x then some true else F k ((i + 1 : Nat) : Int)) (hend : ∀ k, F (k + 1) (l.length : Int) = some false) : Ev (fun k => F k 0) (l.contains x) := by
  have key : ∀ d i : Nat, i + d = l.length → Ev (fun k => F k (i : Int)) ((l.drop i).contains x) := by
    intro d
    induction d with
    | zero =>
      intro i hi
      obtain rfl : i = l.length := by omega
      rw [List.drop_length]
      exact Ev.step (f := fun _ => some false) hend (Ev.now _)
    | succ d ih =>
      intro i hi
      have hlt : i < l.length := by omega
      refine Ev.step (hstep i hlt) ?_
      rw [List.drop_eq_getElem_cons hlt, List.contains_cons]
      by_cases e : l[i] = x
      · simp only [if_pos e]; rw [show (x == l[i]) = true by simp [e], Bool.true_or]; exact Ev.now _
      · simp only [if_neg e]; rw [show (x == l[i]) = false by simp only [beq_eq_false_iff_ne]; exact fun h => e h.symm, Bool.false_or]; exact ih (i + 1) (by omega)
  simpa using key l.length 0 (by omega)
def endsOk (a b : Int) (s : ByteArray) : Bool := decide (1 ≤ a ∧ a ≤ 50) && (decide (1 ≤ b ∧ b ≤ 50) && decide ((s.size : Int) ≤ 20000))
def postM (n : Int) (xs : List IP) (a b : Int) (s : ByteArray) : Int × List IP × Int :=
  if netOk n xs = true then if endsOk a b s = true then if (xs.length : Int) = 300 then (n, xs, 3) else if n = 1000000000000 then (n, xs, 3) else (wrap64 (n + 1), xs ++ [⟨n, a, b, s⟩], 0) else (n, xs, 2) else (0, [], 1)
theorem postM_len (n : Int) (xs : List IP) (a b : Int) (s : ByteArray) : (postM n xs a b s).2.1.length ≤ xs.length + 1 := by
  unfold postM; repeat' split
  all_goals simp
theorem spec_post (n : Int) (xs : List IP) (a b : Int) (s : ByteArray) (hl : xs.length ≤ 1048576) : Ev (fun k => spec_Post.f k n xs a b s) (postM n xs a b s) := by
  unfold spec_Post.f postM endsOk spec_l8Copy.f
  refine Ev.bind (spec_netOk n xs (by omega)) ?_
  cases netOk n xs with
  | false => exact Ev.now _
  | true =>
    simp only [if_true, Option.bind_some, List.length_nil, Nat.zero_add, show xs.length < 3518437208883 by omega, List.nil_append, ends_eq]
    generalize (decide (1 ≤ a ∧ a ≤ 50) && (decide (1 ≤ b ∧ b ≤ 50) && decide ((s.size : Int) ≤ 20000))) = E
    cases E with
    | false => exact Ev.now _
    | true =>
      simp only [if_true]
      by_cases h1 : (xs.length : Int) = 300
      · simp only [if_pos h1]; exact Ev.now _
      · simp only [if_neg h1]
        by_cases h2 : n = 1000000000000
        · simp only [if_pos h2]; exact Ev.now _
        · simp only [if_neg h2]; exact Ev.now _
theorem impl_post (n : Int) (xs : List IP) (a b : Int) (s : ByteArray) (hl : xs.length ≤ 1048576) : Ev (fun k => impl_Post.f k n xs a b s) (postM n xs a b s) := by
  have j0 : ∀ c : Bool, Ev (fun k => impl_Post.j0 k a b s c n xs n xs) (if c = false then if (xs.length : Int) = 300 then (n, xs, 3) else if n = 1000000000000 then (n, xs, 3) else (wrap64 (n + 1), xs ++ [⟨n, a, b, s⟩], 0) else (n, xs, 2)) := by
    intro c
    refine Ev.step (f := fun _ => some (if c = false then if (xs.length : Int) = 300 then (n, xs, 3) else if n = 1000000000000 then (n, xs, 3) else (wrap64 (n + 1), xs ++ [⟨n, a, b, s⟩], 0) else (n, xs, 2))) (fun k => ?_) (Ev.now _)
    simp only [impl_Post.j0, show xs.length < 3518437208883 by omega, if_true]
    cases c with
    | true => rfl
    | false =>
      simp only [Bool.false_eq_true, if_false, if_true]
      by_cases h1 : (xs.length : Int) = 300
      · simp only [if_pos h1]
      · simp only [if_neg h1]
        by_cases h2 : n = 1000000000000
        · simp only [if_pos h2]
        · simp only [if_neg h2]
  unfold impl_Post.f postM endsOk impl_copyNet.f
  simp only [if_true, Option.bind_some, List.length_nil, Nat.zero_add, show xs.length < 3518437208883 by omega, List.nil_append, node_eq]
  refine Ev.bind (impl_netOk n xs (by omega)) ?_
  cases netOk n xs with
  | false => exact Ev.now _
  | true =>
    simp only [if_true]
    by_cases g1 : 1 ≤ a ∧ a ≤ 50
    · by_cases g2 : 1 ≤ b ∧ b ≤ 50
      · simp only [g1, g2, and_self, decide_true, if_true, Bool.true_and]
        have := j0 (decide ((s.size : Int) > 20000))
        by_cases h : (s.size : Int) ≤ 20000
        · simpa [h, show ¬ (s.size : Int) > 20000 by omega] using this
        · simpa [h, show (s.size : Int) > 20000 by omega] using this
      · simp only [g1, g2, and_self, decide_true, decide_false, Bool.false_eq_true, if_true, if_false, Bool.true_and, Bool.false_and]
        have := j0 true; simpa using this
    · simp only [g1, decide_false, Bool.false_eq_true, if_false, Bool.false_and]
      have := j0 true; simpa using this
def betweenM (n : Int) (xs : List IP) (a b : Int) : List Int := if netOk n xs = true then (xs.filter (fun p => decide (p.f1 = a) && decide (p.f2 = b))).map (fun p => p.f0) else []
def btw (a b : Int) (xs : List IP) : List Int := (xs.filter (fun p => decide (p.f1 = a) && decide (p.f2 = b))).map (fun p => p.f0)
theorem btw_snoc (a b : Int) (xs : List IP) (i : Nat) (h : i < xs.length) : btw a b (xs.take (i + 1)) = btw a b (xs.take i) ++ if xs[i].f1 = a ∧ xs[i].f2 = b then [xs[i].f0] else [] := by
  unfold btw
  rw [List.take_succ_eq_append_getElem h, List.filter_append, List.map_append]
  congr 1
  by_cases e : xs[i].f1 = a ∧ xs[i].f2 = b
  · simp [List.filter_cons, e]
  · rw [if_neg e]
    have : (decide (xs[i].f1 = a) && decide (xs[i].f2 = b)) = false := by simpa using e
    simp only [List.filter_cons, this, Bool.false_eq_true, if_false, List.filter_nil, List.map_nil]
theorem btw_short (a b : Int) (xs : List IP) (i : Nat) : (btw a b (xs.take i)).length ≤ xs.length := by
  unfold btw; rw [List.length_map]
  exact Nat.le_trans (List.length_filter_le _ _) (by rw [List.length_take]; omega)
theorem impl_between (n : Int) (xs : List IP) (a b : Int) (hl : xs.length ≤ 1048576) : Ev (fun k => impl_Between.f k n xs a b) (betweenM n xs a b) := by
  unfold impl_Between.f betweenM
  refine Ev.bind (impl_netOk n xs (by omega)) ?_
  cases netOk n xs with
  | false => exact Ev.now _
  | true =>
    simp only [if_true]
    refine fold_loop (n := xs.length) (F := fun k st i => impl_Between.l0 k a b st xs (xs.length : Int) i) (st := fun i => btw a b (xs.take i)) (fun i hi hr => ?_) (Ev.step (f := fun _ => some (btw a b xs)) (fun k => ?_) (Ev.now _))
    · have hs := btw_short a b xs i
      refine Ev.step (f := fun k => if xs[i].f1 = a ∧ xs[i].f2 = b then impl_Between.l0 k a b (btw a b (xs.take i) ++ [xs[i].f0]) xs (xs.length : Int) ((i + 1 : Nat) : Int) else impl_Between.l0 k a b (btw a b (xs.take i)) xs (xs.length : Int) ((i + 1 : Nat) : Int)) (fun k => ?_) ?_
      · simp only [impl_Between.l0]; rw [if_pos (by omega), if_pos (by omega), if_pos (by omega), rdI xs i hi, wrap_nat i (by omega)]
        by_cases e1 : xs[i].f1 = a
        · by_cases e2 : xs[i].f2 = b
          · rw [if_pos e1, if_pos e2, if_pos (show (btw a b (xs.take i)).length < 17592186044416 by omega), if_pos (show xs[i].f1 = a ∧ xs[i].f2 = b from ⟨e1, e2⟩)]
          · rw [if_pos e1, if_neg e2, if_neg (fun h => e2 h.2)]
        · rw [if_neg e1, if_neg (fun h => e1 h.1)]
      · simp only [btw_snoc a b xs i hi] at hr
        by_cases e : xs[i].f1 = a ∧ xs[i].f2 = b
        · simp only [if_pos e] at hr ⊢; exact hr
        · simp only [if_neg e, List.append_nil] at hr ⊢; exact hr
    · simp only [impl_Between.l0, List.take_length]; rw [if_neg (by omega)]
theorem betweenM_len (n : Int) (xs : List IP) (a b : Int) : (betweenM n xs a b).length ≤ xs.length := by
  unfold betweenM; split
  · rw [List.length_map]; exact List.length_filter_le _ _
  · simp
/-- A loop that looks for the first place of its kind. -/
theorem find_loop {α R : Type} (xs : List α) (p : α → Bool) {F : Nat → Int → Option R} (found : Nat → R) (none_ : R) (hstep : ∀ (i : Nat) (h : i < xs.length), p xs[i] = false → ∀ k, F (k + 1) (i : Int) = F k ((i + 1 : Nat) : Int))
    (hfound : ∀ (i : Nat) (h : i < xs.length), p xs[i] = true → Ev (fun k => F k (i : Int)) (found i)) (hend : Ev (fun k => F k (xs.length : Int)) none_) : Ev (fun k => F k 0) (match xs.findIdx? p with | some i => found i | none => none_) := by
  have key : ∀ d i : Nat, i + d = xs.length → (∀ (j : Nat) (h : j < xs.length), j < i → p xs[j] = false) → Ev (fun k => F k (i : Int)) (match xs.findIdx? p with | some i => found i | none => none_) := by
    intro d
    induction d with
    | zero =>
      intro i hi hno
      obtain rfl : i = xs.length := by omega
      have : xs.findIdx? p = none := by
        rw [List.findIdx?_eq_none_iff]
        intro x hx
        obtain ⟨j, hj, rfl⟩ := List.getElem_of_mem hx
        exact hno j hj hj
      rw [this]; exact hend
    | succ d ih =>
      intro i hi hno
      have hlt : i < xs.length := by omega
      cases hp : p xs[i] with
      | true =>
        have : xs.findIdx? p = some i := by
          rw [List.findIdx?_eq_some_iff_getElem]
          exact ⟨hlt, hp, fun j hj => by rw [hno j (by omega) hj]; simp⟩
        rw [this]; exact hfound i hlt hp
      | false =>
        refine Ev.step (hstep i hlt hp) (ih (i + 1) (by omega) (fun j hj hji => ?_))
        by_cases e : j = i
        · subst e; exact hp
        · exact hno j hj (by omega)
  exact key xs.length 0 (by omega) (fun j _ h => absurd h (by omega))
/-- What Take answers. -/
def takeM (n : Int) (xs : List IP) (id : Int) (keep : Bool) : Int × List IP × Int × Int × Int × ByteArray × Bool :=
  if netOk n xs = true then
    match xs.findIdx? (fun x => x.f0 == id) with
    | some i => (n, (if keep = true then xs else xs.eraseIdx i), (rd_T39 xs (i : Int)).f0, (rd_T39 xs (i : Int)).f1, (rd_T39 xs (i : Int)).f2, (rd_T39 xs (i : Int)).f3, true)
    | none => (n, xs, 0, 0, 0, ⟨#[]⟩, false)
  else (0, [], 0, 0, 0, ⟨#[]⟩, false)
theorem takeM_len (n : Int) (xs : List IP) (id : Int) (keep : Bool) : (takeM n xs id keep).2.1.length ≤ xs.length := by
  unfold takeM
  repeat' split
  all_goals first | exact Nat.le_refl _ | exact Nat.zero_le _ | exact List.length_eraseIdx_le _ _
theorem spec_takeNet (n : Int) (xs : List IP) (id : Int) (keep : Bool) (hl : xs.length ≤ 1048576) : Ev (fun k => spec_Take.f k n xs id keep) (takeM n xs id keep) := by
  unfold spec_Take.f takeM spec_l8Copy.f
  refine Ev.bind (spec_netOk n xs (by omega)) ?_
  cases netOk n xs with
  | false => exact Ev.now _
  | true =>
    simp only [if_true]
    refine Ev.bind (a := (n, xs)) ?_ ?_
    · refine Ev.is ?_
      rw [Option.bind_some, if_pos (by simp only [List.length_nil]; omega), List.nil_append]
    refine find_loop xs (fun x => x.f0 == id) (F := fun k i => spec_Take.l0 k id keep i n xs n xs) (fun i => (n, (if keep = true then xs else xs.eraseIdx i), (rd_T39 xs (i : Int)).f0, (rd_T39 xs (i : Int)).f1, (rd_T39 xs (i : Int)).f2, (rd_T39 xs (i : Int)).f3, true)) (n, xs, 0, 0, 0, ⟨#[]⟩, false) (fun i h hp k => ?_) (fun i h hp => ?_) ?_
    · have hp : ¬ xs[i].f0 = id := by simpa using hp
      simp only [spec_Take.l0]; rw [if_pos (by omega), if_pos (by omega), rdI xs i h, if_neg hp, wrap_nat i (by omega)]
    · have hp : xs[i].f0 = id := by simpa using hp
      refine Ev.step (f := fun _ => some (n, (if keep = true then xs else xs.eraseIdx i), (rd_T39 xs (i : Int)).f0, (rd_T39 xs (i : Int)).f1, (rd_T39 xs (i : Int)).f2, (rd_T39 xs (i : Int)).f3, true)) (fun k => ?_) (Ev.now _)
      simp only [spec_Take.l0]; rw [if_pos (by omega), if_pos (by omega), rdI xs i h, if_pos hp]
      cases keep with
      | true => rfl
      | false => rw [if_neg (by simp), if_pos (by omega), wrap_nat i (by omega), if_pos (by omega), if_pos (by omega), Int.toNat_natCast]; rfl
    · refine Ev.step (f := fun _ => some (n, xs, 0, 0, 0, ⟨#[]⟩, false)) (fun k => ?_) (Ev.now _)
      simp only [spec_Take.l0]; rw [if_neg (by omega)]
theorem at_find (xs : List IP) (id : Int) : ∀ d i : Nat, i + d = xs.length → impl_Packet_43.at xs id d i = match (xs.drop i).findIdx? (fun x => x.f0 == id) with | some j => ((i + j : Nat) : Int) | none => -1 := by
  intro d
  induction d with
  | zero => intro i hi; rw [List.drop_eq_nil_of_le (by omega)]; rfl
  | succ d ih =>
    intro i hi
    unfold impl_Packet_43.at
    have hlt : i < xs.length := by omega
    rw [rdI xs i hlt, List.drop_eq_getElem_cons hlt, List.findIdx?_cons]
    by_cases h : xs[i].f0 = id
    · rw [if_pos h, if_pos (by simpa using h)]; rfl
    · rw [if_neg h, if_neg (by simpa using h), ih (i + 1) (by omega)]
      cases (xs.drop (i + 1)).findIdx? (fun x => x.f0 == id) with
      | none => rfl
      | some j => simp only [Option.map_some]; congr 1; omega
theorem impl_takeNet (n : Int) (xs : List IP) (id : Int) (keep : Bool) (hl : xs.length ≤ 1048576) : Ev (fun k => impl_Take.f k n xs id keep) (takeM n xs id keep) := by
  unfold impl_Take.f takeM impl_copyNet.f
  have hc : (if ([] : List IP).length + xs.length < 2932031007403 then some (n, ([] : List IP) ++ xs) else none) = some (n, xs) := by rw [if_pos (by simp only [List.length_nil]; omega), List.nil_append]
  refine Ev.bind (a := (n, xs)) ?_ ?_
  · refine Ev.is ?_
    rw [Option.bind_some, if_pos (by simp only [List.length_nil]; omega), List.nil_append]
  refine Ev.bind (impl_netOk n xs (by omega)) ?_
  cases netOk n xs with
  | false => exact Ev.now _
  | true =>
    simp only [if_true]
    have hat := at_find xs id xs.length 0 (by omega)
    simp only [List.drop_zero, Nat.zero_add] at hat
    refine Ev.bind (a := impl_Packet_43.at xs id xs.length 0) (Ev.is (by unfold impl_Packet_43.f; rw [if_pos (by omega)])) ?_
    rw [hat]
    cases hf : xs.findIdx? (fun x => x.f0 == id) with
    | none => simp only [if_pos (show (-1 : Int) < 0 by omega)]; exact Ev.now _
    | some i =>
      have hi : i < xs.length := by
        have := List.findIdx?_eq_some_iff_getElem.1 hf
        exact this.1
      have ew : wrap64 ((i : Int) + 1) = (i : Int) + 1 := by unfold wrap64; omega
      simp only [if_neg (show ¬ (i : Int) < 0 by omega), if_pos (show (0 : Int) ≤ (i : Int) by omega), if_pos (show (i : Int) < (xs.length : Int) by omega)]
      cases keep with
      | true => simp only [if_true]; exact Ev.now _
      | false =>
        simp only [Bool.false_eq_true, if_false]
        refine Ev.bind (a := xs.eraseIdx i) (Ev.is (by unfold impl_Packet_45.f; rw [ew, if_pos ⟨by omega, rfl, by omega⟩, Int.toNat_natCast])) (Ev.now _)
section
variable {l : List Int} (hb : ∀ x ∈ l, (Lit.int .u8 x).wf = true) (hm : l.length ≤ 140737488351232)
include hb in
theorem rd_u8 (i : Int) : 0 ≤ rd l i ∧ rd l i ≤ 255 := by
  unfold rd
  rw [List.getD_eq_getElem?_getD]
  by_cases h : i.toNat < l.length
  · rw [List.getElem?_eq_getElem h]; exact wf_u8 (hb _ (List.getElem_mem h))
  · rw [List.getElem?_eq_none (by omega)]; simp
include hb hm in
theorem next_ok (p : Int) (h0 : 0 ≤ p) (h1 : p ≤ l.length) : ∃ c q, spec_l1Rd_next.f l p = some (c, q) ∧ 0 ≤ c ∧ c ≤ 255 ∧ 0 ≤ q ∧ q ≤ l.length := by
  unfold spec_l1Rd_next.f
  by_cases h : p ≥ (l.length : Int)
  · exact ⟨0, p, by rw [if_pos h], by omega, by omega, h0, h1⟩
  · have e1 : wrap64 (p + 1) = p + 1 := by unfold wrap64; omega
    have e2 : wrap64 (p + 1 - 1) = p := by unfold wrap64; omega
    obtain ⟨r0, r1⟩ := rd_u8 hb p
    have e3 : wrap64 (rd l p) = rd l p := by unfold wrap64; omega
    exact ⟨rd l p, p + 1, by rw [if_neg h, e1, e2, if_pos h0, if_pos (by omega), e3], r0, r1, by omega, by omega⟩
include hb hm in
theorem below_ok (p n : Int) (h0 : 0 ≤ p) (h1 : p ≤ l.length) (n0 : 1 ≤ n) (n1 : n ≤ 1000000) : ∃ c q, spec_l1Rd_below.f l p n = some (c, q) ∧ 0 ≤ c ∧ c < n ∧ 0 ≤ q ∧ q ≤ l.length := by
  unfold spec_l1Rd_below.f
  by_cases h : n ≤ 1
  · exact ⟨0, p, by rw [if_pos h], by omega, by omega, h0, h1⟩
  · rw [if_neg h]
    obtain ⟨c, q, hc, c0, c1, q0, q1⟩ := next_ok hb hm p h0 h1
    by_cases h2 : n ≤ 256
    · refine ⟨c % n, q, ?_, Int.emod_nonneg _ (by omega), Int.emod_lt_of_pos _ (by omega), q0, q1⟩
      rw [if_pos h2, hc]; simp only [Option.bind_some]; rw [if_neg (by omega), Int.tmod_eq_emod_of_nonneg c0]
    · obtain ⟨d, q', hd, d0, d1, q0', q1'⟩ := next_ok hb hm q q0 q1
      have e : wrap64 (wrap64 (c * 256) + d) = c * 256 + d := by unfold wrap64; omega
      refine ⟨(c * 256 + d) % n, q', ?_, Int.emod_nonneg _ (by omega), Int.emod_lt_of_pos _ (by omega), q0', q1'⟩
      rw [if_neg h2, hc]; simp only [Option.bind_some]; rw [hd]; simp only [Option.bind_some]; rw [if_neg (by omega), e, Int.tmod_eq_emod_of_nonneg (by omega)]
include hb hm in
theorem once_ok (p n : Int) (h0 : 0 ≤ p) (h1 : p ≤ l.length) (n0 : 1 ≤ n) (n1 : n ≤ 1000000) : ∃ b q, spec_l1Rd_once.f l p n = some (b, q) ∧ 0 ≤ q ∧ q ≤ l.length := by
  unfold spec_l1Rd_once.f
  obtain ⟨c, q, hc, c0, c1, q0, q1⟩ := below_ok hb hm p n h0 h1 n0 n1
  exact ⟨_, q, by rw [hc]; rfl, q0, q1⟩
theorem or_u64_range (x y : Int) : 0 ≤ Go.bits .or .u64 x y ∧ Go.bits .or .u64 x y ≤ 18446744073709551615 := by
  simp only [Go.bits, IntKind.wrap_u64]; omega
include hb hm in
theorem word_loop (d : Nat) : ∀ (x j p : Int), j + d = 8 → 0 ≤ j → 0 ≤ x → x ≤ 18446744073709551615 → 0 ≤ p → p ≤ l.length → ∃ r q, Ev (fun k => spec_l1Rd_word.l0 k x j l p) (r, q) ∧ 0 ≤ r ∧ r ≤ 18446744073709551615 ∧ 0 ≤ q ∧ q ≤ l.length := by
  induction d with
  | zero =>
    intro x j p hj hj0 x0 x1 h0 h1
    refine ⟨x, p, Ev.step (f := fun _ => some (x, p)) (fun k => ?_) (Ev.now _), x0, x1, h0, h1⟩
    simp only [spec_l1Rd_word.l0]; rw [if_neg (by omega)]
  | succ d ih =>
    intro x j p hj hj0 x0 x1 h0 h1
    obtain ⟨c, q, hc, c0, c1, q0, q1⟩ := next_ok hb hm p h0 h1
    obtain ⟨r0, r1⟩ := or_u64_range (IntKind.u64.wrap (x * 256)) (IntKind.u64.wrap c)
    obtain ⟨r, q', hr, h⟩ := ih _ (j + 1) q (by omega) (by omega) r0 r1 q0 q1
    refine ⟨r, q', Ev.step (f := fun k => spec_l1Rd_word.l0 k (Go.bits .or .u64 (IntKind.u64.wrap (x * 256)) (IntKind.u64.wrap c)) (j + 1) l q) (fun k => ?_) hr, h⟩
    simp only [spec_l1Rd_word.l0]; rw [if_pos (by omega), hc]; simp only [Option.bind_some]
    rw [show wrap64 (j + 1) = j + 1 by unfold wrap64; omega]
include hb hm in
theorem word_ok (p : Int) (h0 : 0 ≤ p) (h1 : p ≤ l.length) : ∃ r q, Ev (fun k => spec_l1Rd_word.f k l p) (r, q) ∧ 0 ≤ r ∧ r ≤ 18446744073709551615 ∧ 0 ≤ q ∧ q ≤ l.length := by
  unfold spec_l1Rd_word.f
  exact word_loop hb hm 8 0 0 p (by omega) (by omega) (by omega) (by omega) h0 h1
include hb hm in
theorem near_ok (p lo hi : Int) (h0 : 0 ≤ p) (h1 : p ≤ l.length) (b0 : -4611686018427387904 ≤ lo) (b1 : lo ≤ hi) (b2 : hi ≤ 4611686018427387903) :
    ∃ r q, Ev (fun k => spec_l1Rd_near.f k l p lo hi) (r, q) ∧ lo ≤ r ∧ r ≤ hi ∧ 0 ≤ q ∧ q ≤ l.length := by
  unfold spec_l1Rd_near.f
  obtain ⟨c, q, hc, c0, c1, q0, q1⟩ := below_ok hb hm p 8 h0 h1 (by omega) (by omega)
  simp only [hc, Option.bind_some]
  by_cases z0 : c = 0
  · exact ⟨lo, q, by simp only [if_pos z0]; exact Ev.now _, by omega, by omega, q0, q1⟩
  by_cases z1 : c = 1
  · exact ⟨hi, q, by simp only [if_neg z0, if_pos z1]; exact Ev.now _, by omega, by omega, q0, q1⟩
  obtain ⟨r, q', hr, r0, r1, q0', q1'⟩ := word_ok hb hm q q0 q1
  have e1 : IntKind.u64.wrap (wrap64 (wrap64 (hi - lo) + 1)) = hi - lo + 1 := by rw [IntKind.wrap_u64]; unfold wrap64; omega
  have m0 : 0 ≤ (r / 2) % (hi - lo + 1) := Int.emod_nonneg _ (by omega)
  have m1 : (r / 2) % (hi - lo + 1) < hi - lo + 1 := Int.emod_lt_of_pos _ (by omega)
  have e2 : wrap64 (lo + wrap64 (Int.tmod (r / 2) (hi - lo + 1))) = lo + (r / 2) % (hi - lo + 1) := by
    rw [Int.tmod_eq_emod_of_nonneg (by omega)]; unfold wrap64; omega
  refine ⟨lo + (r / 2) % (hi - lo + 1), q', ?_, by omega, by omega, q0', q1'⟩
  simp only [if_neg z0, if_neg z1, if_neg (show ¬ hi < lo by omega), e1, if_neg (show ¬ hi - lo + 1 = 0 by omega)]
  refine Ev.bind hr ?_
  simp only [e2]; exact Ev.now _
include hb hm in
theorem off_ok (p lo hi : Int) (h0 : 0 ≤ p) (h1 : p ≤ l.length) (b0 : -4611686018427387904 ≤ lo) (b1 : lo ≤ hi) (b2 : hi ≤ 4611686018427387903) :
    ∃ r q, Ev (fun k => spec_l1Rd_off.f k l p lo hi) (r, q) ∧ -9223372036854775808 ≤ r ∧ r ≤ 9223372036854775807 ∧ 0 ≤ q ∧ q ≤ l.length := by
  unfold spec_l1Rd_off.f
  obtain ⟨b, q, hc, q0, q1⟩ := once_ok hb hm p 24 h0 h1 (by omega) (by omega)
  simp only [hc, Option.bind_some]
  cases b with
  | true =>
    obtain ⟨c, q', hd, c0, c1, q0', q1'⟩ := below_ok hb hm q 4 q0 q1 (by omega) (by omega)
    simp only [hd, Option.bind_some, if_true]
    rw [if_pos c0, if_pos (by simp; omega)]
    refine ⟨_, q', Ev.now _, ?_, ?_, q0', q1'⟩
    all_goals
      have : c = 0 ∨ c = 1 ∨ c = 2 ∨ c = 3 := by omega
      rcases this with rfl | rfl | rfl | rfl <;> simp [rd] <;> unfold wrap64 <;> omega
  | false =>
    obtain ⟨r, q', hr, r0, r1, q0', q1'⟩ := near_ok hb hm q lo hi q0 q1 b0 b1 b2
    refine ⟨r, q', ?_, by omega, by omega, q0', q1'⟩
    simp only [Bool.false_eq_true, if_false]
    exact Ev.bind hr (Ev.now _)
include hb hm in
theorem data_ok (p : Int) (h0 : 0 ≤ p) (h1 : p ≤ l.length) : ∃ (s : ByteArray) (q : Int), spec_l1Rd_data.f l p = some (s, q) ∧ s.size ≤ 6 ∧ 0 ≤ q ∧ q ≤ l.length := by
  unfold spec_l1Rd_data.f
  obtain ⟨c, q, hc, c0, c1, q0, q1⟩ := below_ok hb hm p 8 h0 h1 (by omega) (by omega)
  simp only [Option.bind_some, hc]
  rw [if_pos c0, if_pos (by simp only [List.length_cons, List.length_nil]; omega)]
  refine ⟨_, q, rfl, ?_, q0, q1⟩
  have : c = 0 ∨ c = 1 ∨ c = 2 ∨ c = 3 ∨ c = 4 ∨ c = 5 ∨ c = 6 ∨ c = 7 := by omega
  rcases this with rfl | rfl | rfl | rfl | rfl | rfl | rfl | rfl <;> decide
include hb hm in
theorem size_ok (p per most : Int) (h0 : 0 ≤ p) (h1 : p ≤ l.length) (a0 : 1 ≤ per) (b0 : 1 ≤ most) (b1 : most ≤ 1000) : ∃ c q, spec_l1Rd_size.f l p per most = some (c, q) ∧ 1 ≤ c ∧ c ≤ most ∧ 0 ≤ q ∧ q ≤ l.length := by
  unfold spec_l1Rd_size.f
  rw [if_neg (by omega)]
  have hd : 0 ≤ (l.length : Int) / per := Int.ediv_nonneg (by omega) (by omega)
  have hd2 : (l.length : Int) / per ≤ l.length := Int.ediv_le_self _ (by omega)
  generalize (l.length : Int) / per = D at hd hd2
  have e : wrap64 (1 + wrap64 D) = 1 + D := by unfold wrap64; omega
  rw [e]
  clear e
  by_cases h : 1 + D > most
  · obtain ⟨c, q, hc, c0, c1, q0, q1⟩ := below_ok hb hm p most h0 h1 (by omega) (by omega)
    refine ⟨1 + c, q, ?_, by omega, by omega, q0, q1⟩
    rw [if_pos h, hc, Option.bind_some, show wrap64 (1 + c) = 1 + c by unfold wrap64; omega]
  · obtain ⟨c, q, hc, c0, c1, q0, q1⟩ := below_ok hb hm p (1 + D) h0 h1 (by omega) (by omega)
    refine ⟨1 + c, q, ?_, by omega, by omega, q0, q1⟩
    rw [if_neg h, hc, Option.bind_some, show wrap64 (1 + c) = 1 + c by unfold wrap64; omega]
theorem net_fill (p : Int) (d : Nat) : ∀ (n : Int) (xs : List IP), 300 - xs.length ≤ d → xs.length ≤ 1000 → ∃ (n' : Int) (ys : List IP), Ev (fun k => spec_l1Rd_net.l1 k l p n xs) (n', ys, p) ∧ ys.length ≤ 1000 := by
  induction d with
  | zero =>
    intro n xs hd hx
    refine ⟨n, xs, Ev.step (f := fun _ => some (n, xs, p)) (fun k => ?_) (Ev.now _), hx⟩
    simp only [spec_l1Rd_net.l1]; rw [if_neg (by omega)]
  | succ d ih =>
    intro n xs hd hx
    by_cases h : (xs.length : Int) < 300
    · obtain ⟨n', ys, he, hy⟩ := ih (wrap64 (n + 1)) (xs ++ [⟨n, 1, 2, ⟨#[]⟩⟩]) (by simp only [List.length_append, List.length_cons, List.length_nil]; omega) (by simp only [List.length_append, List.length_cons, List.length_nil]; omega)
      refine ⟨n', ys, Ev.step (fun k => ?_) he, hy⟩
      simp only [spec_l1Rd_net.l1]; rw [if_pos h, if_pos (by omega)]
    · refine ⟨n, xs, Ev.step (f := fun _ => some (n, xs, p)) (fun k => ?_) (Ev.now _), hx⟩
      simp only [spec_l1Rd_net.l1]; rw [if_neg h]
include hb hm in
theorem net_loop (d : Nat) : ∀ (z p n : Int) (xs : List IP), z.toNat ≤ d → z ≤ 1000 → xs.length + z.toNat ≤ 500 → 0 ≤ p → p ≤ l.length → ∃ (n' : Int) (ys : List IP) (q : Int), Ev (fun k => spec_l1Rd_net.l0 k z l p n xs) (n', ys, q) ∧ ys.length ≤ 1000 ∧ 0 ≤ q ∧ q ≤ l.length := by
  have stop : ∀ (z p n : Int) (xs : List IP), ¬ z > 0 → xs.length ≤ 500 → 0 ≤ p → p ≤ l.length → ∃ (n' : Int) (ys : List IP) (q : Int), Ev (fun k => spec_l1Rd_net.l0 k z l p n xs) (n', ys, q) ∧ ys.length ≤ 1000 ∧ 0 ≤ q ∧ q ≤ l.length := by
    intro z p n xs hz hx h0 h1
    obtain ⟨c, q, hc, c0, c1, q0, q1⟩ := below_ok hb hm p 40 h0 h1 (by omega) (by omega)
    have base : ∀ k, spec_l1Rd_net.l0 (k + 1) z l p n xs = (if c = 0 then ((spec_l1Rd_off.f k l q 1 1000000000000).bind fun bt222 => (some (bt222.1, xs, bt222.2))) else (if c = 1 then (if xs.length < 3518437208883 then (some (n, (xs ++ [(⟨1, 1, 1, (⟨#[]⟩ : ByteArray)⟩ : IP)]), q)) else (none)) else (if c = 2 then (spec_l1Rd_net.l1 k l q n xs) else (some (n, xs, q))))) := fun k => by
      simp only [spec_l1Rd_net.l0]; rw [if_neg hz, hc, Option.bind_some]
    by_cases z0 : c = 0
    · obtain ⟨b, q3, hd, _, _, b1, b2⟩ := off_ok hb hm q 1 1000000000000 q0 q1 (by omega) (by omega) (by omega)
      exact ⟨b, xs, q3, Ev.step (f := fun k => (spec_l1Rd_off.f k l q 1 1000000000000).bind fun x => some (x.1, xs, x.2)) (fun k => by rw [base, if_pos z0]) (Ev.bind hd (Ev.now _)), by omega, b1, b2⟩
    by_cases z1 : c = 1
    · exact ⟨n, xs ++ [⟨1, 1, 1, ⟨#[]⟩⟩], q, Ev.step (f := fun _ => some (n, xs ++ [⟨1, 1, 1, ⟨#[]⟩⟩], q)) (fun k => by rw [base, if_neg z0, if_pos z1, if_pos (by omega)]) (Ev.now _), by simp only [List.length_append, List.length_cons, List.length_nil]; omega, q0, q1⟩
    by_cases z2 : c = 2
    · obtain ⟨n', ys, he, hy⟩ := net_fill (l := l) q 300 n xs (by omega) (by omega)
      exact ⟨n', ys, q, Ev.step (fun k => by rw [base, if_neg z0, if_neg z1, if_pos z2]) he, hy, q0, q1⟩
    exact ⟨n, xs, q, Ev.step (f := fun _ => some (n, xs, q)) (fun k => by rw [base, if_neg z0, if_neg z1, if_neg z2]) (Ev.now _), by omega, q0, q1⟩
  induction d with
  | zero => intro z p n xs hd hz hx h0 h1; exact stop z p n xs (by omega) (by omega) h0 h1
  | succ d ih =>
    intro z p n xs hd hz hx h0 h1
    by_cases h : z > 0
    · obtain ⟨a, q1, ha, a0, a1, q10, q11⟩ := below_ok hb hm p 3 h0 h1 (by omega) (by omega)
      obtain ⟨b, q2, hbb, b0, b1, q20, q21⟩ := below_ok hb hm q1 3 q10 q11 (by omega) (by omega)
      obtain ⟨s, q3, hs, s0, q30, q31⟩ := data_ok hb hm q2 q20 q21
      have hp := spec_post n xs (wrap64 (1 + a)) (wrap64 (1 + b)) s (by omega)
      have hpl := postM_len n xs (wrap64 (1 + a)) (wrap64 (1 + b)) s
      have step : ∀ k, spec_l1Rd_net.l0 (k + 1) z l p n xs = (spec_Post.f k n xs (wrap64 (1 + a)) (wrap64 (1 + b)) s).bind fun bt200 => (if bt200.2.2 = 0 then (spec_l1Rd_net.j1 k z l q3 bt200.1 bt200.2.1) else (spec_l1Rd_net.j1 k z l q3 n xs)) := fun k => by
        simp only [spec_l1Rd_net.l0]; rw [if_pos h, ha, Option.bind_some, hbb, Option.bind_some, hs, Option.bind_some]
      have e : wrap64 (z - 1) = z - 1 := by unfold wrap64; omega
      -- behind the post
      have j1 : ∀ (n1 : Int) (ys : List IP), ys.length + (z - 1).toNat ≤ 500 → ∃ (n' : Int) (zs : List IP) (q : Int), Ev (fun k => spec_l1Rd_net.j1 k z l q3 n1 ys) (n', zs, q) ∧ zs.length ≤ 1000 ∧ 0 ≤ q ∧ q ≤ l.length := by
        intro n1 ys hy
        have j2f : ∀ q4 : Int, 0 ≤ q4 → q4 ≤ l.length → ∃ (n' : Int) (zs : List IP) (q : Int), Ev (fun k => spec_l1Rd_net.j2 k z false l q4 n1 ys) (n', zs, q) ∧ zs.length ≤ 1000 ∧ 0 ≤ q ∧ q ≤ l.length := by
          intro q4 q40 q41
          obtain ⟨n', zs, q, he, r⟩ := ih (z - 1) q4 n1 ys (by omega) (by omega) hy q40 q41
          exact ⟨n', zs, q, Ev.step (fun k => by simp only [spec_l1Rd_net.j2, Bool.false_eq_true, if_false, e]) he, r⟩
        obtain ⟨c, q4, hc, q40, q41⟩ := once_ok hb hm q3 5 q30 q31 (by omega) (by omega)
        cases c with
        | false =>
          obtain ⟨n', zs, q, he, r⟩ := j2f q4 q40 q41
          exact ⟨n', zs, q, Ev.step (fun k => by simp only [spec_l1Rd_net.j1]; rw [hc, Option.bind_some, if_neg (by simp)]) he, r⟩
        | true =>
          by_cases hpos : (ys.length : Int) > 0
          · obtain ⟨i, q5, hi, i0, i1, q50, q51⟩ := below_ok hb hm q4 (ys.length : Int) q40 q41 (by omega) (by omega)
            have htk := spec_takeNet n1 ys (rd_T39 ys i).f0 false (by omega)
            have htl := takeM_len n1 ys (rd_T39 ys i).f0 false
            generalize takeM n1 ys (rd_T39 ys i).f0 false = T at htk htl
            obtain ⟨n', zs, q, he, r⟩ := ih (z - 1) q5 T.1 T.2.1 (by omega) (by omega) (by omega) q50 q51
            refine ⟨n', zs, q, Ev.step (f := fun k => spec_l1Rd_net.j2 k z true l q4 n1 ys) (fun k => by simp only [spec_l1Rd_net.j1]; rw [hc, Option.bind_some, if_pos rfl, decide_eq_true hpos]) ?_, r⟩
            refine Ev.step (f := fun k => (spec_Take.f k n1 ys (rd_T39 ys i).f0 false).bind fun x => spec_l1Rd_net.l0 k (z - 1) l q5 x.1 x.2.1) (fun k => ?_) (Ev.bind htk he)
            simp only [spec_l1Rd_net.j2, if_true, e]; rw [hi, Option.bind_some, if_pos i0, if_pos i1]
          · obtain ⟨n', zs, q, he, r⟩ := j2f q4 q40 q41
            exact ⟨n', zs, q, Ev.step (fun k => by simp only [spec_l1Rd_net.j1]; rw [hc, Option.bind_some, if_pos rfl, decide_eq_false hpos]) he, r⟩
      generalize postM n xs (wrap64 (1 + a)) (wrap64 (1 + b)) s = P at hp hpl
      by_cases hc : P.2.2 = 0
      · obtain ⟨n', zs, q, he, r⟩ := j1 P.1 P.2.1 (by omega)
        refine ⟨n', zs, q, Ev.step step (Ev.bind hp ?_), r⟩
        simp only [if_pos hc]; exact he
      · obtain ⟨n', zs, q, he, r⟩ := j1 n xs (by omega)
        refine ⟨n', zs, q, Ev.step step (Ev.bind hp ?_), r⟩
        simp only [if_neg hc]; exact he
    · exact stop z p n xs h (by omega) h0 h1
include hb hm in
theorem netDraw_ok (p : Int) (h0 : 0 ≤ p) (h1 : p ≤ l.length) : ∃ (n : Int) (xs : List IP) (q : Int), Ev (fun k => spec_l1Rd_net.f k l p) (n, xs, q) ∧ xs.length ≤ 1000 ∧ 0 ≤ q ∧ q ≤ l.length := by
  unfold spec_l1Rd_net.f
  obtain ⟨c, q, hc, c0, c1, q0, q1⟩ := size_ok hb hm p 3 8 h0 h1 (by omega) (by omega) (by omega)
  obtain ⟨n, xs, q', he, hx, r⟩ := net_loop hb hm c.toNat c q 1 [] (Nat.le_refl _) (by omega) (by simp only [List.length_nil]; omega) q0 q1
  exact ⟨n, xs, q', Ev.bind (Ev.is hc) he, hx, r⟩
include hb hm in
theorem drawPost_ok : ∃ (n : Int) (xs : List IP) (a b : Int) (s : ByteArray), Ev (fun k => spec_DrawPost.f k l) (n, xs, a, b, s) ∧ xs.length ≤ 1000 := by
  unfold spec_DrawPost.f spec_l1Open.f
  obtain ⟨n, xs, q, hn, hx, q0, q1⟩ := netDraw_ok hb hm 0 (by omega) (by omega)
  obtain ⟨s, q2, hs, _, q20, q21⟩ := data_ok hb hm q q0 q1
  obtain ⟨o, q3, ho, q30, q31⟩ := once_ok hb hm q2 30 q20 q21 (by omega) (by omega)
  cases o with
  | true =>
    obtain ⟨c, q4, hc, c0, c1, q40, q41⟩ := below_ok hb hm q3 2 q30 q31 (by omega) (by omega)
    obtain ⟨a, q5, ha, _, _, q50, q51⟩ := off_ok hb hm q4 1 50 q40 q41 (by omega) (by omega) (by omega)
    obtain ⟨b, q6, hb', _, _, q60, q61⟩ := off_ok hb hm q5 1 50 q50 q51 (by omega) (by omega) (by omega)
    have ew : wrap64 (20000 + c) = 20000 + c := by unfold wrap64; omega
    refine ⟨n, xs, a, b, strOfNums (List.replicate (20000 + c).toNat 0), Ev.bind (Ev.now (l, (0 : Int))) (Ev.bind hn (Ev.bind (Ev.is hs) (Ev.bind (Ev.is ho) ?_))), hx⟩
    simp only [if_true]
    refine Ev.bind (Ev.is hc) ?_
    simp only [ew, if_pos (show 0 ≤ 20000 + c by omega), if_pos (show (20000 + c).toNat ≤ 281474976710656 by omega)]
    exact Ev.bind ha (Ev.bind hb' (Ev.now _))
  | false =>
    obtain ⟨a, q5, ha, _, _, q50, q51⟩ := off_ok hb hm q3 1 50 q30 q31 (by omega) (by omega) (by omega)
    obtain ⟨b, q6, hb', _, _, q60, q61⟩ := off_ok hb hm q5 1 50 q50 q51 (by omega) (by omega) (by omega)
    refine ⟨n, xs, a, b, s, Ev.bind (Ev.now (l, (0 : Int))) (Ev.bind hn (Ev.bind (Ev.is hs) (Ev.bind (Ev.is ho) ?_))), hx⟩
    simp only [Bool.false_eq_true, if_false]
    exact Ev.bind ha (Ev.bind hb' (Ev.now _))
end
theorem law_has (l : List Int) (x : Int) (hl : l.length ≤ 2097152) : Ev (fun k => laws_hasInt.f k l x) (l.contains x) := by
  unfold laws_hasInt.f
  refine any_loop (F := fun k i => laws_hasInt.l0 k l x i) (fun i h k => ?_) (fun k => ?_)
  · simp only [laws_hasInt.l0]; rw [if_pos (by omega), if_pos (by omega), rdN l i h, wrap_nat i (by omega)]
  · simp only [laws_hasInt.l0]; rw [if_neg (by omega)]
/-- What is posted keeps the net right. -/
theorem netOk_post {n : Int} {xs : List IP} {a b : Int} {s : ByteArray} (h : netOk n xs = true) (he : endsOk a b s = true) (hl : (xs.length : Int) ≠ 300) (hn : n ≠ 1000000000000) : netOk (n + 1) (xs ++ [⟨n, a, b, s⟩]) = true ∧ netOk (n + 1) xs = true := by
  rw [netOk_is] at h
  obtain ⟨h1, h2, h3, h4⟩ := h
  unfold endsOk at he
  simp only [Bool.and_eq_true, decide_eq_true_eq] at he
  have w1 : wrap64 (n - 1) = n - 1 := by unfold wrap64; omega
  have w2 : wrap64 (n + 1 - 1) = n := by unfold wrap64; omega
  rw [w1] at h3
  rw [netOk_is, netOk_is, w2]
  refine ⟨⟨⟨by omega, by omega⟩, by rw [List.length_append, List.length_singleton]; omega, fun x hx => ?_, ?_⟩, ⟨by omega, by omega⟩, h2, fun x hx => ?_, h4⟩
  · rcases List.mem_append.1 hx with hx | hx
    · have := h3 x hx; exact ⟨⟨this.1.1, by omega⟩, this.2⟩
    · rw [List.mem_singleton] at hx; subst hx; exact ⟨⟨h1.1, Int.le_refl _⟩, he⟩
  · rw [List.pairwise_append]
    refine ⟨h4, List.pairwise_singleton _ _, fun x hx y hy => ?_⟩
    rw [List.mem_singleton] at hy; subst hy
    have := h3 x hx
    show x.f0 < n
    omega
  · have := h3 x hx; exact ⟨⟨this.1.1, by omega⟩, this.2⟩
theorem none_find {n : Int} {xs : List IP} (h : netOk n xs = true) : xs.findIdx? (fun x => x.f0 == n) = none := by
  rw [netOk_is] at h
  rw [List.findIdx?_eq_none_iff]
  intro x hx
  have h1 := h.1
  have h3 := (h.2.2.1 x hx).1.2
  have w1 : wrap64 (n - 1) = n - 1 := by unfold wrap64; omega
  rw [w1] at h3
  simp only [beq_eq_false_iff_ne, ne_eq]; omega
end PostedOf
open PostedOf
theorem FnPosted : laws_FnPosted.Pure := by
  intro l hl hl2 hb
  refine Ev.rounds (g := fun k => laws_FnPosted.f k l) ?_
  unfold laws_FnPosted.f
  refine Ev.bind (Ev.now (decide ((l.length : Int) > 1048576))) ?_
  by_cases h0 : (l.length : Int) > 1048576
  · simp only [decide_eq_true h0, if_true]; exact Ev.now _
  simp only [decide_eq_false h0, Bool.false_eq_true, if_false]
  obtain ⟨n, xs, a, b, s, hd, hx⟩ := drawPost_ok hb (by omega)
  have hspec := spec_post n xs a b s (by omega)
  have himpl := impl_post n xs a b s (by omega)
  refine Ev.bind hd (Ev.bind hspec (Ev.bind himpl ?_))
  simp only [if_true]
  have hlen := postM_len n xs a b s
  by_cases hn : netOk n xs = true
  case neg =>
    have e : postM n xs a b s = (0, [], 1) := by unfold postM; rw [if_neg hn]
    rw [e]
    simp only [if_neg (show ¬ (1 : Int) = 0 by omega), if_true]
    exact Ev.step (f := fun _ => some true) (fun k => by simp only [laws_FnPosted.j0]) (Ev.now _)
  by_cases he : endsOk a b s = true
  case neg =>
    have e : postM n xs a b s = (n, xs, 2) := by unfold postM; rw [if_pos hn, if_neg he]
    rw [e]
    simp only [if_neg (show ¬ (2 : Int) = 0 by omega), if_neg (show ¬ (2 : Int) = 1 by omega), if_true, beq_self_eq_true]
    exact Ev.step (f := fun _ => some true) (fun k => by simp only [laws_FnPosted.j0]) (Ev.now _)
  by_cases h3 : (xs.length : Int) = 300
  · have e : postM n xs a b s = (n, xs, 3) := by unfold postM; rw [if_pos hn, if_pos he, if_pos h3]
    rw [e]
    simp only [if_neg (show ¬ (3 : Int) = 0 by omega), if_neg (show ¬ (3 : Int) = 1 by omega), if_true, beq_self_eq_true]
    exact Ev.step (f := fun _ => some true) (fun k => by simp only [laws_FnPosted.j0]) (Ev.now _)
  by_cases h4 : n = 1000000000000
  · have e : postM n xs a b s = (n, xs, 3) := by unfold postM; rw [if_pos hn, if_pos he, if_neg h3, if_pos h4]
    rw [e]
    simp only [if_neg (show ¬ (3 : Int) = 0 by omega), if_neg (show ¬ (3 : Int) = 1 by omega), if_true, beq_self_eq_true]
    exact Ev.step (f := fun _ => some true) (fun k => by simp only [laws_FnPosted.j0]) (Ev.now _)
  have hr := (netOk_is n xs).1 hn
  have ew : wrap64 (n + 1) = n + 1 := by have := hr.1; unfold wrap64; omega
  have e : postM n xs a b s = (n + 1, xs ++ [⟨n, a, b, s⟩], 0) := by unfold postM; rw [if_pos hn, if_pos he, if_neg h3, if_neg h4, ew]
  rw [e]
  obtain ⟨k1, k2⟩ := netOk_post hn he h3 h4
  have hl1 : (xs ++ [(⟨n, a, b, s⟩ : IP)]).length = xs.length + 1 := by simp
  have hbt := impl_between (n + 1) (xs ++ [⟨n, a, b, s⟩]) a b (by omega)
  have hmem : (betweenM (n + 1) (xs ++ [⟨n, a, b, s⟩]) a b).contains n = true := by
    unfold betweenM
    rw [if_pos k1, List.contains_iff_mem]
    refine List.mem_map.2 ⟨⟨n, a, b, s⟩, List.mem_filter.2 ⟨by simp, by simp⟩, rfl⟩
  have hbl := betweenM_len (n + 1) (xs ++ [⟨n, a, b, s⟩]) a b
  have hhas := law_has (betweenM (n + 1) (xs ++ [⟨n, a, b, s⟩]) a b) n (by omega)
  rw [hmem] at hhas
  have hf0 := none_find hn
  have hf1 : (xs ++ [(⟨n, a, b, s⟩ : IP)]).findIdx? (fun x => x.f0 == n) = some xs.length := by
    rw [List.findIdx?_append, hf0]; simp
  have hrd : rd_T39 (xs ++ [(⟨n, a, b, s⟩ : IP)]) (xs.length : Int) = ⟨n, a, b, s⟩ := by rw [rdI _ _ (by omega)]; simp
  have t1 : takeM (n + 1) (xs ++ [⟨n, a, b, s⟩]) n true = (n + 1, xs ++ [⟨n, a, b, s⟩], n, a, b, s, true) := by
    unfold takeM; rw [if_pos k1, hf1]; simp only [if_true, hrd]
  have t2 : takeM (n + 1) (xs ++ [⟨n, a, b, s⟩]) n false = (n + 1, xs, n, a, b, s, true) := by
    unfold takeM; rw [if_pos k1, hf1]; simp only [Bool.false_eq_true, if_false, hrd]
    rw [List.eraseIdx_append_of_length_le (Nat.le_refl _)]; simp
  have t3 : takeM (n + 1) xs n false = (n + 1, xs, 0, 0, 0, ⟨#[]⟩, false) := by
    unfold takeM; rw [if_pos k2, hf0]
  have i1 := impl_takeNet (n + 1) (xs ++ [⟨n, a, b, s⟩]) n true (by omega)
  have i2 := impl_takeNet (n + 1) (xs ++ [⟨n, a, b, s⟩]) n false (by omega)
  have i3 := impl_takeNet (n + 1) xs n false (by omega)
  rw [t1] at i1; rw [t2] at i2; rw [t3] at i3
  simp only [if_true]
  refine Ev.bind hbt (Ev.bind hhas ?_)
  simp only [if_true]
  refine Ev.bind i1 (Ev.bind i2 (Ev.bind i3 ?_))
  simp only [if_true, Bool.false_eq_true, if_false]
  refine Ev.bind (a := true) ?_ (Ev.step (f := fun _ => some true) (fun k => by simp only [laws_FnPosted.j1]) (Ev.now _))
  unfold impl_NetOk.f
  have := impl_netOk (n + 1) xs (by omega)
  rw [k2] at this
  exact Ev.bind this (Ev.now _)

end Go.Proofs.Ytklaigmpceacaaa.Pure
