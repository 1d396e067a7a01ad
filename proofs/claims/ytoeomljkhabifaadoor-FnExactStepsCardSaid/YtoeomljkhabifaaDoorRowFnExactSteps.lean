/- The row of FnExactSteps: for every input that can be read the call returns true, and its arguments read as before. By wip/myprint.py of this repo. -/
import Derived.Test.YtoeomljkhabifaaDoorRows
import Derived.Test.YtoeomljkhabifaaDoorQFnExactStepsx11
import Derived.Test.YtoeomljkhabifaaDoorPureFnExactSteps
import Derived.Test.YtoeomljkhabifaaDoorReadsFnExactSteps
import Derived.WalkKit
import Derived.ProofKit
import Derived.OpenShut
import Derived.ShutString
import Derived.ChangeOld
import Derived.Below
import Derived.SizedLaws
import Derived.Test.YtoeomljkhabifaaDoorCards
import Derived.Test.YtoeomljkhabifaaDoorTie
import Derived.Lay
import Derived.LaidMore
import Derived.SevenTiedAt
namespace Go.Proofs.YtoeomljkhabifaaDoor.fnExactSteps
open Go.ChangeShapes Go.WideShapes Go.ChangeAt Go.RowKit Go.Proofs.YtoeomljkhabifaaDoorW.PrintWords Go.Proofs.YtoeomljkhabifaaDoorW.PrintLast Go.Proofs.YtoeomljkhabifaaDoor.Reads Go.Proofs.YtoeomljkhabifaaDoor.QFnExactSteps
open Go.ChangeMaps (open_string shut_string)
set_option linter.unusedVariables false
set_option linter.unusedSimpArgs false
theorem own : ownKnob Tryd.prog.godebug = none := by kernel_rfl
theorem laidOut : laidOutB Tryd.prog = true := by kernel_rfl
set_option maxRecDepth 100000 in
theorem reads0 : Rd Tryd.prog (Kd.slice 9 Kd.string) 22 (fun x => (x.length ≤ maxLen ∧ ∀ y0_ ∈ x, y0_.size ≤ maxLen)) := by
  refine Rd.slice (e := 9) (d := Kd.string) (ok := (fun z_ : ByteArray => z_.size ≤ maxLen)) Tryd.underlying22 ?_ ?_
  · kernel_rfl
  · exact Rd.str Tryd.underlying9
set_option maxRecDepth 100000 in
theorem reads1 : Rd Tryd.prog (Kd.slice 9 Kd.string) 22 (fun x => (x.length ≤ maxLen ∧ ∀ y0_ ∈ x, y0_.size ≤ maxLen)) := by
  refine Rd.slice (e := 9) (d := Kd.string) (ok := (fun z_ : ByteArray => z_.size ≤ maxLen)) Tryd.underlying22 ?_ ?_
  · kernel_rfl
  · exact Rd.str Tryd.underlying9
set_option maxRecDepth 100000 in
theorem lifted (os : Os) (started : os.Started) (H : Type) (enc : TypeId × Value → H) :
    ReturnsInHanded {} Tryd.checked os 4 .any (fun w args => (Rows.fnExactStepsSpec.pre enc Tryd.prog Tryd.f4 [] false w args ∧ laidMetH Tryd.prog Rows.fnExactStepsRow.laid w) ∧ sizedMet enc Tryd.prog Tryd.f4 (OpenSpec.ofChange Rows.fnExactStepsSpec) false w args) (Rows.fnExactStepsSpec.post enc Tryd.prog Tryd.f4 false true false false) := by
  refine returnsInHanded_of_change_and (C := Tryd.checked) (X := fun w _ => laidMetH Tryd.prog Rows.fnExactStepsRow.laid w) (fun _ _ _ hh h => h.of_heap hh) own started (by kernel_rfl) Tryd.func4
    (ChangeSpec.witness_shaped (enc := enc) (C := Tryd.checked) (os := os) (X := fun w _ => laidMetH Tryd.prog Rows.fnExactStepsRow.laid w) false (World.laidAll Tryd.prog os Rows.fnExactStepsRow.laid) #[(.slice none 0 0), (.slice none 0 0)] 8 (World.laidAll_os _ _ _)
      (World.shaped_of_ZipB (by kernel_rfl) (by kernel_rfl)) (by kernel_rfl) (by kernel_rfl) (by kernel_rfl)
      (by rw [MakeChecks.laidMetH_plain _ _ _ (by kernel_rfl)]; exact laidMet_laidAll _ (by kernel_rfl) (by kernel_rfl))) ?_
  intro W base args ds gs before hval0 hW hcnd hsz0 _ _
  have hsz : (DataW.weightsEach Tryd.prog (Tryd.f4.params.toList ++ Rows.fnExactStepsSpec.plain.varTypes Tryd.prog) (ds ++ gs)).all (· ≤ reachBytes) = true := hsz0
  have hval : ∀ (j : Nat) t v, Tryd.f4.params[j]? = some t → args[j]? = some v → Value.okWide Tryd.prog W .any base t v := hval0
  have hW' := hW
  obtain ⟨p, q, hA0, hV, rfl, hfz, hnd⟩ := hW
  have hA : DataW.TrodAll enc Tryd.prog W 0 (fun _ => true) true Tryd.f4.params.toList args.toList ds p := hA0
  rw [Tryd.params4] at hA hval hsz
  obtain ⟨v0, vs0, d0, ds0, p0, q0, hargs, rfl, rfl, h0, r0⟩ := trodAll_cons hA
  obtain ⟨v1, vs1, d1, ds1, p1, q1, rfl, rfl, rfl, h1, r1⟩ := trodAll_cons r0
  obtain ⟨rfl, rfl, rfl⟩ := trodAll_nil r1
  obtain rfl : args = #[v0, v1] := by cases args; simp_all
  obtain ⟨rfl, rfl⟩ := trodVars_none hV
  have k0 := h0
  have lt0 : ∀ x ∈ p0, x.block < W.heap.size := by obtain ⟨m, hm⟩ := k0; exact DataW.trod_lt m _ _ _ hm
  have x0 : ∃ (A0 : Option Addr) (c0 : Nat) (l0 : List ByteArray), v0 = .slice A0 l0.length c0 ∧ (l0.length ≤ maxLen ∧ ∀ y0_ ∈ l0, y0_.size ≤ maxLen) ∧ Kd.C Kd.string W A0 l0.length l0 ∧ l0.length ≤ c0 := by
    obtain ⟨fuel, hf⟩ := h0
    obtain ⟨a, len, cap, rfl⟩ := okWide_slice Tryd.underlying22 (hval 0 22 v0 rfl rfl)
    obtain ⟨y, hK, ok⟩ := reads0 H enc W 0 _ true fuel _ _ (by simpa [Value.cells] using hf)
    obtain ⟨A_, c_, e, hl_, hC_⟩ := hK
    injection e with e _
    exact ⟨A_, c_, y, e, ok, hC_, hl_⟩
  obtain ⟨A0, c0, l0, rfl, o0, hr0, hc0⟩ := x0
  have k1 := h1
  have lt1 : ∀ x ∈ p1, x.block < W.heap.size := by obtain ⟨m, hm⟩ := k1; exact DataW.trod_lt m _ _ _ hm
  have x1 : ∃ (A1 : Option Addr) (c1 : Nat) (l1 : List ByteArray), v1 = .slice A1 l1.length c1 ∧ (l1.length ≤ maxLen ∧ ∀ y0_ ∈ l1, y0_.size ≤ maxLen) ∧ Kd.C Kd.string W A1 l1.length l1 ∧ l1.length ≤ c1 := by
    obtain ⟨fuel, hf⟩ := h1
    obtain ⟨a, len, cap, rfl⟩ := okWide_slice Tryd.underlying22 (hval 1 22 v1 rfl rfl)
    obtain ⟨y, hK, ok⟩ := reads1 H enc W 0 _ true fuel _ _ (by simpa [Value.cells] using hf)
    obtain ⟨A_, c_, e, hl_, hC_⟩ := hK
    injection e with e _
    exact ⟨A_, c_, y, e, ok, hC_, hl_⟩
  obtain ⟨A1, c1, l1, rfl, o1, hr1, hc1⟩ := x1
  clear hA0 hval0 hsz0 hsz
  obtain ⟨k, hk⟩ := Pure.FnExactSteps l0 l1 o0 o1
  refine (QFnExactSteps.laws_FnExactSteps.calls (k := k) (A0 := A0) (c0 := c0) (l0 := l0) (hr0 := hr0) (hc0 := hc0) (A1 := A1) (c1 := c1) (l1 := l1) (hr1 := hr1) (hc1 := hc1) (r := true) (w := W) (h := hk)).mono fun e W' ⟨he, bel0⟩ => ?_
  have bel : Below W.heap.size W W' := bel0
  subst he
  exact ⟨_, rfl, _, _, _, [], _, [], hW', trodAll_mk1 (shut_bool Tryd.underlying4 _), (trodAll_cons_mk (Below.trod laidOut (by kernel_rfl) (of_decide_eq_true (by kernel_rfl)) k0 bel lt0) (trodAll_cons_mk (Below.trod laidOut (by kernel_rfl) (of_decide_eq_true (by kernel_rfl)) k1 bel lt1) trodAll_mk0)), rfl, bel.frame _, fun h => by cases h⟩
theorem over : Rows.fnExactStepsRow.holds Tryd.pinned (OpenSpec.ofChange Rows.fnExactStepsSpec) :=
  OpenClaim.holds_of_wide 4 Tryd.f4 rfl rfl rfl rfl rfl rfl rfl ⟨rfl, rfl, rfl, rfl, rfl⟩ rfl rfl rfl rfl rfl (by kernel_rfl) Tryd.func4 (by kernel_rfl)
    (of_decide_eq_true (by kernel_rfl)) (by unfold Func.isWrapper; first | (rw [if_pos (by decide +kernel)]; kernel_rfl) | (rw [if_neg (by decide +kernel)]; exact ⟨rfl, rfl⟩))
    (fun os started H enc _ => lifted os started H enc)
theorem card : Rows.FnExactStepsCardSaid :=
  Claim7.holds_tied_plain_at .later [] [.data, .pinned] true (true, "94458948ff608fffc974fd77ed869632184d183b9112d87333c512ec2ac34291") false over (fun _ h => by cases h) (by kernel_rfl) (fun _ h => by cases h) fnExactSteps_row_tie rfl ⟨rfl, rfl⟩ (by kernel_rfl) rfl
    (fun f fn hf hfn => by
      obtain rfl : f = 4 := Option.some.inj ((show Tryd.prog.funcNamed Tryd.f4.name = some 4 by kernel_rfl).symm.trans hf) |>.symm
      obtain rfl : fn = Tryd.f4 := (Option.some.inj (Tryd.func4.symm.trans hfn)).symm
      exact ⟨by kernel_rfl, fun j t ht => by
        have hall : (Tryd.f4.params.toList.all fun u => !Tryd.prog.wantsStandIn u) = true := by kernel_rfl
        exact (show Tryd.prog.wantsStandIn t = false by simpa using List.all_eq_true.1 hall t (Array.mem_toList_iff.2 (Array.mem_of_getElem? ht)))⟩)
    (by kernel_rfl)
#print axioms card
end Go.Proofs.YtoeomljkhabifaaDoor.fnExactSteps
namespace Go.Proofs.YtoeomljkhabifaaDoor
/-- The card, under a short name, for the claim. -/
theorem fnExactSteps_holds : Rows.FnExactStepsCardSaid := fnExactSteps.card
end Go.Proofs.YtoeomljkhabifaaDoor
