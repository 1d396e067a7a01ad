/- The row of FnExactBlobsOf: for every input that can be read the call returns true, and its arguments read as before. By wip/myprint.py of this repo. -/
import Derived.Test.YtkpbdfpmoeobnaaDoorRows
import Derived.Test.YtkpbdfpmoeobnaaDoorQFnExactBlobsOfx6
import Derived.Test.YtkpbdfpmoeobnaaDoorPureFnExactBlobsOf
import Derived.Test.YtkpbdfpmoeobnaaDoorReadsFnExactBlobsOf
import Derived.WalkKit
import Derived.ProofKit
import Derived.OpenShut
import Derived.ShutString
import Derived.ChangeOld
import Derived.Below
import Derived.SizedLaws
import Derived.Test.YtkpbdfpmoeobnaaDoorCards
import Derived.Test.YtkpbdfpmoeobnaaDoorTie
import Derived.Lay
import Derived.LaidMore
import Derived.SevenTiedAt
namespace Go.Proofs.YtkpbdfpmoeobnaaDoor.fnExactBlobsOf
open Go.ChangeShapes Go.WideShapes Go.ChangeAt Go.RowKit Go.Proofs.YtkpbdfpmoeobnaaDoorW.PrintWords Go.Proofs.YtkpbdfpmoeobnaaDoorW.PrintLast Go.Proofs.YtkpbdfpmoeobnaaDoor.Reads Go.Proofs.YtkpbdfpmoeobnaaDoor.QFnExactBlobsOf
open Go.ChangeMaps (open_string shut_string)
set_option linter.unusedVariables false
set_option linter.unusedSimpArgs false
theorem own : ownKnob Tryd.prog.godebug = none := by kernel_rfl
theorem laidOut : laidOutB Tryd.prog = true := by kernel_rfl
set_option maxRecDepth 100000 in
theorem reads0 : Rd Tryd.prog (Kd.pair Kd.string (Kd.slice 9 Kd.string)) 24 (fun x => x.1.size ≤ maxLen ∧ (x.2.length ≤ maxLen ∧ ∀ y0_ ∈ x.2, y0_.size ≤ maxLen)) := by
  refine Rd.struct (d := (Kd.pair Kd.string (Kd.slice 9 Kd.string))) (ok := (fun w_ => (fun z_ : ByteArray => z_.size ≤ maxLen) w_.1 ∧ (fun z_ : List ByteArray => (z_.length ≤ maxLen ∧ ∀ y5_ ∈ z_, y5_.size ≤ maxLen)) w_.2)) Tryd.underlying24 ?_ ?_
  · kernel_rfl
  · refine RdF.cons (a := Kd.string) (b := (Kd.slice 9 Kd.string)) (oka := (fun z_ : ByteArray => z_.size ≤ maxLen)) (okb := (fun z_ : List ByteArray => (z_.length ≤ maxLen ∧ ∀ y5_ ∈ z_, y5_.size ≤ maxLen))) ?_ rfl ?_ ?_
    · exact Rd.str Tryd.underlying9
    · kernel_rfl
    · refine RdF.one (d := (Kd.slice 9 Kd.string)) (ok := (fun z_ : List ByteArray => (z_.length ≤ maxLen ∧ ∀ y5_ ∈ z_, y5_.size ≤ maxLen))) ?_ rfl ?_
      · refine Rd.slice (e := 9) (d := Kd.string) (ok := (fun z_ : ByteArray => z_.size ≤ maxLen)) Tryd.underlying22 ?_ ?_
        · kernel_rfl
        · exact Rd.str Tryd.underlying9
      · kernel_rfl
set_option maxRecDepth 100000 in
theorem lifted (os : Os) (started : os.Started) (H : Type) (enc : TypeId × Value → H) :
    ReturnsInHanded {} Tryd.checked os 4 .any (fun w args => (Rows.fnExactBlobsOfSpec.pre enc Tryd.prog Tryd.f4 [] false w args ∧ laidMetH Tryd.prog Rows.fnExactBlobsOfRow.laid w) ∧ sizedMet enc Tryd.prog Tryd.f4 (OpenSpec.ofChange Rows.fnExactBlobsOfSpec) false w args) (Rows.fnExactBlobsOfSpec.post enc Tryd.prog Tryd.f4 false true false false) := by
  refine returnsInHanded_of_change_and (C := Tryd.checked) (X := fun w _ => laidMetH Tryd.prog Rows.fnExactBlobsOfRow.laid w) (fun _ _ _ hh h => h.of_heap hh) own started (by kernel_rfl) Tryd.func4
    (ChangeSpec.witness_shaped (enc := enc) (C := Tryd.checked) (os := os) (X := fun w _ => laidMetH Tryd.prog Rows.fnExactBlobsOfRow.laid w) false (World.laidAll Tryd.prog os Rows.fnExactBlobsOfRow.laid) #[(.agg #[(.string ⟨#[]⟩), (.slice none 0 0)])] 8 (World.laidAll_os _ _ _)
      (World.shaped_of_ZipB (by kernel_rfl) (by kernel_rfl)) (by kernel_rfl) (by kernel_rfl) (by kernel_rfl)
      (by rw [MakeChecks.laidMetH_plain _ _ _ (by kernel_rfl)]; exact laidMet_laidAll _ (by kernel_rfl) (by kernel_rfl))) ?_
  intro W base args ds gs before hval0 hW hcnd hsz0 _ _
  have hsz : (DataW.weightsEach Tryd.prog (Tryd.f4.params.toList ++ Rows.fnExactBlobsOfSpec.plain.varTypes Tryd.prog) (ds ++ gs)).all (· ≤ reachBytes) = true := hsz0
  have hval : ∀ (j : Nat) t v, Tryd.f4.params[j]? = some t → args[j]? = some v → Value.okWide Tryd.prog W .any base t v := hval0
  have hW' := hW
  obtain ⟨p, q, hA0, hV, rfl, hfz, hnd⟩ := hW
  have hA : DataW.TrodAll enc Tryd.prog W 0 (fun _ => true) true Tryd.f4.params.toList args.toList ds p := hA0
  rw [Tryd.params4] at hA hval hsz
  obtain ⟨v0, vs0, d0, ds0, p0, q0, hargs, rfl, rfl, h0, r0⟩ := trodAll_cons hA
  obtain ⟨rfl, rfl, rfl⟩ := trodAll_nil r0
  obtain rfl : args = #[v0] := by cases args; simp_all
  obtain ⟨rfl, rfl⟩ := trodVars_none hV
  have k0 := h0
  have lt0 : ∀ x ∈ p0, x.block < W.heap.size := by obtain ⟨m, hm⟩ := k0; exact DataW.trod_lt m _ _ _ hm
  have x0 : ∃ (a0_0 : ByteArray) (A0_1 : Option Addr) (c0_1 : Nat) (l0_1 : List ByteArray), v0 = .agg #[.string a0_0, .slice A0_1 l0_1.length c0_1] ∧ a0_0.size ≤ maxLen ∧ (l0_1.length ≤ maxLen ∧ ∀ y0_ ∈ l0_1, y0_.size ≤ maxLen) ∧ Kd.C Kd.string W A0_1 l0_1.length l0_1 ∧ l0_1.length ≤ c0_1 := by
    obtain ⟨fuel, hf⟩ := h0
    obtain ⟨cs, rfl, _⟩ := okWide_struct Tryd.underlying24 (hval 0 24 v0 rfl rfl)
    obtain ⟨cs⟩ := cs
    obtain ⟨y, hK, ok⟩ := reads0 H enc W 0 _ true fuel cs _ (by simpa [Value.cells] using hf)
    obtain ⟨_, _, rfl, rfl, ⟨A1_, c1_, rfl, hl1_, hC1_⟩⟩ := hK
    exact ⟨y.1, A1_, c1_, y.2, rfl, ok.1, ok.2, hC1_, hl1_⟩
  obtain ⟨a0_0, A0_1, c0_1, l0_1, rfl, o0_0, o0_1, hr0_1, hc0_1⟩ := x0
  clear hA0 hval0 hsz0 hsz
  obtain ⟨k, hk⟩ := Pure.FnExactBlobsOf a0_0 l0_1 o0_0 o0_1
  refine (QFnExactBlobsOf.laws_FnExactBlobsOf.calls (k := k) (a0_0 := a0_0) (A0_1 := A0_1) (c0_1 := c0_1) (l0_1 := l0_1) (hr0_1 := hr0_1) (hc0_1 := hc0_1) (r := true) (w := W) (h := hk)).mono fun e W' ⟨he, bel0⟩ => ?_
  have bel : Below W.heap.size W W' := bel0
  subst he
  exact ⟨_, rfl, _, _, _, [], _, [], hW', trodAll_mk1 (shut_bool Tryd.underlying4 _), (trodAll_cons_mk (Below.trod laidOut (by kernel_rfl) (of_decide_eq_true (by kernel_rfl)) k0 bel lt0) trodAll_mk0), rfl, bel.frame _, fun h => by cases h⟩
theorem over : Rows.fnExactBlobsOfRow.holds Tryd.pinned (OpenSpec.ofChange Rows.fnExactBlobsOfSpec) :=
  OpenClaim.holds_of_wide 4 Tryd.f4 rfl rfl rfl rfl rfl rfl rfl ⟨rfl, rfl, rfl, rfl, rfl⟩ rfl rfl rfl rfl rfl (by kernel_rfl) Tryd.func4 (by kernel_rfl)
    (of_decide_eq_true (by kernel_rfl)) (by unfold Func.isWrapper; first | (rw [if_pos (by decide +kernel)]; kernel_rfl) | (rw [if_neg (by decide +kernel)]; exact ⟨rfl, rfl⟩))
    (fun os started H enc _ => lifted os started H enc)
theorem card : Rows.FnExactBlobsOfCardSaid :=
  Claim7.holds_tied_plain_at .later [] [.data, .pinned] true (true, "56fc5995e471232cfb6534a8b7a18765b283c7420231e4822dc6556633849198") false over (fun _ h => by cases h) (by kernel_rfl) (fun _ h => by cases h) fnExactBlobsOf_row_tie rfl ⟨rfl, rfl⟩ (by kernel_rfl) rfl
    (fun f fn hf hfn => by
      obtain rfl : f = 4 := Option.some.inj ((show Tryd.prog.funcNamed Tryd.f4.name = some 4 by kernel_rfl).symm.trans hf) |>.symm
      obtain rfl : fn = Tryd.f4 := (Option.some.inj (Tryd.func4.symm.trans hfn)).symm
      exact ⟨by kernel_rfl, fun j t ht => by
        have hall : (Tryd.f4.params.toList.all fun u => !Tryd.prog.wantsStandIn u) = true := by kernel_rfl
        exact (show Tryd.prog.wantsStandIn t = false by simpa using List.all_eq_true.1 hall t (Array.mem_toList_iff.2 (Array.mem_of_getElem? ht)))⟩)
    (by kernel_rfl)
#print axioms card
end Go.Proofs.YtkpbdfpmoeobnaaDoor.fnExactBlobsOf
namespace Go.Proofs.YtkpbdfpmoeobnaaDoor
/-- The card, under a short name, for the claim. -/
theorem fnExactBlobsOf_holds : Rows.FnExactBlobsOfCardSaid := fnExactBlobsOf.card
end Go.Proofs.YtkpbdfpmoeobnaaDoor
