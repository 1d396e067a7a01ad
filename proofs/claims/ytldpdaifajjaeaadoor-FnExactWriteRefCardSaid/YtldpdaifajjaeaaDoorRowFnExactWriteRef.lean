/- The row of FnExactWriteRef: for every input that can be read the call returns true, and its arguments read as before. By wip/myprint.py of this repo. -/
import Derived.Test.YtldpdaifajjaeaaDoorRows
import Derived.Test.YtldpdaifajjaeaaDoorQFnExactWriteRefx6
import Derived.Test.YtldpdaifajjaeaaDoorPureFnExactWriteRef
import Derived.Test.YtldpdaifajjaeaaDoorReadsFnExactWriteRef
import Derived.WalkKit
import Derived.ProofKit
import Derived.OpenShut
import Derived.ShutString
import Derived.ChangeOld
import Derived.Below
import Derived.SizedLaws
import Derived.Test.YtldpdaifajjaeaaDoorCards
import Derived.Test.YtldpdaifajjaeaaDoorTie
import Derived.Lay
import Derived.LaidMore
import Derived.SevenTiedAt
namespace Go.Proofs.YtldpdaifajjaeaaDoor.fnExactWriteRef
open Go.ChangeShapes Go.WideShapes Go.ChangeAt Go.RowKit Go.Proofs.YtldpdaifajjaeaaDoorW.PrintWords Go.Proofs.YtldpdaifajjaeaaDoorW.PrintLast Go.Proofs.YtldpdaifajjaeaaDoor.Reads Go.Proofs.YtldpdaifajjaeaaDoor.QFnExactWriteRef
open Go.ChangeMaps (open_string shut_string)
set_option linter.unusedVariables false
set_option linter.unusedSimpArgs false
theorem own : ownKnob Tryd.prog.godebug = none := by kernel_rfl
theorem laidOut : laidOutB Tryd.prog = true := by kernel_rfl
set_option maxRecDepth 100000 in
theorem reads0 : Rd Tryd.prog (Kd.pair Kd.string (Kd.pair Kd.string Kd.string)) 24 (fun x => x.1.size ≤ maxLen ∧ x.2.1.size ≤ maxLen ∧ x.2.2.size ≤ maxLen) := by
  refine Rd.struct (d := (Kd.pair Kd.string (Kd.pair Kd.string Kd.string))) (ok := (fun w_ => (fun z_ : ByteArray => z_.size ≤ maxLen) w_.1 ∧ (fun w_ => (fun z_ : ByteArray => z_.size ≤ maxLen) w_.1 ∧ (fun z_ : ByteArray => z_.size ≤ maxLen) w_.2) w_.2)) Tryd.underlying24 ?_ ?_
  · kernel_rfl
  · refine RdF.cons (a := Kd.string) (b := (Kd.pair Kd.string Kd.string)) (oka := (fun z_ : ByteArray => z_.size ≤ maxLen)) (okb := (fun w_ => (fun z_ : ByteArray => z_.size ≤ maxLen) w_.1 ∧ (fun z_ : ByteArray => z_.size ≤ maxLen) w_.2)) ?_ rfl ?_ ?_
    · exact Rd.str Tryd.underlying9
    · kernel_rfl
    · refine RdF.cons (a := Kd.string) (b := Kd.string) (oka := (fun z_ : ByteArray => z_.size ≤ maxLen)) (okb := (fun z_ : ByteArray => z_.size ≤ maxLen)) ?_ rfl ?_ ?_
      · exact Rd.str Tryd.underlying9
      · kernel_rfl
      · refine RdF.one (d := Kd.string) (ok := (fun z_ : ByteArray => z_.size ≤ maxLen)) ?_ rfl ?_
        · exact Rd.str Tryd.underlying9
        · kernel_rfl
set_option maxRecDepth 100000 in
theorem lifted (os : Os) (started : os.Started) (H : Type) (enc : TypeId × Value → H) :
    ReturnsInHanded {} Tryd.checked os 4 .any (fun w args => (Rows.fnExactWriteRefSpec.pre enc Tryd.prog Tryd.f4 [] false w args ∧ laidMetH Tryd.prog Rows.fnExactWriteRefRow.laid w) ∧ sizedMet enc Tryd.prog Tryd.f4 (OpenSpec.ofChange Rows.fnExactWriteRefSpec) false w args) (Rows.fnExactWriteRefSpec.post enc Tryd.prog Tryd.f4 false true false false) := by
  refine returnsInHanded_of_change_and (C := Tryd.checked) (X := fun w _ => laidMetH Tryd.prog Rows.fnExactWriteRefRow.laid w) (fun _ _ _ hh h => h.of_heap hh) own started (by kernel_rfl) Tryd.func4
    (ChangeSpec.witness_shaped (enc := enc) (C := Tryd.checked) (os := os) (X := fun w _ => laidMetH Tryd.prog Rows.fnExactWriteRefRow.laid w) false (World.laidAll Tryd.prog os Rows.fnExactWriteRefRow.laid) #[(.agg #[(.string ⟨#[]⟩), (.string ⟨#[]⟩), (.string ⟨#[]⟩)])] 8 (World.laidAll_os _ _ _)
      (World.shaped_of_ZipB (by kernel_rfl) (by kernel_rfl)) (by kernel_rfl) (by kernel_rfl) (by kernel_rfl)
      (by rw [MakeChecks.laidMetH_plain _ _ _ (by kernel_rfl)]; exact laidMet_laidAll _ (by kernel_rfl) (by kernel_rfl))) ?_
  intro W base args ds gs before hval0 hW hcnd hsz0 _ _
  have hsz : (DataW.weightsEach Tryd.prog (Tryd.f4.params.toList ++ Rows.fnExactWriteRefSpec.plain.varTypes Tryd.prog) (ds ++ gs)).all (· ≤ reachBytes) = true := hsz0
  have hval : ∀ (j : Nat) t v, Tryd.f4.params[j]? = some t → args[j]? = some v → Value.okWide Tryd.prog W .any base t v := hval0
  have hW' := hW
  obtain ⟨p, q, hA0, hV, rfl, hfz, hnd⟩ := hW
  have hA : DataW.TrodAll enc Tryd.prog W 0 (fun _ => true) true Tryd.f4.params.toList args.toList ds p := hA0
  rw [Tryd.params4] at hA hval hsz
  obtain ⟨v0, vs0, d0, ds0, p0, q0, hargs, rfl, rfl, h0, r0⟩ := trodAll_cons hA
  obtain ⟨rfl, rfl, rfl⟩ := trodAll_nil r0
  obtain rfl : args = #[v0] := by cases args; simp_all
  obtain ⟨rfl, rfl⟩ := trodVars_none hV
  have k0 := h0
  have lt0 : ∀ x ∈ p0, x.block < W.heap.size := by obtain ⟨m, hm⟩ := k0; exact DataW.trod_lt m _ _ _ hm
  have x0 : ∃ (a0_0 : ByteArray) (a0_1 : ByteArray) (a0_2 : ByteArray), v0 = .agg #[.string a0_0, .string a0_1, .string a0_2] ∧ a0_0.size ≤ maxLen ∧ a0_1.size ≤ maxLen ∧ a0_2.size ≤ maxLen := by
    obtain ⟨fuel, hf⟩ := h0
    obtain ⟨cs, rfl, _⟩ := okWide_struct Tryd.underlying24 (hval 0 24 v0 rfl rfl)
    obtain ⟨cs⟩ := cs
    obtain ⟨y, hK, ok⟩ := reads0 H enc W 0 _ true fuel cs _ (by simpa [Value.cells] using hf)
    obtain ⟨_, _, rfl, rfl, ⟨_, _, rfl, rfl, rfl⟩⟩ := hK
    exact ⟨y.1, y.2.1, y.2.2, rfl, ok.1, ok.2.1, ok.2.2⟩
  obtain ⟨a0_0, a0_1, a0_2, rfl, o0_0, o0_1, o0_2⟩ := x0
  clear hA0 hval0 hsz0 hsz
  obtain ⟨k, hk⟩ := Pure.FnExactWriteRef a0_0 a0_1 a0_2 o0_0 o0_1 o0_2
  refine (QFnExactWriteRef.laws_FnExactWriteRef.calls (k := k) (a0_0 := a0_0) (a0_1 := a0_1) (a0_2 := a0_2) (r := true) (w := W) (h := hk)).mono fun e W' ⟨he, bel0⟩ => ?_
  have bel : Below W.heap.size W W' := bel0
  subst he
  exact ⟨_, rfl, _, _, _, [], _, [], hW', trodAll_mk1 (shut_bool Tryd.underlying4 _), (trodAll_cons_mk (Below.trod laidOut (by kernel_rfl) (of_decide_eq_true (by kernel_rfl)) k0 bel lt0) trodAll_mk0), rfl, bel.frame _, fun h => by cases h⟩
theorem over : Rows.fnExactWriteRefRow.holds Tryd.pinned (OpenSpec.ofChange Rows.fnExactWriteRefSpec) :=
  OpenClaim.holds_of_wide 4 Tryd.f4 rfl rfl rfl rfl rfl rfl rfl ⟨rfl, rfl, rfl, rfl, rfl⟩ rfl rfl rfl rfl rfl (by kernel_rfl) Tryd.func4 (by kernel_rfl)
    (of_decide_eq_true (by kernel_rfl)) (by unfold Func.isWrapper; first | (rw [if_pos (by decide +kernel)]; kernel_rfl) | (rw [if_neg (by decide +kernel)]; exact ⟨rfl, rfl⟩))
    (fun os started H enc _ => lifted os started H enc)
theorem card : Rows.FnExactWriteRefCardSaid :=
  Claim7.holds_tied_plain_at .later [] [.data, .pinned] true (true, "800e882c718717c3dd208fddd4414e83e4fc30628db171b29dc29b5c4f3feae1") false over (fun _ h => by cases h) (by kernel_rfl) (fun _ h => by cases h) fnExactWriteRef_row_tie rfl ⟨rfl, rfl⟩ (by kernel_rfl) rfl
    (fun f fn hf hfn => by
      obtain rfl : f = 4 := Option.some.inj ((show Tryd.prog.funcNamed Tryd.f4.name = some 4 by kernel_rfl).symm.trans hf) |>.symm
      obtain rfl : fn = Tryd.f4 := (Option.some.inj (Tryd.func4.symm.trans hfn)).symm
      exact ⟨by kernel_rfl, fun j t ht => by
        have hall : (Tryd.f4.params.toList.all fun u => !Tryd.prog.wantsStandIn u) = true := by kernel_rfl
        exact (show Tryd.prog.wantsStandIn t = false by simpa using List.all_eq_true.1 hall t (Array.mem_toList_iff.2 (Array.mem_of_getElem? ht)))⟩)
    (by kernel_rfl)
#print axioms card
end Go.Proofs.YtldpdaifajjaeaaDoor.fnExactWriteRef
namespace Go.Proofs.YtldpdaifajjaeaaDoor
/-- The card, under a short name, for the claim. -/
theorem fnExactWriteRef_holds : Rows.FnExactWriteRefCardSaid := fnExactWriteRef.card
end Go.Proofs.YtldpdaifajjaeaaDoor
