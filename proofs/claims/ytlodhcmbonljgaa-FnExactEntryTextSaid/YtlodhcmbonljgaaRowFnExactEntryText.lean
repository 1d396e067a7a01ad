/- The row of FnExactEntryText: for every input that can be read the call returns true, and its arguments read as before. By wip/myprint.py of this repo. -/
import Derived.Test.YtlodhcmbonljgaaRows
import Derived.Test.YtlodhcmbonljgaaQFnExactEntryTextx3
import Derived.Test.YtlodhcmbonljgaaPureFnExactEntryText
import Derived.Test.YtlodhcmbonljgaaReadsFnExactEntryText
import Derived.WalkKit
import Derived.ProofKit
import Derived.OpenShut
import Derived.ShutString
import Derived.ChangeOld
import Derived.Below
import Derived.SizedLaws
namespace Go.Proofs.Ytlodhcmbonljgaa.fnExactEntryText
open Go.ChangeShapes Go.WideShapes Go.ChangeAt Go.RowKit Go.Proofs.YtlodhcmbonljgaaW.PrintWords Go.Proofs.YtlodhcmbonljgaaW.PrintLast Go.Proofs.Ytlodhcmbonljgaa.Reads Go.Proofs.Ytlodhcmbonljgaa.QFnExactEntryText
open Go.ChangeMaps (open_string shut_string)
set_option linter.unusedVariables false
set_option linter.unusedSimpArgs false
theorem own : ownKnob Try.prog.godebug = none := by kernel_rfl
theorem laidOut : laidOutB Try.prog = true := by kernel_rfl
set_option maxRecDepth 100000 in
theorem reads0 : Rd Try.prog (Kd.pair (Kd.int .i64) (Kd.pair (Kd.int .i64) Kd.string)) 52 (fun x => (Lit.int .i64 x.1).wf = true ∧ (Lit.int .i64 x.2.1).wf = true ∧ x.2.2.size ≤ maxLen) := by
  refine Rd.struct (d := (Kd.pair (Kd.int .i64) (Kd.pair (Kd.int .i64) Kd.string))) (ok := (fun w_ => (fun z_ : Int => (Lit.int .i64 z_).wf = true) w_.1 ∧ (fun w_ => (fun z_ : Int => (Lit.int .i64 z_).wf = true) w_.1 ∧ (fun z_ : ByteArray => z_.size ≤ maxLen) w_.2) w_.2)) Try.underlying52 ?_ ?_
  · kernel_rfl
  · refine RdF.cons (a := (Kd.int .i64)) (b := (Kd.pair (Kd.int .i64) Kd.string)) (oka := (fun z_ : Int => (Lit.int .i64 z_).wf = true)) (okb := (fun w_ => (fun z_ : Int => (Lit.int .i64 z_).wf = true) w_.1 ∧ (fun z_ : ByteArray => z_.size ≤ maxLen) w_.2)) ?_ rfl ?_ ?_
    · exact Rd.int Try.underlying2
    · kernel_rfl
    · refine RdF.cons (a := (Kd.int .i64)) (b := Kd.string) (oka := (fun z_ : Int => (Lit.int .i64 z_).wf = true)) (okb := (fun z_ : ByteArray => z_.size ≤ maxLen)) ?_ rfl ?_ ?_
      · exact Rd.int Try.underlying2
      · kernel_rfl
      · refine RdF.one (d := Kd.string) (ok := (fun z_ : ByteArray => z_.size ≤ maxLen)) ?_ rfl ?_
        · exact Rd.str Try.underlying9
        · kernel_rfl
set_option maxRecDepth 100000 in
theorem lifted (os : Os) (started : os.Started) (H : Type) (enc : TypeId × Value → H) :
    ReturnsInHanded {} Try.checked os 8 .any (Rows.fnExactEntryTextSpec.pre6 enc Try.prog Try.f8 Rows.fnExactEntryTextRow.domain false) (Rows.fnExactEntryTextSpec.post enc Try.prog Try.f8 false true false false) := by
  refine returnsInHanded_of_change_sized (C := Try.checked) own started (by kernel_rfl) Try.func8
    (ChangeSpec.witness6 (enc := enc) (C := Try.checked) false ⟨#[], #[(.agg #[(.int .i64 0), (.int .i64 0), (.string ⟨#[]⟩)])], []⟩ 8 (by kernel_rfl) (by kernel_rfl) (by kernel_rfl) (by kernel_rfl)) ?_
  intro W base args ds gs before hval0 hW hcnd hsz0 _
  have hsz : (DataW.weightsEach Try.prog (Try.f8.params.toList ++ Rows.fnExactEntryTextSpec.plain.varTypes Try.prog) (ds ++ gs)).all (· ≤ reachBytes) = true := hsz0
  have hval : ∀ (j : Nat) t v, Try.f8.params[j]? = some t → args[j]? = some v → Value.okWide Try.prog W .any base t v := hval0
  have hW' := hW
  obtain ⟨p, q, hA0, hV, rfl, hfz, hnd⟩ := hW
  have hA : DataW.TrodAll enc Try.prog W 0 (fun _ => true) true Try.f8.params.toList args.toList ds p := hA0
  rw [Try.params8] at hA hval hsz
  obtain ⟨v0, vs0, d0, ds0, p0, q0, hargs, rfl, rfl, h0, r0⟩ := trodAll_cons hA
  obtain ⟨rfl, rfl, rfl⟩ := trodAll_nil r0
  obtain rfl : args = #[v0] := by cases args; simp_all
  obtain ⟨rfl, rfl⟩ := trodVars_none hV
  have k0 := h0
  have lt0 : ∀ x ∈ p0, x.block < W.heap.size := by obtain ⟨m, hm⟩ := k0; exact DataW.trod_lt m _ _ _ hm
  have x0 : ∃ (a0_0 : Int) (a0_1 : Int) (a0_2 : ByteArray), v0 = .agg #[.int .i64 a0_0, .int .i64 a0_1, .string a0_2] ∧ (Lit.int .i64 a0_0).wf = true ∧ (Lit.int .i64 a0_1).wf = true ∧ a0_2.size ≤ maxLen := by
    obtain ⟨fuel, hf⟩ := h0
    obtain ⟨cs, rfl, _⟩ := okWide_struct Try.underlying52 (hval 0 52 v0 rfl rfl)
    obtain ⟨cs⟩ := cs
    obtain ⟨y, hK, ok⟩ := reads0 H enc W 0 _ true fuel cs _ (by simpa [Value.cells] using hf)
    obtain ⟨_, _, rfl, rfl, ⟨_, _, rfl, rfl, rfl⟩⟩ := hK
    exact ⟨y.1, y.2.1, y.2.2, rfl, ok.1, ok.2.1, ok.2.2⟩
  obtain ⟨a0_0, a0_1, a0_2, rfl, o0_0, o0_1, o0_2⟩ := x0
  clear hA0 hval0 hsz0 hsz
  obtain ⟨k, hk⟩ := Pure.FnExactEntryText a0_0 a0_1 a0_2 o0_0 o0_1 o0_2
  refine (QFnExactEntryText.laws_FnExactEntryText.calls (k := k) (a0_0 := a0_0) (a0_1 := a0_1) (a0_2 := a0_2) (r := true) (w := W) (h := hk)).mono fun e W' ⟨he, bel0⟩ => ?_
  have bel : Below W.heap.size W W' := bel0
  subst he
  exact ⟨_, rfl, _, _, _, [], _, [], hW', trodAll_mk1 (shut_bool Try.underlying4 _), (trodAll_cons_mk (Below.trod laidOut (by kernel_rfl) (of_decide_eq_true (by kernel_rfl)) k0 bel lt0) trodAll_mk0), rfl, bel.frame _, fun h => by cases h⟩
theorem over : Rows.fnExactEntryTextRow.holds Try.pinned (OpenSpec.ofChange Rows.fnExactEntryTextSpec) :=
  OpenClaim.holds_of_wide 8 Try.f8 rfl rfl rfl rfl rfl rfl rfl ⟨rfl, rfl, rfl, rfl, rfl⟩ rfl rfl rfl rfl rfl (by kernel_rfl) Try.func8 (by kernel_rfl)
    (of_decide_eq_true (by kernel_rfl)) (by unfold Func.isWrapper; first | (rw [if_pos (by decide +kernel)]; kernel_rfl) | (rw [if_neg (by decide +kernel)]; exact ⟨rfl, rfl⟩))
    (fun os started H enc _ => lifted os started H enc)
theorem proved : Rows.FnExactEntryTextSaid := over
#print axioms proved
end Go.Proofs.Ytlodhcmbonljgaa.fnExactEntryText
namespace Go.Proofs.Ytlodhcmbonljgaa
/-- The row, under a short name, for the claim. -/
theorem fnExactEntryText_holds : Rows.FnExactEntryTextSaid := fnExactEntryText.proved
end Go.Proofs.Ytlodhcmbonljgaa
