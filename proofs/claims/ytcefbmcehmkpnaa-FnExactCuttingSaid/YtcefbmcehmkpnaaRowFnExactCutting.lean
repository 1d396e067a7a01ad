/- The row of FnExactCutting: for every input that can be read the call returns true, and its arguments read as before. By wip/myprint.py of this repo. -/
import Derived.Test.YtcefbmcehmkpnaaRows
import Derived.Test.YtcefbmcehmkpnaaQFnExactCuttingx10
import Derived.Test.YtcefbmcehmkpnaaPureFnExactCutting
import Derived.Test.YtcefbmcehmkpnaaReadsFnExactCutting
import Derived.WalkKit
import Derived.ProofKit
import Derived.OpenShut
import Derived.ShutString
import Derived.ChangeOld
import Derived.Below
import Derived.SizedLaws
namespace Go.Proofs.Ytcefbmcehmkpnaa.fnExactCutting
open Go.ChangeShapes Go.WideShapes Go.ChangeAt Go.RowKit Go.Proofs.YtcefbmcehmkpnaaW.PrintWords Go.Proofs.YtcefbmcehmkpnaaW.PrintLast Go.Proofs.Ytcefbmcehmkpnaa.Reads Go.Proofs.Ytcefbmcehmkpnaa.QFnExactCutting
open Go.ChangeMaps (open_string shut_string)
set_option linter.unusedVariables false
set_option linter.unusedSimpArgs false
theorem own : ownKnob Try.prog.godebug = none := by kernel_rfl
theorem laidOut : laidOutB Try.prog = true := by kernel_rfl
set_option maxRecDepth 100000 in
theorem reads0 : Rd Try.prog (Kd.pair (Kd.int .i64) (Kd.slice 95 k95)) 37 (fun x => (Lit.int .i64 x.1).wf = true ∧ (x.2.length ≤ maxLen ∧ ∀ y0_ ∈ x.2, ((Lit.int .i64 y0_.f0).wf = true ∧ (Lit.int .i64 y0_.f1).wf = true ∧ (Lit.int .i64 y0_.f2).wf = true ∧ y0_.f3.size ≤ maxLen))) := by
  refine Rd.struct (d := (Kd.pair (Kd.int .i64) (Kd.slice 95 k95))) (ok := (fun w_ => (fun z_ : Int => (Lit.int .i64 z_).wf = true) w_.1 ∧ (fun z_ : List (S95) => (z_.length ≤ maxLen ∧ ∀ y5_ ∈ z_, ((Lit.int .i64 y5_.f0).wf = true ∧ (Lit.int .i64 y5_.f1).wf = true ∧ (Lit.int .i64 y5_.f2).wf = true ∧ y5_.f3.size ≤ maxLen))) w_.2)) Try.underlying37 ?_ ?_
  · kernel_rfl
  · refine RdF.cons (a := (Kd.int .i64)) (b := (Kd.slice 95 k95)) (oka := (fun z_ : Int => (Lit.int .i64 z_).wf = true)) (okb := (fun z_ : List (S95) => (z_.length ≤ maxLen ∧ ∀ y5_ ∈ z_, ((Lit.int .i64 y5_.f0).wf = true ∧ (Lit.int .i64 y5_.f1).wf = true ∧ (Lit.int .i64 y5_.f2).wf = true ∧ y5_.f3.size ≤ maxLen)))) ?_ rfl ?_ ?_
    · exact Rd.int Try.underlying2
    · kernel_rfl
    · refine RdF.one (d := (Kd.slice 95 k95)) (ok := (fun z_ : List (S95) => (z_.length ≤ maxLen ∧ ∀ y5_ ∈ z_, ((Lit.int .i64 y5_.f0).wf = true ∧ (Lit.int .i64 y5_.f1).wf = true ∧ (Lit.int .i64 y5_.f2).wf = true ∧ y5_.f3.size ≤ maxLen)))) ?_ rfl ?_
      · refine Rd.slice (e := 95) (d := k95) (ok := (fun z_ : S95 => ((Lit.int .i64 z_.f0).wf = true ∧ (Lit.int .i64 z_.f1).wf = true ∧ (Lit.int .i64 z_.f2).wf = true ∧ z_.f3.size ≤ maxLen))) Try.underlying35 ?_ ?_
        · kernel_rfl
        · refine Rd.iso (d := (Kd.pair (Kd.int .i64) (Kd.pair (Kd.int .i64) (Kd.pair (Kd.int .i64) Kd.string)))) (ok := (fun w_ => (fun z_ : Int => (Lit.int .i64 z_).wf = true) w_.1 ∧ (fun w_ => (fun z_ : Int => (Lit.int .i64 z_).wf = true) w_.1 ∧ (fun w_ => (fun z_ : Int => (Lit.int .i64 z_).wf = true) w_.1 ∧ (fun z_ : ByteArray => z_.size ≤ maxLen) w_.2) w_.2) w_.2)) ?_ (fun x : S95 => (x.f0, x.f1, x.f2, x.f3)) (fun a => (⟨a.1, a.2.1, a.2.2.1, a.2.2.2⟩ : S95)) (fun _ => rfl)
          refine Rd.struct (d := (Kd.pair (Kd.int .i64) (Kd.pair (Kd.int .i64) (Kd.pair (Kd.int .i64) Kd.string)))) (ok := (fun w_ => (fun z_ : Int => (Lit.int .i64 z_).wf = true) w_.1 ∧ (fun w_ => (fun z_ : Int => (Lit.int .i64 z_).wf = true) w_.1 ∧ (fun w_ => (fun z_ : Int => (Lit.int .i64 z_).wf = true) w_.1 ∧ (fun z_ : ByteArray => z_.size ≤ maxLen) w_.2) w_.2) w_.2)) Try.underlying95 ?_ ?_
          · kernel_rfl
          · refine RdF.cons (a := (Kd.int .i64)) (b := (Kd.pair (Kd.int .i64) (Kd.pair (Kd.int .i64) Kd.string))) (oka := (fun z_ : Int => (Lit.int .i64 z_).wf = true)) (okb := (fun w_ => (fun z_ : Int => (Lit.int .i64 z_).wf = true) w_.1 ∧ (fun w_ => (fun z_ : Int => (Lit.int .i64 z_).wf = true) w_.1 ∧ (fun z_ : ByteArray => z_.size ≤ maxLen) w_.2) w_.2)) ?_ rfl ?_ ?_
            · exact Rd.int Try.underlying2
            · kernel_rfl
            · refine RdF.cons (a := (Kd.int .i64)) (b := (Kd.pair (Kd.int .i64) Kd.string)) (oka := (fun z_ : Int => (Lit.int .i64 z_).wf = true)) (okb := (fun w_ => (fun z_ : Int => (Lit.int .i64 z_).wf = true) w_.1 ∧ (fun z_ : ByteArray => z_.size ≤ maxLen) w_.2)) ?_ rfl ?_ ?_
              · exact Rd.int Try.underlying2
              · kernel_rfl
              · refine RdF.cons (a := (Kd.int .i64)) (b := Kd.string) (oka := (fun z_ : Int => (Lit.int .i64 z_).wf = true)) (okb := (fun z_ : ByteArray => z_.size ≤ maxLen)) ?_ rfl ?_ ?_
                · exact Rd.int Try.underlying2
                · kernel_rfl
                · refine RdF.one (d := Kd.string) (ok := (fun z_ : ByteArray => z_.size ≤ maxLen)) ?_ rfl ?_
                  · exact Rd.str Try.underlying9
                  · kernel_rfl
      · kernel_rfl
set_option maxRecDepth 100000 in
theorem reads1 : Rd Try.prog (Kd.slice 2 (Kd.int .i64)) 27 (fun x => (x.length ≤ maxLen ∧ ∀ y0_ ∈ x, (Lit.int .i64 y0_).wf = true)) := by
  refine Rd.slice (e := 2) (d := (Kd.int .i64)) (ok := (fun z_ : Int => (Lit.int .i64 z_).wf = true)) Try.underlying27 ?_ ?_
  · kernel_rfl
  · exact Rd.int Try.underlying2
set_option maxRecDepth 100000 in
theorem lifted (os : Os) (started : os.Started) (H : Type) (enc : TypeId × Value → H) :
    ReturnsInHanded {} Try.checked os 6 .any (Rows.fnExactCuttingSpec.pre6 enc Try.prog Try.f6 Rows.fnExactCuttingRow.domain false) (Rows.fnExactCuttingSpec.post enc Try.prog Try.f6 false true false false) := by
  refine returnsInHanded_of_change_sized (C := Try.checked) own started (by kernel_rfl) Try.func6
    (ChangeSpec.witness6 (enc := enc) (C := Try.checked) false ⟨#[], #[(.agg #[(.int .i64 0), (.slice none 0 0)]), (.slice none 0 0)], []⟩ 8 (by kernel_rfl) (by kernel_rfl) (by kernel_rfl) (by kernel_rfl)) ?_
  intro W base args ds gs before hval0 hW hcnd hsz0 _
  have hsz : (DataW.weightsEach Try.prog (Try.f6.params.toList ++ Rows.fnExactCuttingSpec.plain.varTypes Try.prog) (ds ++ gs)).all (· ≤ reachBytes) = true := hsz0
  have hval : ∀ (j : Nat) t v, Try.f6.params[j]? = some t → args[j]? = some v → Value.okWide Try.prog W .any base t v := hval0
  have hW' := hW
  obtain ⟨p, q, hA0, hV, rfl, hfz, hnd⟩ := hW
  have hA : DataW.TrodAll enc Try.prog W 0 (fun _ => true) true Try.f6.params.toList args.toList ds p := hA0
  rw [Try.params6] at hA hval hsz
  obtain ⟨v0, vs0, d0, ds0, p0, q0, hargs, rfl, rfl, h0, r0⟩ := trodAll_cons hA
  obtain ⟨v1, vs1, d1, ds1, p1, q1, rfl, rfl, rfl, h1, r1⟩ := trodAll_cons r0
  obtain ⟨rfl, rfl, rfl⟩ := trodAll_nil r1
  obtain rfl : args = #[v0, v1] := by cases args; simp_all
  obtain ⟨rfl, rfl⟩ := trodVars_none hV
  have k0 := h0
  have lt0 : ∀ x ∈ p0, x.block < W.heap.size := by obtain ⟨m, hm⟩ := k0; exact DataW.trod_lt m _ _ _ hm
  have x0 : ∃ (a0_0 : Int) (A0_1 : Option Addr) (c0_1 : Nat) (l0_1 : List (S95)), v0 = .agg #[.int .i64 a0_0, .slice A0_1 l0_1.length c0_1] ∧ (Lit.int .i64 a0_0).wf = true ∧ (l0_1.length ≤ maxLen ∧ ∀ y0_ ∈ l0_1, ((Lit.int .i64 y0_.f0).wf = true ∧ (Lit.int .i64 y0_.f1).wf = true ∧ (Lit.int .i64 y0_.f2).wf = true ∧ y0_.f3.size ≤ maxLen)) ∧ Kd.C k95 W A0_1 l0_1.length l0_1 ∧ l0_1.length ≤ c0_1 := by
    obtain ⟨fuel, hf⟩ := h0
    obtain ⟨cs, rfl, _⟩ := okWide_struct Try.underlying37 (hval 0 37 v0 rfl rfl)
    obtain ⟨cs⟩ := cs
    obtain ⟨y, hK, ok⟩ := reads0 H enc W 0 _ true fuel cs _ (by simpa [Value.cells] using hf)
    obtain ⟨_, _, rfl, rfl, ⟨A1_, c1_, rfl, hl1_, hC1_⟩⟩ := hK
    exact ⟨y.1, A1_, c1_, y.2, rfl, ok.1, ok.2, hC1_, hl1_⟩
  obtain ⟨a0_0, A0_1, c0_1, l0_1, rfl, o0_0, o0_1, hr0_1, hc0_1⟩ := x0
  have k1 := h1
  have lt1 : ∀ x ∈ p1, x.block < W.heap.size := by obtain ⟨m, hm⟩ := k1; exact DataW.trod_lt m _ _ _ hm
  have x1 : ∃ (A1 : Option Addr) (c1 : Nat) (l1 : List Int), v1 = .slice A1 l1.length c1 ∧ (l1.length ≤ maxLen ∧ ∀ y0_ ∈ l1, (Lit.int .i64 y0_).wf = true) ∧ Kd.C (Kd.int .i64) W A1 l1.length l1 ∧ l1.length ≤ c1 := by
    obtain ⟨fuel, hf⟩ := h1
    obtain ⟨a, len, cap, rfl⟩ := okWide_slice Try.underlying27 (hval 1 27 v1 rfl rfl)
    obtain ⟨y, hK, ok⟩ := reads1 H enc W 0 _ true fuel _ _ (by simpa [Value.cells] using hf)
    obtain ⟨A_, c_, e, hl_, hC_⟩ := hK
    injection e with e _
    exact ⟨A_, c_, y, e, ok, hC_, hl_⟩
  obtain ⟨A1, c1, l1, rfl, o1, hr1, hc1⟩ := x1
  clear hA0 hval0 hsz0 hsz
  obtain ⟨k, hk⟩ := Pure.FnExactCutting a0_0 l0_1 l1 o0_0 o0_1 o1
  refine (QFnExactCutting.laws_FnExactCutting.calls (k := k) (a0_0 := a0_0) (A0_1 := A0_1) (c0_1 := c0_1) (l0_1 := l0_1) (hr0_1 := hr0_1) (hc0_1 := hc0_1) (A1 := A1) (c1 := c1) (l1 := l1) (hr1 := hr1) (hc1 := hc1) (r := true) (w := W) (h := hk)).mono fun e W' ⟨he, bel0⟩ => ?_
  have bel : Below W.heap.size W W' := bel0
  subst he
  exact ⟨_, rfl, _, _, _, [], _, [], hW', trodAll_mk1 (shut_bool Try.underlying4 _), (trodAll_cons_mk (Below.trod laidOut (by kernel_rfl) (of_decide_eq_true (by kernel_rfl)) k0 bel lt0) (trodAll_cons_mk (Below.trod laidOut (by kernel_rfl) (of_decide_eq_true (by kernel_rfl)) k1 bel lt1) trodAll_mk0)), rfl, bel.frame _, fun h => by cases h⟩
theorem over : Rows.fnExactCuttingRow.holds Try.pinned (OpenSpec.ofChange Rows.fnExactCuttingSpec) :=
  OpenClaim.holds_of_wide 6 Try.f6 rfl rfl rfl rfl rfl rfl rfl ⟨rfl, rfl, rfl, rfl, rfl⟩ rfl rfl rfl rfl rfl (by kernel_rfl) Try.func6 (by kernel_rfl)
    (of_decide_eq_true (by kernel_rfl)) (by unfold Func.isWrapper; first | (rw [if_pos (by decide +kernel)]; kernel_rfl) | (rw [if_neg (by decide +kernel)]; exact ⟨rfl, rfl⟩))
    (fun os started H enc _ => lifted os started H enc)
theorem proved : Rows.FnExactCuttingSaid := over
#print axioms proved
end Go.Proofs.Ytcefbmcehmkpnaa.fnExactCutting
namespace Go.Proofs.Ytcefbmcehmkpnaa
/-- The row, under a short name, for the claim. -/
theorem fnExactCutting_holds : Rows.FnExactCuttingSaid := fnExactCutting.proved
end Go.Proofs.Ytcefbmcehmkpnaa
