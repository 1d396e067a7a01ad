/- The row of FnExactTake: for every input that can be read the call returns true, and its arguments read as before. By wip/myprint.py of this repo. -/
import Derived.Test.YtklaigmpceacaaaRows
import Derived.Test.YtklaigmpceacaaaQFnExactTakex10
import Derived.Test.YtklaigmpceacaaaPureFnExactTake
import Derived.Test.YtklaigmpceacaaaReadsFnExactTake
import Derived.WalkKit
import Derived.ProofKit
import Derived.OpenShut
import Derived.ShutString
import Derived.ChangeOld
import Derived.Below
import Derived.SizedLaws
namespace Go.Proofs.Ytklaigmpceacaaa.fnExactTake
open Go.ChangeShapes Go.WideShapes Go.ChangeAt Go.RowKit Go.Proofs.YtklaigmpceacaaaW.PrintWords Go.Proofs.YtklaigmpceacaaaW.PrintLast Go.Proofs.Ytklaigmpceacaaa.Reads Go.Proofs.Ytklaigmpceacaaa.QFnExactTake
open Go.ChangeMaps (open_string shut_string)
set_option linter.unusedVariables false
set_option linter.unusedSimpArgs false
theorem own : ownKnob Try.prog.godebug = none := by kernel_rfl
theorem laidOut : laidOutB Try.prog = true := by kernel_rfl
set_option maxRecDepth 100000 in
theorem reads0 : Rd Try.prog (Kd.pair (Kd.int .i64) (Kd.slice 88 k88)) 33 (fun x => (Lit.int .i64 x.1).wf = true ∧ (x.2.length ≤ maxLen ∧ ∀ y0_ ∈ x.2, ((Lit.int .i64 y0_.f0).wf = true ∧ (Lit.int .i64 y0_.f1).wf = true ∧ (Lit.int .i64 y0_.f2).wf = true ∧ y0_.f3.size ≤ maxLen))) := by
  refine Rd.struct (d := (Kd.pair (Kd.int .i64) (Kd.slice 88 k88))) (ok := (fun w_ => (fun z_ : Int => (Lit.int .i64 z_).wf = true) w_.1 ∧ (fun z_ : List (S88) => (z_.length ≤ maxLen ∧ ∀ y5_ ∈ z_, ((Lit.int .i64 y5_.f0).wf = true ∧ (Lit.int .i64 y5_.f1).wf = true ∧ (Lit.int .i64 y5_.f2).wf = true ∧ y5_.f3.size ≤ maxLen))) w_.2)) Try.underlying33 ?_ ?_
  · kernel_rfl
  · refine RdF.cons (a := (Kd.int .i64)) (b := (Kd.slice 88 k88)) (oka := (fun z_ : Int => (Lit.int .i64 z_).wf = true)) (okb := (fun z_ : List (S88) => (z_.length ≤ maxLen ∧ ∀ y5_ ∈ z_, ((Lit.int .i64 y5_.f0).wf = true ∧ (Lit.int .i64 y5_.f1).wf = true ∧ (Lit.int .i64 y5_.f2).wf = true ∧ y5_.f3.size ≤ maxLen)))) ?_ rfl ?_ ?_
    · exact Rd.int Try.underlying2
    · kernel_rfl
    · refine RdF.one (d := (Kd.slice 88 k88)) (ok := (fun z_ : List (S88) => (z_.length ≤ maxLen ∧ ∀ y5_ ∈ z_, ((Lit.int .i64 y5_.f0).wf = true ∧ (Lit.int .i64 y5_.f1).wf = true ∧ (Lit.int .i64 y5_.f2).wf = true ∧ y5_.f3.size ≤ maxLen)))) ?_ rfl ?_
      · refine Rd.slice (e := 88) (d := k88) (ok := (fun z_ : S88 => ((Lit.int .i64 z_.f0).wf = true ∧ (Lit.int .i64 z_.f1).wf = true ∧ (Lit.int .i64 z_.f2).wf = true ∧ z_.f3.size ≤ maxLen))) Try.underlying31 ?_ ?_
        · kernel_rfl
        · refine Rd.iso (d := (Kd.pair (Kd.int .i64) (Kd.pair (Kd.int .i64) (Kd.pair (Kd.int .i64) Kd.string)))) (ok := (fun w_ => (fun z_ : Int => (Lit.int .i64 z_).wf = true) w_.1 ∧ (fun w_ => (fun z_ : Int => (Lit.int .i64 z_).wf = true) w_.1 ∧ (fun w_ => (fun z_ : Int => (Lit.int .i64 z_).wf = true) w_.1 ∧ (fun z_ : ByteArray => z_.size ≤ maxLen) w_.2) w_.2) w_.2)) ?_ (fun x : S88 => (x.f0, x.f1, x.f2, x.f3)) (fun a => (⟨a.1, a.2.1, a.2.2.1, a.2.2.2⟩ : S88)) (fun _ => rfl)
          refine Rd.struct (d := (Kd.pair (Kd.int .i64) (Kd.pair (Kd.int .i64) (Kd.pair (Kd.int .i64) Kd.string)))) (ok := (fun w_ => (fun z_ : Int => (Lit.int .i64 z_).wf = true) w_.1 ∧ (fun w_ => (fun z_ : Int => (Lit.int .i64 z_).wf = true) w_.1 ∧ (fun w_ => (fun z_ : Int => (Lit.int .i64 z_).wf = true) w_.1 ∧ (fun z_ : ByteArray => z_.size ≤ maxLen) w_.2) w_.2) w_.2)) Try.underlying88 ?_ ?_
          · kernel_rfl
          · refine RdF.cons (a := (Kd.int .i64)) (b := (Kd.pair (Kd.int .i64) (Kd.pair (Kd.int .i64) Kd.string))) (oka := (fun z_ : Int => (Lit.int .i64 z_).wf = true)) (okb := (fun w_ => (fun z_ : Int => (Lit.int .i64 z_).wf = true) w_.1 ∧ (fun w_ => (fun z_ : Int => (Lit.int .i64 z_).wf = true) w_.1 ∧ (fun z_ : ByteArray => z_.size ≤ maxLen) w_.2) w_.2)) ?_ rfl ?_ ?_
            · exact Rd.int Try.underlying2
            · kernel_rfl
            · refine RdF.cons (a := (Kd.int .i64)) (b := (Kd.pair (Kd.int .i64) Kd.string)) (oka := (fun z_ : Int => (Lit.int .i64 z_).wf = true)) (okb := (fun w_ => (fun z_ : Int => (Lit.int .i64 z_).wf = true) w_.1 ∧ (fun z_ : ByteArray => z_.size ≤ maxLen) w_.2)) ?_ rfl ?_ ?_
              · exact Rd.int Try.underlying2
              · kernel_rfl
              · refine RdF.cons (a := (Kd.int .i64)) (b := Kd.string) (oka := (fun z_ : Int => (Lit.int .i64 z_).wf = true)) (okb := (fun z_ : ByteArray => z_.size ≤ maxLen)) ?_ rfl ?_ ?_
                · exact Rd.int Try.underlying2
                · kernel_rfl
                · refine RdF.one (d := Kd.string) (ok := (fun z_ : ByteArray => z_.size ≤ maxLen)) ?_ rfl ?_
                  · exact Rd.str Try.underlying9
                  · kernel_rfl
      · kernel_rfl
set_option maxRecDepth 100000 in
theorem lifted (os : Os) (started : os.Started) (H : Type) (enc : TypeId × Value → H) :
    ReturnsInHanded {} Try.checked os 6 .any (Rows.fnExactTakeSpec.pre6 enc Try.prog Try.f6 Rows.fnExactTakeRow.domain false) (Rows.fnExactTakeSpec.post enc Try.prog Try.f6 false true false false) := by
  refine returnsInHanded_of_change_sized (C := Try.checked) own started (by kernel_rfl) Try.func6
    (ChangeSpec.witness6 (enc := enc) (C := Try.checked) false ⟨#[], #[(.agg #[(.int .i64 0), (.slice none 0 0)]), (.int .i64 0), (.bool false)], []⟩ 8 (by kernel_rfl) (by kernel_rfl) (by kernel_rfl) (by kernel_rfl)) ?_
  intro W base args ds gs before hval0 hW hcnd hsz0 _
  have hsz : (DataW.weightsEach Try.prog (Try.f6.params.toList ++ Rows.fnExactTakeSpec.plain.varTypes Try.prog) (ds ++ gs)).all (· ≤ reachBytes) = true := hsz0
  have hval : ∀ (j : Nat) t v, Try.f6.params[j]? = some t → args[j]? = some v → Value.okWide Try.prog W .any base t v := hval0
  have hW' := hW
  obtain ⟨p, q, hA0, hV, rfl, hfz, hnd⟩ := hW
  have hA : DataW.TrodAll enc Try.prog W 0 (fun _ => true) true Try.f6.params.toList args.toList ds p := hA0
  rw [Try.params6] at hA hval hsz
  obtain ⟨v0, vs0, d0, ds0, p0, q0, hargs, rfl, rfl, h0, r0⟩ := trodAll_cons hA
  obtain ⟨v1, vs1, d1, ds1, p1, q1, rfl, rfl, rfl, h1, r1⟩ := trodAll_cons r0
  obtain ⟨v2, vs2, d2, ds2, p2, q2, rfl, rfl, rfl, h2, r2⟩ := trodAll_cons r1
  obtain ⟨rfl, rfl, rfl⟩ := trodAll_nil r2
  obtain rfl : args = #[v0, v1, v2] := by cases args; simp_all
  obtain ⟨rfl, rfl⟩ := trodVars_none hV
  have k0 := h0
  have lt0 : ∀ x ∈ p0, x.block < W.heap.size := by obtain ⟨m, hm⟩ := k0; exact DataW.trod_lt m _ _ _ hm
  have x0 : ∃ (a0_0 : Int) (A0_1 : Option Addr) (c0_1 : Nat) (l0_1 : List (S88)), v0 = .agg #[.int .i64 a0_0, .slice A0_1 l0_1.length c0_1] ∧ (Lit.int .i64 a0_0).wf = true ∧ (l0_1.length ≤ maxLen ∧ ∀ y0_ ∈ l0_1, ((Lit.int .i64 y0_.f0).wf = true ∧ (Lit.int .i64 y0_.f1).wf = true ∧ (Lit.int .i64 y0_.f2).wf = true ∧ y0_.f3.size ≤ maxLen)) ∧ Kd.C k88 W A0_1 l0_1.length l0_1 ∧ l0_1.length ≤ c0_1 := by
    obtain ⟨fuel, hf⟩ := h0
    obtain ⟨cs, rfl, _⟩ := okWide_struct Try.underlying33 (hval 0 33 v0 rfl rfl)
    obtain ⟨cs⟩ := cs
    obtain ⟨y, hK, ok⟩ := reads0 H enc W 0 _ true fuel cs _ (by simpa [Value.cells] using hf)
    obtain ⟨_, _, rfl, rfl, ⟨A1_, c1_, rfl, hl1_, hC1_⟩⟩ := hK
    exact ⟨y.1, A1_, c1_, y.2, rfl, ok.1, ok.2, hC1_, hl1_⟩
  obtain ⟨a0_0, A0_1, c0_1, l0_1, rfl, o0_0, o0_1, hr0_1, hc0_1⟩ := x0
  obtain ⟨a1, rfl, rfl, rfl, w1⟩ := open_int Try.underlying2 (hval 1 2 v1 rfl rfl) h1
  obtain ⟨a2, rfl, rfl, rfl⟩ := open_bool Try.underlying4 (hval 2 4 v2 rfl rfl) h2
  clear hA0 hval0 hsz0 hsz
  obtain ⟨k, hk⟩ := Pure.FnExactTake a0_0 l0_1 a1 a2 o0_0 o0_1 w1
  refine (QFnExactTake.laws_FnExactTake.calls (k := k) (a0_0 := a0_0) (A0_1 := A0_1) (c0_1 := c0_1) (l0_1 := l0_1) (hr0_1 := hr0_1) (hc0_1 := hc0_1) (a1 := a1) (a2 := a2) (r := true) (w := W) (h := hk)).mono fun e W' ⟨he, bel0⟩ => ?_
  have bel : Below W.heap.size W W' := bel0
  subst he
  exact ⟨_, rfl, _, _, _, [], _, [], hW', trodAll_mk1 (shut_bool Try.underlying4 _), (trodAll_cons_mk (Below.trod laidOut (by kernel_rfl) (of_decide_eq_true (by kernel_rfl)) k0 bel lt0) (trodAll_cons_mk (shut_int Try.underlying2 w1) (trodAll_cons_mk (shut_bool Try.underlying4 _) trodAll_mk0))), rfl, bel.frame _, fun h => by cases h⟩
theorem over : Rows.fnExactTakeRow.holds Try.pinned (OpenSpec.ofChange Rows.fnExactTakeSpec) :=
  OpenClaim.holds_of_wide 6 Try.f6 rfl rfl rfl rfl rfl rfl rfl ⟨rfl, rfl, rfl, rfl, rfl⟩ rfl rfl rfl rfl rfl (by kernel_rfl) Try.func6 (by kernel_rfl)
    (of_decide_eq_true (by kernel_rfl)) (by unfold Func.isWrapper; first | (rw [if_pos (by decide +kernel)]; kernel_rfl) | (rw [if_neg (by decide +kernel)]; exact ⟨rfl, rfl⟩))
    (fun os started H enc _ => lifted os started H enc)
theorem proved : Rows.FnExactTakeSaid := over
#print axioms proved
end Go.Proofs.Ytklaigmpceacaaa.fnExactTake
namespace Go.Proofs.Ytklaigmpceacaaa
/-- The row, under a short name, for the claim. -/
theorem fnExactTake_holds : Rows.FnExactTakeSaid := fnExactTake.proved
end Go.Proofs.Ytklaigmpceacaaa
