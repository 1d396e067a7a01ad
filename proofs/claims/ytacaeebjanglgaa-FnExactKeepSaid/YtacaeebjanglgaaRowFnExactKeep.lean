/- The row of FnExactKeep: for every input that can be read the call returns true, and its arguments read as before. By wip/myprint.py of this repo. -/
import Derived.Test.YtacaeebjanglgaaRows
import Derived.Test.YtacaeebjanglgaaQFnExactKeepx20
import Derived.Test.YtacaeebjanglgaaPureFnExactKeep
import Derived.Test.YtacaeebjanglgaaReadsFnExactKeep
import Derived.WalkKit
import Derived.ProofKit
import Derived.OpenShut
import Derived.ShutString
import Derived.ChangeOld
import Derived.Below
import Derived.SizedLaws
namespace Go.Proofs.Ytacaeebjanglgaa.fnExactKeep
open Go.ChangeShapes Go.WideShapes Go.ChangeAt Go.RowKit Go.Proofs.YtacaeebjanglgaaW.PrintWords Go.Proofs.YtacaeebjanglgaaW.PrintLast Go.Proofs.Ytacaeebjanglgaa.Reads Go.Proofs.Ytacaeebjanglgaa.QFnExactKeep
open Go.ChangeMaps (open_string shut_string)
set_option linter.unusedVariables false
set_option linter.unusedSimpArgs false
theorem own : ownKnob Try.prog.godebug = none := by kernel_rfl
theorem laidOut : laidOutB Try.prog = true := by kernel_rfl
set_option maxRecDepth 100000 in
theorem reads0 : Rd Try.prog (Kd.pair (Kd.int .i64) (Kd.pair (Kd.slice 95 k95) (Kd.pair (Kd.slice 97 k97) (Kd.int .i64)))) 25 (fun x => (Lit.int .i64 x.1).wf = true ∧ (x.2.1.length ≤ maxLen ∧ ∀ y0_ ∈ x.2.1, (y0_.f0.size ≤ maxLen ∧ y0_.f1.size ≤ maxLen)) ∧ (x.2.2.1.length ≤ maxLen ∧ ∀ y0_ ∈ x.2.2.1, ((Lit.int .i64 y0_.f0).wf = true ∧ y0_.f1.size ≤ maxLen)) ∧ (Lit.int .i64 x.2.2.2).wf = true) := by
  refine Rd.struct (d := (Kd.pair (Kd.int .i64) (Kd.pair (Kd.slice 95 k95) (Kd.pair (Kd.slice 97 k97) (Kd.int .i64))))) (ok := (fun w_ => (fun z_ : Int => (Lit.int .i64 z_).wf = true) w_.1 ∧ (fun w_ => (fun z_ : List (S95) => (z_.length ≤ maxLen ∧ ∀ y5_ ∈ z_, (y5_.f0.size ≤ maxLen ∧ y5_.f1.size ≤ maxLen))) w_.1 ∧ (fun w_ => (fun z_ : List (S97) => (z_.length ≤ maxLen ∧ ∀ y5_ ∈ z_, ((Lit.int .i64 y5_.f0).wf = true ∧ y5_.f1.size ≤ maxLen))) w_.1 ∧ (fun z_ : Int => (Lit.int .i64 z_).wf = true) w_.2) w_.2) w_.2)) Try.underlying25 ?_ ?_
  · kernel_rfl
  · refine RdF.cons (a := (Kd.int .i64)) (b := (Kd.pair (Kd.slice 95 k95) (Kd.pair (Kd.slice 97 k97) (Kd.int .i64)))) (oka := (fun z_ : Int => (Lit.int .i64 z_).wf = true)) (okb := (fun w_ => (fun z_ : List (S95) => (z_.length ≤ maxLen ∧ ∀ y5_ ∈ z_, (y5_.f0.size ≤ maxLen ∧ y5_.f1.size ≤ maxLen))) w_.1 ∧ (fun w_ => (fun z_ : List (S97) => (z_.length ≤ maxLen ∧ ∀ y5_ ∈ z_, ((Lit.int .i64 y5_.f0).wf = true ∧ y5_.f1.size ≤ maxLen))) w_.1 ∧ (fun z_ : Int => (Lit.int .i64 z_).wf = true) w_.2) w_.2)) ?_ rfl ?_ ?_
    · exact Rd.int Try.underlying2
    · kernel_rfl
    · refine RdF.cons (a := (Kd.slice 95 k95)) (b := (Kd.pair (Kd.slice 97 k97) (Kd.int .i64))) (oka := (fun z_ : List (S95) => (z_.length ≤ maxLen ∧ ∀ y5_ ∈ z_, (y5_.f0.size ≤ maxLen ∧ y5_.f1.size ≤ maxLen)))) (okb := (fun w_ => (fun z_ : List (S97) => (z_.length ≤ maxLen ∧ ∀ y5_ ∈ z_, ((Lit.int .i64 y5_.f0).wf = true ∧ y5_.f1.size ≤ maxLen))) w_.1 ∧ (fun z_ : Int => (Lit.int .i64 z_).wf = true) w_.2)) ?_ rfl ?_ ?_
      · refine Rd.slice (e := 95) (d := k95) (ok := (fun z_ : S95 => (z_.f0.size ≤ maxLen ∧ z_.f1.size ≤ maxLen))) Try.underlying22 ?_ ?_
        · kernel_rfl
        · refine Rd.iso (d := (Kd.pair Kd.string Kd.string)) (ok := (fun w_ => (fun z_ : ByteArray => z_.size ≤ maxLen) w_.1 ∧ (fun z_ : ByteArray => z_.size ≤ maxLen) w_.2)) ?_ (fun x : S95 => (x.f0, x.f1)) (fun a => (⟨a.1, a.2⟩ : S95)) (fun _ => rfl)
          refine Rd.struct (d := (Kd.pair Kd.string Kd.string)) (ok := (fun w_ => (fun z_ : ByteArray => z_.size ≤ maxLen) w_.1 ∧ (fun z_ : ByteArray => z_.size ≤ maxLen) w_.2)) Try.underlying95 ?_ ?_
          · kernel_rfl
          · refine RdF.cons (a := Kd.string) (b := Kd.string) (oka := (fun z_ : ByteArray => z_.size ≤ maxLen)) (okb := (fun z_ : ByteArray => z_.size ≤ maxLen)) ?_ rfl ?_ ?_
            · exact Rd.str Try.underlying9
            · kernel_rfl
            · refine RdF.one (d := Kd.string) (ok := (fun z_ : ByteArray => z_.size ≤ maxLen)) ?_ rfl ?_
              · exact Rd.str Try.underlying9
              · kernel_rfl
      · kernel_rfl
      · refine RdF.cons (a := (Kd.slice 97 k97)) (b := (Kd.int .i64)) (oka := (fun z_ : List (S97) => (z_.length ≤ maxLen ∧ ∀ y5_ ∈ z_, ((Lit.int .i64 y5_.f0).wf = true ∧ y5_.f1.size ≤ maxLen)))) (okb := (fun z_ : Int => (Lit.int .i64 z_).wf = true)) ?_ rfl ?_ ?_
        · refine Rd.slice (e := 97) (d := k97) (ok := (fun z_ : S97 => ((Lit.int .i64 z_.f0).wf = true ∧ z_.f1.size ≤ maxLen))) Try.underlying23 ?_ ?_
          · kernel_rfl
          · refine Rd.iso (d := (Kd.pair (Kd.int .i64) Kd.string)) (ok := (fun w_ => (fun z_ : Int => (Lit.int .i64 z_).wf = true) w_.1 ∧ (fun z_ : ByteArray => z_.size ≤ maxLen) w_.2)) ?_ (fun x : S97 => (x.f0, x.f1)) (fun a => (⟨a.1, a.2⟩ : S97)) (fun _ => rfl)
            refine Rd.struct (d := (Kd.pair (Kd.int .i64) Kd.string)) (ok := (fun w_ => (fun z_ : Int => (Lit.int .i64 z_).wf = true) w_.1 ∧ (fun z_ : ByteArray => z_.size ≤ maxLen) w_.2)) Try.underlying97 ?_ ?_
            · kernel_rfl
            · refine RdF.cons (a := (Kd.int .i64)) (b := Kd.string) (oka := (fun z_ : Int => (Lit.int .i64 z_).wf = true)) (okb := (fun z_ : ByteArray => z_.size ≤ maxLen)) ?_ rfl ?_ ?_
              · exact Rd.int Try.underlying2
              · kernel_rfl
              · refine RdF.one (d := Kd.string) (ok := (fun z_ : ByteArray => z_.size ≤ maxLen)) ?_ rfl ?_
                · exact Rd.str Try.underlying9
                · kernel_rfl
        · kernel_rfl
        · refine RdF.one (d := (Kd.int .i64)) (ok := (fun z_ : Int => (Lit.int .i64 z_).wf = true)) ?_ rfl ?_
          · exact Rd.int Try.underlying2
          · kernel_rfl
set_option maxRecDepth 100000 in
theorem lifted (os : Os) (started : os.Started) (H : Type) (enc : TypeId × Value → H) :
    ReturnsInHanded {} Try.checked os 12 .any (Rows.fnExactKeepSpec.pre6 enc Try.prog Try.f12 Rows.fnExactKeepRow.domain false) (Rows.fnExactKeepSpec.post enc Try.prog Try.f12 false true false false) := by
  refine returnsInHanded_of_change_sized (C := Try.checked) own started (by kernel_rfl) Try.func12
    (ChangeSpec.witness6 (enc := enc) (C := Try.checked) false ⟨#[], #[(.agg #[(.int .i64 0), (.slice none 0 0), (.slice none 0 0), (.int .i64 0)]), (.string ⟨#[]⟩)], []⟩ 8 (by kernel_rfl) (by kernel_rfl) (by kernel_rfl) (by kernel_rfl)) ?_
  intro W base args ds gs before hval0 hW hcnd hsz0 _
  have hsz : (DataW.weightsEach Try.prog (Try.f12.params.toList ++ Rows.fnExactKeepSpec.plain.varTypes Try.prog) (ds ++ gs)).all (· ≤ reachBytes) = true := hsz0
  have hval : ∀ (j : Nat) t v, Try.f12.params[j]? = some t → args[j]? = some v → Value.okWide Try.prog W .any base t v := hval0
  have hW' := hW
  obtain ⟨p, q, hA0, hV, rfl, hfz, hnd⟩ := hW
  have hA : DataW.TrodAll enc Try.prog W 0 (fun _ => true) true Try.f12.params.toList args.toList ds p := hA0
  rw [Try.params12] at hA hval hsz
  obtain ⟨v0, vs0, d0, ds0, p0, q0, hargs, rfl, rfl, h0, r0⟩ := trodAll_cons hA
  obtain ⟨v1, vs1, d1, ds1, p1, q1, rfl, rfl, rfl, h1, r1⟩ := trodAll_cons r0
  obtain ⟨rfl, rfl, rfl⟩ := trodAll_nil r1
  obtain rfl : args = #[v0, v1] := by cases args; simp_all
  obtain ⟨rfl, rfl⟩ := trodVars_none hV
  have k0 := h0
  have lt0 : ∀ x ∈ p0, x.block < W.heap.size := by obtain ⟨m, hm⟩ := k0; exact DataW.trod_lt m _ _ _ hm
  have x0 : ∃ (a0_0 : Int) (A0_1 : Option Addr) (c0_1 : Nat) (l0_1 : List (S95)) (A0_2 : Option Addr) (c0_2 : Nat) (l0_2 : List (S97)) (a0_3 : Int), v0 = .agg #[.int .i64 a0_0, .slice A0_1 l0_1.length c0_1, .slice A0_2 l0_2.length c0_2, .int .i64 a0_3] ∧ (Lit.int .i64 a0_0).wf = true ∧ (l0_1.length ≤ maxLen ∧ ∀ y0_ ∈ l0_1, (y0_.f0.size ≤ maxLen ∧ y0_.f1.size ≤ maxLen)) ∧ Kd.C k95 W A0_1 l0_1.length l0_1 ∧ l0_1.length ≤ c0_1 ∧ (l0_2.length ≤ maxLen ∧ ∀ y0_ ∈ l0_2, ((Lit.int .i64 y0_.f0).wf = true ∧ y0_.f1.size ≤ maxLen)) ∧ Kd.C k97 W A0_2 l0_2.length l0_2 ∧ l0_2.length ≤ c0_2 ∧ (Lit.int .i64 a0_3).wf = true := by
    obtain ⟨fuel, hf⟩ := h0
    obtain ⟨cs, rfl, _⟩ := okWide_struct Try.underlying25 (hval 0 25 v0 rfl rfl)
    obtain ⟨cs⟩ := cs
    obtain ⟨y, hK, ok⟩ := reads0 H enc W 0 _ true fuel cs _ (by simpa [Value.cells] using hf)
    obtain ⟨_, _, rfl, rfl, ⟨_, _, rfl, ⟨A1_, c1_, rfl, hl1_, hC1_⟩, ⟨_, _, rfl, ⟨A2_, c2_, rfl, hl2_, hC2_⟩, rfl⟩⟩⟩ := hK
    exact ⟨y.1, A1_, c1_, y.2.1, A2_, c2_, y.2.2.1, y.2.2.2, rfl, ok.1, ok.2.1, hC1_, hl1_, ok.2.2.1, hC2_, hl2_, ok.2.2.2⟩
  obtain ⟨a0_0, A0_1, c0_1, l0_1, A0_2, c0_2, l0_2, a0_3, rfl, o0_0, o0_1, hr0_1, hc0_1, o0_2, hr0_2, hc0_2, o0_3⟩ := x0
  obtain ⟨a1, rfl, rfl, rfl, y1⟩ := open_string Try.underlying9 (hval 1 9 v1 rfl rfl) h1
  have w1 : a1.size ≤ 140737488351232 := by
    have z := sized_string hsz (j := 1) (t := 9) rfl rfl
    rw [Array.length_toList] at z
    exact z
  clear hA0 hval0 hsz0 hsz
  obtain ⟨k, hk⟩ := Pure.FnExactKeep a0_0 l0_1 l0_2 a0_3 a1 o0_0 o0_1 o0_2 o0_3 w1
  refine (QFnExactKeep.laws_FnExactKeep.calls (k := k) (a0_0 := a0_0) (A0_1 := A0_1) (c0_1 := c0_1) (l0_1 := l0_1) (hr0_1 := hr0_1) (hc0_1 := hc0_1) (A0_2 := A0_2) (c0_2 := c0_2) (l0_2 := l0_2) (hr0_2 := hr0_2) (hc0_2 := hc0_2) (a0_3 := a0_3) (a1 := a1) (r := true) (w := W) (h := hk)).mono fun e W' ⟨he, bel0⟩ => ?_
  have bel : Below W.heap.size W W' := bel0
  subst he
  exact ⟨_, rfl, _, _, _, [], _, [], hW', trodAll_mk1 (shut_bool Try.underlying4 _), (trodAll_cons_mk (Below.trod laidOut (by kernel_rfl) (of_decide_eq_true (by kernel_rfl)) k0 bel lt0) (trodAll_cons_mk (shut_string Try.underlying9 y1) trodAll_mk0)), rfl, bel.frame _, fun h => by cases h⟩
theorem over : Rows.fnExactKeepRow.holds Try.pinned (OpenSpec.ofChange Rows.fnExactKeepSpec) :=
  OpenClaim.holds_of_wide 12 Try.f12 rfl rfl rfl rfl rfl rfl rfl ⟨rfl, rfl, rfl, rfl, rfl⟩ rfl rfl rfl rfl rfl (by kernel_rfl) Try.func12 (by kernel_rfl)
    (of_decide_eq_true (by kernel_rfl)) (by unfold Func.isWrapper; first | (rw [if_pos (by decide +kernel)]; kernel_rfl) | (rw [if_neg (by decide +kernel)]; exact ⟨rfl, rfl⟩))
    (fun os started H enc _ => lifted os started H enc)
theorem proved : Rows.FnExactKeepSaid := over
#print axioms proved
end Go.Proofs.Ytacaeebjanglgaa.fnExactKeep
namespace Go.Proofs.Ytacaeebjanglgaa
/-- The row, under a short name, for the claim. -/
theorem fnExactKeep_holds : Rows.FnExactKeepSaid := fnExactKeep.proved
end Go.Proofs.Ytacaeebjanglgaa
