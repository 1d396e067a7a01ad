/- Written by wip/myprint.py of this repo (the kit's print, with additions of this session). -/
import Derived.Test.YtklaigmpceacaaaQFnPostedx0
import Derived.Test.YtklaigmpceacaaaQFnPostedx3
set_option maxRecDepth 100000
namespace Go.Proofs.Ytklaigmpceacaaa.QFnPosted
open Go.RowKit Go.Proofs.YtklaigmpceacaaaW.PrintWords Go.Proofs.YtklaigmpceacaaaW.PrintLast Go.Proofs.YtklaigmpceacaaaW.PrintMore
attribute [local go_sem] max2_int min2_int max_two min_two max_three min_three max_four min_four   -- for this text's walks alone
set_option linter.unusedVariables false
set_option linter.unusedSimpArgs false

/-! ### spec_l8Ends: function 55 -/
def spec_l8Ends.f (a0 : Int) (a1 : Int) (a2 : ByteArray) : Option (Bool) := (spec_l1In.f a0 1 50).bind fun t137 => (if t137 = true then ((spec_l1In.f a1 1 50).bind fun t138 => (if t138 = true then (some (decide ((a2.size : Int) ≤ 20000))) else (some false))) else (some false))
set_option maxHeartbeats 8000000 in
set_option maxRecDepth 100000 in
theorem spec_l8Ends.calls (a0 : Int) (a1 : Int) (a2 : ByteArray) (r : Bool) (w : World) (h : spec_l8Ends.f a0 a1 a2 = some r) :
  Calls Try.prog 55 #[.int .i64 a0, .int .i64 a1, .string a2] w fun e w' => e = .returned (.bool r) ∧ Drawn0 w w' := by
 unfold spec_l8Ends.f at h; have H := h; clear h; replace H := Option.bind_eq_some_iff.mp H; obtain ⟨t137, A40, H⟩ := H; (try dsimp only at H); have A4 := aM A40; clear A40; by_cases c5 : t137 = true
 ·
  subst c5; rw [if_pos rfl] at H; replace H := Option.bind_eq_some_iff.mp H; obtain ⟨t138, A60, H⟩ := H; (try dsimp only at H); have A6 := aM A60; clear A60; by_cases c7 : t138 = true
  ·
   subst c7; rw [if_pos rfl] at H; obtain rfl := Option.some.inj H; go_enter Try.func55, Try.ntmps55
   go_wp2_with (first | ((with_reducible refine gC 63 rfl ?_); refine gL 8 Try.func63 #[.int .i64 a0, .int .i64 1, .int .i64 50] ?_; (with_reducible refine (spec_l1In.calls a0 1 50 true _ A4.out).mono ?_); rintro e w' ⟨rfl, ⟨nd, rfl⟩⟩; refine ⟨_, rfl, ?_⟩) | (go_at_call 63; (with_reducible refine (spec_l1In.calls a1 1 50 true _ A6.out).mono ?_); rintro e w' ⟨rfl, ⟨nd, rfl⟩⟩))
   go_ret; exact ⟨zq10, zq11⟩
  replace c7 := Bool.eq_false_iff.mpr c7; subst c7; rw [if_neg (show ¬ (false = true) by decide)] at H; obtain rfl := Option.some.inj H; go_enter Try.func55, Try.ntmps55
  go_wp2_with (first | ((with_reducible refine gC 63 rfl ?_); refine gL 8 Try.func63 #[.int .i64 a0, .int .i64 1, .int .i64 50] ?_; (with_reducible refine (spec_l1In.calls a0 1 50 true _ A4.out).mono ?_); rintro e w' ⟨rfl, ⟨nd, rfl⟩⟩; refine ⟨_, rfl, ?_⟩) | (go_at_call 63; (with_reducible refine (spec_l1In.calls a1 1 50 false _ A6.out).mono ?_); rintro e w' ⟨rfl, ⟨nd, rfl⟩⟩))
  go_ret; exact ⟨zq10, zq11⟩
 replace c5 := Bool.eq_false_iff.mpr c5; subst c5; rw [if_neg (show ¬ (false = true) by decide)] at H; obtain rfl := Option.some.inj H; go_enter Try.func55, Try.ntmps55
 go_wp2_with (first | ((with_reducible refine gC 63 rfl ?_); refine gL 8 Try.func63 #[.int .i64 a0, .int .i64 1, .int .i64 50] ?_; (with_reducible refine (spec_l1In.calls a0 1 50 false _ A4.out).mono ?_); rintro e w' ⟨rfl, ⟨nd, rfl⟩⟩; refine ⟨_, rfl, ?_⟩))
 go_ret; exact ⟨zq10, zq11⟩

end Go.Proofs.Ytklaigmpceacaaa.QFnPosted
