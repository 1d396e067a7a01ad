/- Written by wip/myprint.py of this repo (the kit's print, with additions of this session). -/
import Derived.Test.YtifchnibhohnpaaDoorQFnExactAddTox0
import Derived.Test.YtifchnibhohnpaaDoorQFnExactAddTox4
set_option maxRecDepth 100000
namespace Go.Proofs.YtifchnibhohnpaaDoor.QFnExactAddTo
open Go.RowKit Go.Proofs.YtifchnibhohnpaaDoorW.PrintWords Go.Proofs.YtifchnibhohnpaaDoorW.PrintLast Go.Proofs.YtifchnibhohnpaaDoorW.PrintMore
attribute [local go_sem] max2_int min2_int max_two min_two max_three min_three max_four min_four   -- for this text's walks alone
set_option linter.unusedVariables false
set_option linter.unusedSimpArgs false

/-! ### slices_BinarySearch_string_string: function 41 -/
def slices_BinarySearch_string_string.l0 : Nat → List ByteArray → ByteArray → Int → Int → Int → Option (Int × Bool)
 | 0, _, _, _, _, _ => none
 | k + 1, x0, x1, x6, x7, x8 => if x7 < x8 then (if 0 ≤ (wrap64 ((IntKind.u64.wrap (wrap64 (x7 + x8))) / 2)) then (if (wrap64 ((IntKind.u64.wrap (wrap64 (x7 + x8))) / 2)) < (x0.length : Int) then ((cmp_Less_string.f (rdOf ByteArray.empty x0 (wrap64 ((IntKind.u64.wrap (wrap64 (x7 + x8))) / 2))) x1).bind fun t173 => (if t173 = true then (slices_BinarySearch_string_string.l0 k x0 x1 x6 (wrap64 ((wrap64 ((IntKind.u64.wrap (wrap64 (x7 + x8))) / 2)) + 1)) x8) else (slices_BinarySearch_string_string.l0 k x0 x1 x6 x7 (wrap64 ((IntKind.u64.wrap (wrap64 (x7 + x8))) / 2))))) else (none)) else (none)) else (if x7 < x6 then (if 0 ≤ x7 then (if x7 < (x0.length : Int) then (if (rdOf ByteArray.empty x0 x7).toList = x1.toList then (some (x7, true)) else ((slices_isNaN_string.f (rdOf ByteArray.empty x0 x7)).bind fun t176 => (if t176 = true then ((slices_isNaN_string.f x1).bind fun t177 => (some (x7, t177))) else (some (x7, false))))) else (none)) else (none)) else (some (x7, false)))
def slices_BinarySearch_string_string.f (k : Nat) (l0 : List ByteArray) (a1 : ByteArray) : Option (Int × Bool) := slices_BinarySearch_string_string.l0 k l0 a1 (l0.length : Int) 0 (l0.length : Int)
theorem slices_BinarySearch_string_string.mono_l : ∀ k, (∀ y0 y1 y2 y3 y4, LeO (slices_BinarySearch_string_string.l0 k y0 y1 y2 y3 y4) (slices_BinarySearch_string_string.l0 (k + 1) y0 y1 y2 y3 y4))
 | 0 => fun _ _ _ _ _ r h => by simp [slices_BinarySearch_string_string.l0] at h
 | k + 1 => by
  have ih0 := slices_BinarySearch_string_string.mono_l k
  ·
   intro y0 y1 y2 y3 y4
   unfold slices_BinarySearch_string_string.l0
   repeat' first
   | (with_reducible exact ih0 _ _ _ _ _)
   | (with_reducible exact LeO.refl _)
   | (with_reducible exact LeO.none _)
   | (with_reducible refine LeO.ite ?_ ?_)
   | (with_reducible refine LeO.bind ?_ (fun _ => ?_))
   | exact ih0 _ _ _ _ _
   | exact LeO.none _
   | refine LeO.ite ?_ ?_
   | refine LeO.bind ?_ (fun _ => ?_)
theorem slices_BinarySearch_string_string.mono : ∀ a0 a1 k, LeO (slices_BinarySearch_string_string.f k a0 a1) (slices_BinarySearch_string_string.f (k + 1) a0 a1) := by
 intro a0 a1 k
 have ih0 := slices_BinarySearch_string_string.mono_l k
 unfold slices_BinarySearch_string_string.f
 repeat' first
   | (with_reducible exact ih0 _ _ _ _ _)
   | (with_reducible exact LeO.refl _)
   | (with_reducible exact LeO.none _)
   | (with_reducible refine LeO.ite ?_ ?_)
   | (with_reducible refine LeO.bind ?_ (fun _ => ?_))
   | exact ih0 _ _ _ _ _
   | exact LeO.none _
   | refine LeO.ite ?_ ?_
   | refine LeO.bind ?_ (fun _ => ?_)
set_option maxHeartbeats 8000000 in
set_option maxRecDepth 100000 in
theorem slices_BinarySearch_string_string.calls (k : Nat) (A0 : Option Addr) (c0 : Nat) (l0 : List ByteArray) (a1 : ByteArray) (r1 : Int) (r2 : Bool) (w : World) (hr0 : Kd.C Kd.string w A0 l0.length l0) (hc0 : l0.length ≤ c0) (h : slices_BinarySearch_string_string.f k l0 a1 = some (r1, r2)) :
  Calls Tryd.prog 41 #[.slice A0 l0.length c0, .string a1] w fun e w' => e = .returned (.tuple #[.int .i64 r1, .bool r2]) ∧ Drawn0 w w' := by
 have HR0 := Aside0.mk hr0
 have HC0 := Aside0.mk hc0
 clear hr0 hc0
 have H : (slices_BinarySearch_string_string.l0 k l0 a1 (l0.length : Int) 0 (l0.length : Int)) = some (r1, r2) := h
 clear h
 have H' := Aside0.mk H
 clear H
 go_enter Tryd.func41, Tryd.ntmps41
 go_wp2
 go_loopg [7, 8] k (fun kq v7 v8 w' => ∃ (x7_1 : Int) (x8_1 : Int), v7 = .int .i64 x7_1 ∧ v8 = .int .i64 x8_1 ∧ Aside0 (slices_BinarySearch_string_string.l0 kq l0 a1 (l0.length : Int) x7_1 x8_1 = some (r1, r2)) ∧ Aside0 (kq ≤ k) ∧ Drawn0 w w')
 case atStart => exact ⟨(0), ((l0.length : Int)), (by first | rfl | (simp; done) | (simp [*]; done)), (by first | rfl | (simp; done) | (simp [*]; done)), H', ⟨Nat.le_refl _⟩, by repeat (first | exact Drawn0.refl _ | apply Drawn0.step)⟩
 case round =>
  clear H'
  try clear p2
  obtain ⟨x7_1, x8_1, rfl, rfl, HA, HK1, ⟨m1, rfl⟩⟩ := hrel
  cases gk with
  | zero => exact absurd HA.out (by simp [slices_BinarySearch_string_string.l0])
  | succ k1 =>
   have H := HA.out
   clear HA
   simp only [slices_BinarySearch_string_string.l0] at H
   by_cases c3 : x7_1 < x8_1
   ·
    rw [if_pos c3] at H
    have c3b0 : decide (x7_1 < x8_1) = true := decide_eq_true c3
    clear c3
    obtain ⟨ji4, hji4⟩ : ∃ j_ : Int, (wrap64 ((IntKind.u64.wrap (wrap64 (x7_1 + x8_1))) / 2)) = j_ := ⟨_, rfl⟩
    replace H : (if 0 ≤ (ji4) then (if (ji4) < (l0.length : Int) then ((cmp_Less_string.f (rdOf ByteArray.empty l0 (ji4)) a1).bind fun t173 => (if t173 = true then (slices_BinarySearch_string_string.l0 k1 l0 a1 (l0.length : Int) (wrap64 ((ji4) + 1)) x8_1) else (slices_BinarySearch_string_string.l0 k1 l0 a1 (l0.length : Int) x7_1 ji4))) else (none)) else (none)) = some (r1, r2) := by first | (rw [hji4] at H; exact H) | (simp only [hji4] at H ⊢; exact H)
    have hji4w : (IntKind.i64.wrap ((IntKind.u64.wrap (wrap64 (x7_1 + x8_1))) / 2)) = ji4 := (i64_w _).trans hji4
    by_cases c5 : 0 ≤ (ji4)
    ·
     rw [if_pos c5] at H
     have c5b0 : decide (0 ≤ (ji4)) = true := decide_eq_true c5
     clear c5
     by_cases c6 : (ji4) < (l0.length : Int)
     ·
      rw [if_pos c6] at H
      have c6b0 : decide ((ji4) < (l0.length : Int)) = true := decide_eq_true c6
      clear c6
      replace H := Option.bind_eq_some_iff.mp H
      obtain ⟨t173, A70, H⟩ := H
      replace H : (if t173 = true then (slices_BinarySearch_string_string.l0 k1 l0 a1 (l0.length : Int) (wrap64 ((ji4) + 1)) x8_1) else (slices_BinarySearch_string_string.l0 k1 l0 a1 (l0.length : Int) x7_1 ji4)) = some (r1, r2) := H
      have A7 := Aside0.mk A70
      clear A70
      by_cases c8 : t173 = true
      ·
       subst c8
       have H1 : (slices_BinarySearch_string_string.l0 k1 l0 a1 (l0.length : Int) (wrap64 ((ji4) + 1)) x8_1) = some (r1, r2) := by rw [if_pos rfl] at H; exact H
       clear H
       have H := H1
       clear H1
       have H' := Aside0.mk H
       clear H
       have p172 : 0 ≤ ((ji4) : Int) := of_decide_eq_true (by first | (with_reducible assumption) | assumption)
       have q172 : (ji4) < (l0.length : Int) := of_decide_eq_true (by first | (with_reducible assumption) | assumption)
       obtain ⟨ad172, e172, hx172_0⟩ := Kd.at_string HR0.out (ji4) p172 q172
       cases e172
       replace p172 := eq_true p172
       replace q172 := eq_true q172
       go_wp2_with (first | ((with_reducible refine gate_callee (f := 62) rfl ?_); refine goesL_ (some 27) rfl rfl Tryd.func62 (by kernel_rfl) rfl #[.string (rdOf ByteArray.empty l0 (ji4)), .string a1] rfl (by (try simp only [List.map_toArray, List.map_cons, List.map_nil]); first | done | (simp only [hji4]; rfl) | rfl | (simp only [List.length_drop, List.length_take]; rfl)) ?_; (with_reducible refine (cmp_Less_string.calls (rdOf ByteArray.empty l0 (ji4)) a1 true _ A7.out).mono ?_); rintro e w' ⟨rfl, ⟨nd, rfl⟩⟩; refine ⟨_, rfl, ?_⟩))
       go_roundg k1
       case measure => have := HK1.out; omega
       case rel => exact ⟨(wrap64 ((ji4) + 1)), (x8_1), (by first | rfl | (simp; done) | (simp only [← hji4] <;> (first | rfl | simp)) | (simp [*]; done)), (by first | rfl | (simp; done) | (simp [*]; done)), H', ⟨by have := HK1.out; omega⟩, by repeat (first | exact Drawn0.refl _ | apply Drawn0.step)⟩
      ·
       replace c8 := Bool.eq_false_iff.mpr c8
       subst c8
       have H1 : (slices_BinarySearch_string_string.l0 k1 l0 a1 (l0.length : Int) x7_1 ji4) = some (r1, r2) := by rw [if_neg (show ¬ (false = true) by decide)] at H; exact H
       clear H
       have H := H1
       clear H1
       have H' := Aside0.mk H
       clear H
       have p172 : 0 ≤ ((ji4) : Int) := of_decide_eq_true (by first | (with_reducible assumption) | assumption)
       have q172 : (ji4) < (l0.length : Int) := of_decide_eq_true (by first | (with_reducible assumption) | assumption)
       obtain ⟨ad172, e172, hx172_0⟩ := Kd.at_string HR0.out (ji4) p172 q172
       cases e172
       replace p172 := eq_true p172
       replace q172 := eq_true q172
       go_wp2_with (first | ((with_reducible refine gate_callee (f := 62) rfl ?_); refine goesL_ (some 27) rfl rfl Tryd.func62 (by kernel_rfl) rfl #[.string (rdOf ByteArray.empty l0 (ji4)), .string a1] rfl (by (try simp only [List.map_toArray, List.map_cons, List.map_nil]); first | done | (simp only [hji4]; rfl) | rfl | (simp only [List.length_drop, List.length_take]; rfl)) ?_; (with_reducible refine (cmp_Less_string.calls (rdOf ByteArray.empty l0 (ji4)) a1 false _ A7.out).mono ?_); rintro e w' ⟨rfl, ⟨nd, rfl⟩⟩; refine ⟨_, rfl, ?_⟩))
       go_roundg k1
       case measure => have := HK1.out; omega
       case rel => exact ⟨(x7_1), (ji4), (by first | rfl | (simp; done) | (simp [*]; done)), (by first | rfl | (simp; done) | (simp only [← hji4] <;> (first | rfl | simp)) | (simp [*]; done)), H', ⟨by have := HK1.out; omega⟩, by repeat (first | exact Drawn0.refl _ | apply Drawn0.step)⟩
     ·
      rw [if_neg c6] at H
      exact absurd H (by simp)
    ·
     rw [if_neg c5] at H
     exact absurd H (by simp)
   ·
    rw [if_neg c3] at H
    have c3b0 : decide (x7_1 < x8_1) = false := decide_eq_false c3
    clear c3
    by_cases c9 : x7_1 < (l0.length : Int)
    ·
     rw [if_pos c9] at H
     have c9b0 : decide (x7_1 < (l0.length : Int)) = true := decide_eq_true c9
     clear c9
     by_cases c10 : 0 ≤ x7_1
     ·
      rw [if_pos c10] at H
      have c10b0 : decide (0 ≤ x7_1) = true := decide_eq_true c10
      clear c10
      by_cases c11 : x7_1 < (l0.length : Int)
      ·
       rw [if_pos c11] at H
       have c11b0 : decide (x7_1 < (l0.length : Int)) = true := decide_eq_true c11
       clear c11
       by_cases c12 : (rdOf ByteArray.empty l0 x7_1).toList = a1.toList
       ·
        rw [if_pos c12] at H
        have c12b0 : ((rdOf ByteArray.empty l0 x7_1).toList == a1.toList) = true := beq_iff_eq.mpr c12
        have c12b1 : ((rdOf ByteArray.empty l0 x7_1).toList != a1.toList) = false := bne_eq_false_iff_eq.mpr c12
        clear c12
        simp only [Option.some.injEq, Prod.mk.injEq] at H
        obtain ⟨rfl, rfl⟩ := H
        have p174 : 0 ≤ (x7_1 : Int) := of_decide_eq_true (by first | (with_reducible assumption) | assumption)
        have q174 : x7_1 < (l0.length : Int) := of_decide_eq_true (by first | (with_reducible assumption) | assumption)
        obtain ⟨ad174, e174, hx174_0⟩ := Kd.at_string HR0.out x7_1 p174 q174
        cases e174
        replace p174 := eq_true p174
        replace q174 := eq_true q174
        go_wp2
        go_ret2
        exact ⟨by first | rfl | (simp; done) | (simp [*]; done), by repeat (first | exact Drawn0.refl _ | apply Drawn0.step)⟩
       ·
        rw [if_neg c12] at H
        have c12b0 : ((rdOf ByteArray.empty l0 x7_1).toList == a1.toList) = false := beq_eq_false_iff_ne.mpr c12
        have c12b1 : ((rdOf ByteArray.empty l0 x7_1).toList != a1.toList) = true := bne_iff_ne.mpr c12
        replace H := Option.bind_eq_some_iff.mp H
        obtain ⟨t176, A130, H⟩ := H
        replace H : (if t176 = true then ((slices_isNaN_string.f a1).bind fun t177 => (some (x7_1, t177))) else (some (x7_1, false))) = some (r1, r2) := H
        have A13 := Aside0.mk A130
        clear A130
        by_cases c14 : t176 = true
        ·
         subst c14
         have H1 : ((slices_isNaN_string.f a1).bind fun t177 => (some (x7_1, t177))) = some (r1, r2) := by rw [if_pos rfl] at H; exact H
         clear H
         have H := H1
         clear H1
         replace H := Option.bind_eq_some_iff.mp H
         obtain ⟨t177, A150, H⟩ := H
         replace H : (some (x7_1, t177)) = some (r1, r2) := H
         have A15 := Aside0.mk A150
         clear A150
         simp only [Option.some.injEq, Prod.mk.injEq] at H
         obtain ⟨rfl, rfl⟩ := H
         have p174 : 0 ≤ (x7_1 : Int) := of_decide_eq_true (by first | (with_reducible assumption) | assumption)
         have q174 : x7_1 < (l0.length : Int) := of_decide_eq_true (by first | (with_reducible assumption) | assumption)
         obtain ⟨ad174, e174, hx174_0⟩ := Kd.at_string HR0.out x7_1 p174 q174
         cases e174
         replace p174 := eq_true p174
         replace q174 := eq_true q174
         have p175 : 0 ≤ (x7_1 : Int) := of_decide_eq_true (by first | (with_reducible assumption) | assumption)
         have q175 : x7_1 < (l0.length : Int) := of_decide_eq_true (by first | (with_reducible assumption) | assumption)
         obtain ⟨ad175, e175, hx175_0⟩ := Kd.at_string HR0.out x7_1 p175 q175
         obtain rfl : ad174 = ad175 := (by injection e175)
         replace p175 := eq_true p175
         replace q175 := eq_true q175
         go_wp2_with (first | (go_at_call 63; (with_reducible refine (slices_isNaN_string.calls (rdOf ByteArray.empty l0 x7_1) true _ A13.out).mono ?_); rintro e w' ⟨rfl, ⟨nd, rfl⟩⟩) | (go_at_call 63; (with_reducible refine (slices_isNaN_string.calls a1 t177 _ A15.out).mono ?_); rintro e w' ⟨rfl, ⟨nd, rfl⟩⟩))
         go_ret2
         exact ⟨by first | rfl | (simp; done) | (simp [*]; done), by repeat (first | exact Drawn0.refl _ | apply Drawn0.step)⟩
        ·
         replace c14 := Bool.eq_false_iff.mpr c14
         subst c14
         have H1 : (some (x7_1, false)) = some (r1, r2) := by rw [if_neg (show ¬ (false = true) by decide)] at H; exact H
         clear H
         have H := H1
         clear H1
         simp only [Option.some.injEq, Prod.mk.injEq] at H
         obtain ⟨rfl, rfl⟩ := H
         have p174 : 0 ≤ (x7_1 : Int) := of_decide_eq_true (by first | (with_reducible assumption) | assumption)
         have q174 : x7_1 < (l0.length : Int) := of_decide_eq_true (by first | (with_reducible assumption) | assumption)
         obtain ⟨ad174, e174, hx174_0⟩ := Kd.at_string HR0.out x7_1 p174 q174
         cases e174
         replace p174 := eq_true p174
         replace q174 := eq_true q174
         have p175 : 0 ≤ (x7_1 : Int) := of_decide_eq_true (by first | (with_reducible assumption) | assumption)
         have q175 : x7_1 < (l0.length : Int) := of_decide_eq_true (by first | (with_reducible assumption) | assumption)
         obtain ⟨ad175, e175, hx175_0⟩ := Kd.at_string HR0.out x7_1 p175 q175
         obtain rfl : ad174 = ad175 := (by injection e175)
         replace p175 := eq_true p175
         replace q175 := eq_true q175
         go_wp2_with (first | (go_at_call 63; (with_reducible refine (slices_isNaN_string.calls (rdOf ByteArray.empty l0 x7_1) false _ A13.out).mono ?_); rintro e w' ⟨rfl, ⟨nd, rfl⟩⟩))
         go_ret2
         exact ⟨by first | rfl | (simp; done) | (simp [*]; done), by repeat (first | exact Drawn0.refl _ | apply Drawn0.step)⟩
      ·
       rw [if_neg c11] at H
       exact absurd H (by simp)
     ·
      rw [if_neg c10] at H
      exact absurd H (by simp)
    ·
     rw [if_neg c9] at H
     have c9b0 : decide (x7_1 < (l0.length : Int)) = false := decide_eq_false c9
     clear c9
     simp only [Option.some.injEq, Prod.mk.injEq] at H
     obtain ⟨rfl, rfl⟩ := H
     go_wp2
     go_ret2
     exact ⟨by first | rfl | (simp; done) | (simp [*]; done), by repeat (first | exact Drawn0.refl _ | apply Drawn0.step)⟩

/-! ### slices_Insert_string_string: function 45 (given) -/
def slices_Insert_string_string.f (l0 : List ByteArray) (a1 : Int) (l2 : List ByteArray) : Option (List ByteArray) := if 0 ≤ a1 ∧ a1 ≤ (l0.length : Int) ∧ 0 < l2.length ∧ (l0.length + l2.length) * 16 ≤ 140737488355328 then some (l0.take a1.toNat ++ l2 ++ l0.drop a1.toNat) else none
/-- An own row's cells, and what is told of them. -/
theorem slices_Insert_string_string.open {w : World} {base : Nat} {ok : Nat → Prop} {v : Value} {l : List ByteArray} (ho : Kd.R Kd.string 9 w base ok v l) (h0 : 0 < l.length) :
    ∃ g cap cur, v = .slice (some ⟨g, 0, none⟩) l.length cap ∧ base ≤ g ∧ ok g ∧ w.heap[g]? = some (.cells cur 9 (0, 0)) ∧ l.length ≤ cap ∧ cap ≤ maxLen ∧ cur.size = cap ∧ cur.toList.take l.length = encs Value.string l := by
  have hok := ho.1
  obtain ⟨_, hn | ⟨g, cap, cur, rfl, hb, hh, hcap, hm, hs, ht⟩⟩ := Kd.own_of_R (enc := Value.string) ho
  · omega
  · rw [Nat.mul_one] at hs ht
    exact ⟨g, cap, cur, rfl, hb, hok g rfl, hh.plain (by decide), hcap, hm, hs, ht⟩
theorem slices_Insert_string_string.cells {w : World} {g e n : Nat} {cur : Array Value} {xs : List Value} (hh : w.heap[g]? = some (.cells cur e (0, 0))) (ht : cur.toList.take n = xs) : ∀ (j : Nat) v, xs[j]? = some v → w.cell? ⟨g, 0 + j, none⟩ = some v := by
  intro j v hv
  rw [← ht] at hv
  have hj : j < n := by
    rcases Nat.lt_or_ge j n with h | h
    · exact h
    · rw [List.getElem?_take_eq_none h] at hv; cases hv
  rw [List.getElem?_take_of_lt hj, Array.getElem?_toList] at hv
  rw [Nat.zero_add, (Held.of hh).cell j, hv]
theorem slices_Insert_string_string.one (l : List ByteArray) : ∀ v ∈ encs Value.string l, v.oneCell' = true := by
  intro v hv
  simp only [encs, List.mem_map] at hv
  obtain ⟨x, _, rfl⟩ := hv
  rfl
theorem slices_Insert_string_string.calls (P0_ : Nat → Prop) (u9000_ : Value) (l0 : List ByteArray) (a1 : Int) (P2_ : Nat → Prop) (u9001_ : Value) (l2 : List ByteArray) (r : List ByteArray) (w0 w : World) (hB : Below w0.heap.size w0 w) (ho0 : Kd.R Kd.string 9 w w0.heap.size P0_ u9000_ l0) (hp0_2 : ∀ k_, P0_ k_ → ¬ P2_ k_) (ho2 : Kd.R Kd.string 9 w w0.heap.size P2_ u9001_ l2) (hp2_0 : ∀ k_, P2_ k_ → ¬ P0_ k_) (h : slices_Insert_string_string.f l0 a1 l2 = some r) :
    Calls Tryd.prog 45 #[u9000_, .int .i64 a1, u9001_] w fun e w' => ∃ v0_ : Value, e = .returned v0_ ∧ Kd.R Kd.string 9 w' w0.heap.size (fun k_ => ((P0_ k_ ∨ P2_ k_) ∨ w.heap.size ≤ k_)) v0_ r ∧ Below w0.heap.size w0 w' ∧ Kept w w' (fun k_ => P0_ k_ ∨ P2_ k_) := by
  unfold slices_Insert_string_string.f at h
  split at h
  case isFalse => exact absurd h (by simp)
  rename_i hg
  injection h with h
  subst h
  obtain ⟨hg1, hg2, hg3, hg4⟩ := hg
  obtain ⟨i, rfl⟩ : ∃ i : Nat, a1 = i := ⟨a1.toNat, by omega⟩
  rw [Int.toNat_natCast]
  have hB0 := hB.size
  obtain ⟨vb, vc, vcur, rfl, hvb, hPv, hvh, hvcap, hvm, hvs, hvt⟩ := slices_Insert_string_string.open ho2 hg3
  have hvl : (encs Value.string l2).length = l2.length := by simp [encs]
  have hcl : (encs Value.string l0).length = l0.length := by simp [encs]
  have hvcell := slices_Insert_string_string.cells hvh hvt
  have hrl : (l0.take i ++ l2 ++ l0.drop i).length = l0.length + l2.length := by simp; omega
  have hre : encs Value.string (l0.take i ++ l2 ++ l0.drop i) = (encs Value.string l0).take i ++ encs Value.string l2 ++ (encs Value.string l0).drop i := by simp [encs]
  -- a grown row
  have fin : ∀ (c' : Nat) (W : World) (cur' : Array Value), l0.length + l2.length ≤ c' → c' ≤ maxLen → W.heap[w.heap.size]? = some (.cells cur' 9 (0, 0)) → cur'.size = c' → cur'.toList.take (l0.length + l2.length) = encs Value.string (l0.take i ++ l2 ++ l0.drop i) → Below w.heap.size w W →
      ∃ v0_ : Value, Ending.returned (.slice (some ⟨w.heap.size, 0, none⟩) (l0.length + l2.length) c') = .returned v0_ ∧ Kd.R Kd.string 9 W w0.heap.size (fun k_ => ((P0_ k_ ∨ P2_ k_) ∨ w.heap.size ≤ k_)) v0_ (l0.take i ++ l2 ++ l0.drop i) ∧ Below w0.heap.size w0 W ∧ Kept w W (fun k_ => P0_ k_ ∨ P2_ k_) := by
    intro c' W cur' h1 h2 h3 h4 h5 h6
    refine ⟨_, rfl, Kd.R_of_own (enc := Value.string) ⟨by simp [encs], .inr ⟨w.heap.size, c', cur', by rw [hrl], hB0, Held.of h3, by rw [hrl]; exact h1, h2, by rw [h4, Nat.mul_one], by rw [hrl, Nat.mul_one]; exact h5⟩⟩ (fun k hk => ?_), below_step hB h6, Kept.of_below h6 _⟩
    obtain rfl : w.heap.size = k := by simpa [Value.ownBlock] using hk
    exact .inr (Nat.le_refl _)
  have gge := grownCap_ge w (l0.length + l2.length)
  have gle : ∀ c, grownCap w (l0.length + l2.length) c 9 ≤ maxLen := fun c => grownCap_le_maxLen w _ c 9 (by simp only [maxLen]; omega)
  by_cases hz : l0.length = 0
  · -- nothing there
    obtain rfl : l0 = [] := List.length_eq_zero_iff.1 hz
    obtain rfl : i = 0 := by simp at hg2; omega
    have grow : ∀ (A : Option Addr) (c : Nat), c < l2.length → Calls Tryd.prog 45 #[.slice A 0 c, .int .i64 ((0 : Nat) : Int), .slice (some ⟨vb, 0, none⟩) l2.length vc] w fun e w' => ∃ v0_ : Value, e = .returned v0_ ∧ Kd.R Kd.string 9 w' w0.heap.size (fun k_ => ((P0_ k_ ∨ P2_ k_) ∨ w.heap.size ≤ k_)) v0_ (([] : List ByteArray).take 0 ++ l2 ++ ([] : List ByteArray).drop 0) ∧ Below w0.heap.size w0 w' ∧ Kept w w' (fun k_ => P0_ k_ ∨ P2_ k_) := by
      intro A c hc
      have hC := Any2.slices_Insert_string_end_grow Tryd.lays2_22 A 0 c vb 0 l2.length vc [] (encs Value.string l2) w hg3 (by omega) (by omega) (by simp at hg4; omega) rfl hvl (fun _ => rfl) (fun a _ j v hv => by cases hv) hvcell (slices_Insert_string_string.one l2)
      rw [show Tryd.lays2_22_ren.t 9 = 9 from rfl] at hC
      refine hC.mono ?_
      rintro e w' ⟨rfl, rfl⟩
      have g1 := grownCap_ge w (0 + l2.length) c 9
      simp only [List.length_nil] at fin gle
      simp only [Nat.zero_add] at g1 fin gle ⊢
      refine fin _ _ _ g1 (gle c) (heap_alloc_new w.drew _) ?_ ?_ (below_alloc (below_drew (Below.refl _ _)) _)
      · simp only [List.nil_append, Array.size_append, List.size_toArray, size_zeroCells, hvl]
        simp [Value.cells]; omega
      · simp only [List.nil_append, Array.toList_append, List.toList_toArray, Nat.zero_add, List.take_nil, List.drop_nil, List.append_nil]
        exact List.take_left' hvl
    obtain ⟨_, ⟨rfl, _⟩ | ⟨g, cap, cur, rfl, hb, hh, hcap, hm, hs, ht⟩⟩ := Kd.own_of_R (enc := Value.string) ho0
    · exact grow none 0 hg3
    · have hP := ho0.1 g rfl
      rw [Nat.mul_one] at hs
      by_cases hroom : l2.length ≤ cap
      · refine (Any2.slices_Insert_string_end_room Tryd.lays2_22 g 0 0 cap vb 0 l2.length vc (encs Value.string l2) w hg3 (by omega) hm hvl (fun j hj => by
          rw [show (0 + 0 + j) = j by omega, hh.cell j]; simp; omega) (fun j hj => by rw [show (0 + 0 + j) = j by omega]; exact hh.frozen j (by omega)) hvcell (slices_Insert_string_string.one l2)).mono ?_
        rintro e w' ⟨rfl, rfl⟩
        obtain ⟨cur', h1, h2, h3⟩ := Held.row (encs Value.string l2) 0 w cur hh (by omega)
        obtain ⟨s1, s2, s3, s4⟩ := mk_same g (encs Value.string l2) 0 w
        refine ⟨_, rfl, Kd.R_of_own (enc := Value.string) ⟨by simp [encs], .inr ⟨g, cap, cur', by rw [hrl]; rfl, hb, h1, by rw [hrl]; simpa using hroom, hm, by rw [h2, hs, Nat.mul_one], ?_⟩⟩ (fun k hk => ?_), ⟨s1.trans hB.os, s2.trans hB.tape, s3.trans hB.output, by rw [s4]; exact hB.size, fun k hk => (mk_far _ 0 k (by omega)).trans (hB.block k hk)⟩, ⟨by rw [s4]; exact Nat.le_refl _, fun k hk hn => mk_far _ 0 k (fun e => hn (.inl (e ▸ hP)))⟩⟩
        · rw [h3, hrl, Nat.mul_one, hre]
          simp only [List.take_zero, List.nil_append, List.length_nil, Nat.zero_add, encs, List.map_nil, List.drop_nil, List.append_nil]
          exact List.take_left' (by simp)
        · obtain rfl : g = k := by simpa [Value.ownBlock] using hk
          exact .inl (.inl hP)
      · exact grow _ cap (by omega)
  · obtain ⟨b, cap, cur, rfl, hb, hP, hh, hcap, hm, hs, ht⟩ := slices_Insert_string_string.open ho0 (by omega)
    have hne : vb ≠ b := fun e => hp0_2 b hP (e ▸ hPv)
    have hcell := slices_Insert_string_string.cells hh ht
    have hH := Held.of hh
    have here : ∀ (W : World) (cur' : Array Value), Held W b 9 cur' → cur'.size = cap → cur'.toList.take (l0.length + l2.length) = encs Value.string (l0.take i ++ l2 ++ l0.drop i) → l0.length + l2.length ≤ cap → (W.os = w.os ∧ W.tape = w.tape ∧ W.output = w.output ∧ W.heap.size = w.heap.size) → (∀ k, k ≠ b → W.heap[k]? = w.heap[k]?) →
        ∃ v0_ : Value, Ending.returned (.slice (some ⟨b, 0, none⟩) (l0.length + l2.length) cap) = .returned v0_ ∧ Kd.R Kd.string 9 W w0.heap.size (fun k_ => ((P0_ k_ ∨ P2_ k_) ∨ w.heap.size ≤ k_)) v0_ (l0.take i ++ l2 ++ l0.drop i) ∧ Below w0.heap.size w0 W ∧ Kept w W (fun k_ => P0_ k_ ∨ P2_ k_) := by
      intro W cur' h1 h2 h3 h4 h5 h6
      obtain ⟨s1, s2, s3, s4⟩ := h5
      refine ⟨_, rfl, Kd.R_of_own (enc := Value.string) ⟨by simp [encs], .inr ⟨b, cap, cur', by rw [hrl], hb, h1, by rw [hrl]; exact h4, hm, by rw [h2, Nat.mul_one], by rw [hrl, Nat.mul_one]; exact h3⟩⟩ (fun k hk => ?_), ⟨s1.trans hB.os, s2.trans hB.tape, s3.trans hB.output, by rw [s4]; exact hB.size, fun k hk => (h6 k (by omega)).trans (hB.block k hk)⟩, ⟨by rw [s4]; exact Nat.le_refl _, fun k hk hn => h6 k (fun e => hn (.inl (e ▸ hP)))⟩⟩
      obtain rfl : b = k := by simpa [Value.ownBlock] using hk
      exact .inl (.inl hP)
    have htk : ∀ j, j ≤ l0.length → cur.toList.take j = (encs Value.string l0).take j := fun j hj => by rw [← ht, List.take_take, Nat.min_eq_left hj]
    by_cases hi : i < l0.length
    · by_cases hroom : l0.length + l2.length ≤ cap
      · have hsh : ∀ (g : Nat) (cs : Array Value), w.heap[g]? = some (.cells cs 9 (0, 0)) → w.shape? g = some (9, cs.size) := fun g cs h => by simp [World.shape?, h]
        have hfr : ∀ (g j : Nat) (cs : Array Value), w.heap[g]? = some (.cells cs 9 (0, 0)) → w.frozen? ⟨g, j, none⟩ = false := fun g j cs h => by simp [World.frozen?, h]
        refine (Any2.slices_Insert_string_shift Tryd.lays2_22 b 0 l0.length cap i vb 0 l2.length vc (encs Value.string l0) (encs Value.string l2) w hi hg3 hroom hm hne hcl hvl hcell (fun j hj => by
          rw [Nat.zero_add, hH.cell j]; simp; omega) (fun j hj => hfr b _ _ hh) hvcell (slices_Insert_string_string.one l0) (slices_Insert_string_string.one l2) 9 9 vcur.size cur.size (hsh vb _ hvh) (hsh b _ hh) (by omega) (hfr vb _ _ hvh) (hfr vb _ _ hvh)).mono ?_
        rintro e w' ⟨rfl, rfl⟩
        obtain ⟨c1, h1, h2, h3⟩ := Held.row ((encs Value.string l0).drop i) (0 + (i + l2.length)) w.drew cur hH (by simp [hcl]; omega)
        obtain ⟨c2, k1, k2, k3⟩ := Held.row (encs Value.string l2) (0 + i) _ c1 h1 (by omega)
        obtain ⟨s1, s2, s3, s4⟩ := mk_same b ((encs Value.string l0).drop i) (0 + (i + l2.length)) w.drew
        obtain ⟨t1, t2, t3, t4⟩ := mk_same b (encs Value.string l2) (0 + i) (w.drew.setCells b (0 + (i + l2.length)) ((encs Value.string l0).drop i))
        refine here _ c2 k1 (by omega) ?_ hroom ⟨t1.trans s1, t2.trans s2, t3.trans s3, t4.trans s4⟩ (fun k hk => (mk_far _ _ k hk).trans (mk_far _ _ k hk))
        rw [k3, h3, hre]
        simp only [Nat.zero_add]
        have hcl2 : cur.toList.length = cur.size := Array.length_toList
        have e1 : (cur.toList.take (i + l2.length)).length = i + l2.length := by rw [List.length_take, hcl2]; omega
        have e2 : ((encs Value.string l0).drop i).length = l0.length - i := by rw [List.length_drop, hcl]
        have e3 : (cur.toList.take (i + l2.length) ++ (encs Value.string l0).drop i ++ cur.toList.drop (i + l2.length + ((encs Value.string l0).drop i).length)).take i = (encs Value.string l0).take i := by
          rw [List.append_assoc, List.take_append_of_le_length (by omega), List.take_take, Nat.min_eq_left (by omega), htk i (by omega)]
        have e4 : (cur.toList.take (i + l2.length) ++ (encs Value.string l0).drop i ++ cur.toList.drop (i + l2.length + ((encs Value.string l0).drop i).length)).drop (i + (encs Value.string l2).length) = (encs Value.string l0).drop i ++ cur.toList.drop (i + l2.length + ((encs Value.string l0).drop i).length) := by
          rw [hvl, List.append_assoc]
          exact List.drop_left' e1
        rw [e3, e4, ← List.append_assoc]
        exact List.take_left' (by simp [encs]; omega)
      · have hC := Any2.slices_Insert_string_grow Tryd.lays2_22 b 0 l0.length cap i vb 0 l2.length vc (encs Value.string l0) (encs Value.string l2) w hi hg3 hcap (by omega) hg4 hcl hvl hcell hvcell (slices_Insert_string_string.one l0) (slices_Insert_string_string.one l2)
        rw [show Tryd.lays2_22_ren.t 9 = 9 from rfl] at hC
        refine hC.mono ?_
        rintro e w' ⟨rfl, rfl⟩
        have g1 := grownCap_ge w (l0.length + l2.length) cap 9
        have hA := heap_alloc_new w (.cells (((encs Value.string l0).take i).toArray ++ Builtin.zeroCells (Value.string ⟨#[]⟩).cells (l0.length + l2.length - i) ++ Builtin.zeroCells (Value.string ⟨#[]⟩).cells (grownCap w (l0.length + l2.length) cap 9 - (l0.length + l2.length))) 9)
        have hz1 : ((Value.string ⟨#[]⟩).cells).size = 1 := rfl
        have ha0 : (((encs Value.string l0).take i).toArray ++ Builtin.zeroCells (Value.string ⟨#[]⟩).cells (l0.length + l2.length - i) ++ Builtin.zeroCells (Value.string ⟨#[]⟩).cells (grownCap w (l0.length + l2.length) cap 9 - (l0.length + l2.length))).size = grownCap w (l0.length + l2.length) cap 9 := by
          simp only [Array.size_append, List.size_toArray, size_zeroCells, List.length_take, hcl, hz1]; omega
        have hat : (((encs Value.string l0).take i).toArray ++ Builtin.zeroCells (Value.string ⟨#[]⟩).cells (l0.length + l2.length - i) ++ Builtin.zeroCells (Value.string ⟨#[]⟩).cells (grownCap w (l0.length + l2.length) cap 9 - (l0.length + l2.length))).toList.take i = (encs Value.string l0).take i := by
          simp only [Array.toList_append, List.toList_toArray, List.append_assoc]
          exact List.take_left' (by rw [List.length_take, hcl]; omega)
        generalize (((encs Value.string l0).take i).toArray ++ Builtin.zeroCells (Value.string ⟨#[]⟩).cells (l0.length + l2.length - i) ++ Builtin.zeroCells (Value.string ⟨#[]⟩).cells (grownCap w (l0.length + l2.length) cap 9 - (l0.length + l2.length))) = c0 at hA ha0 hat ⊢
        obtain ⟨c1, h1, h2, h3⟩ := Held.row (encs Value.string l2) i (w.alloc (.cells c0 9)).drew c0 (Held.of hA) (by omega)
        obtain ⟨c2, k1, k2, k3⟩ := Held.row ((encs Value.string l0).drop i) (i + l2.length) ((w.alloc (.cells c0 9)).drew.setCells w.heap.size i (encs Value.string l2)).drew c1 h1 (by rw [List.length_drop, hcl]; omega)
        obtain ⟨s1, s2, s3, s4⟩ := mk_same w.heap.size (encs Value.string l2) i (w.alloc (.cells c0 9)).drew
        obtain ⟨t1, t2, t3, t4⟩ := mk_same w.heap.size ((encs Value.string l0).drop i) (i + l2.length) ((w.alloc (.cells c0 9)).drew.setCells w.heap.size i (encs Value.string l2)).drew
        have hal := below_alloc (Below.refl w.heap.size w) (.cells c0 9)
        have f1 : ∀ k, k ≠ w.heap.size → ((w.alloc (.cells c0 9)).drew.setCells w.heap.size i (encs Value.string l2)).heap[k]? = (w.alloc (.cells c0 9)).heap[k]? := fun k hk => mk_far (w := (w.alloc (.cells c0 9)).drew) _ _ k hk
        have f2 : ∀ k, k ≠ w.heap.size → (((w.alloc (.cells c0 9)).drew.setCells w.heap.size i (encs Value.string l2)).drew.setCells w.heap.size (i + l2.length) ((encs Value.string l0).drop i)).heap[k]? = ((w.alloc (.cells c0 9)).drew.setCells w.heap.size i (encs Value.string l2)).heap[k]? := fun k hk => mk_far (w := ((w.alloc (.cells c0 9)).drew.setCells w.heap.size i (encs Value.string l2)).drew) _ _ k hk
        refine fin _ _ c2 g1 (gle cap) (k1.plain (by decide)) (by omega) ?_ ⟨(t1.trans s1).trans hal.os, (t2.trans s2).trans hal.tape, (t3.trans s3).trans hal.output, by rw [t4]; show _ ≤ ((w.alloc (.cells c0 9)).drew.setCells w.heap.size i (encs Value.string l2)).heap.size; rw [s4]; exact hal.size, fun k hk => ((f2 k (by omega)).trans (f1 k (by omega))).trans (hal.block k hk)⟩
        rw [k3, h3, hre]
        have e1 : (c0.toList.take i ++ encs Value.string l2 ++ c0.toList.drop (i + (encs Value.string l2).length)).take (i + l2.length) = (encs Value.string l0).take i ++ encs Value.string l2 := by
          rw [hat]
          exact List.take_left' (by rw [List.length_append, List.length_take, hcl, hvl]; omega)
        rw [e1]
        exact List.take_left' (by simp [encs]; omega)
    · obtain rfl : i = l0.length := by omega
      by_cases hroom : l0.length + l2.length ≤ cap
      · refine (Any2.slices_Insert_string_end_room Tryd.lays2_22 b 0 l0.length cap vb 0 l2.length vc (encs Value.string l2) w hg3 hroom hm hvl (fun j hj => by
          rw [Nat.zero_add, hH.cell]; simp; omega) (fun j hj => hH.frozen _ (by omega)) hvcell (slices_Insert_string_string.one l2)).mono ?_
        rintro e w' ⟨rfl, rfl⟩
        obtain ⟨c1, h1, h2, h3⟩ := Held.row (encs Value.string l2) (0 + l0.length) w cur hH (by omega)
        refine here _ c1 h1 (by omega) ?_ hroom (mk_same b _ _ w) (fun k hk => mk_far _ _ k hk)
        rw [h3, hre, Nat.zero_add, ht, List.take_of_length_le (Nat.le_of_eq hcl), List.drop_eq_nil_of_le (Nat.le_of_eq hcl), List.append_nil]
        exact List.take_left' (by rw [List.length_append, hcl, hvl])
      · have hC := Any2.slices_Insert_string_end_grow Tryd.lays2_22 (some ⟨b, 0, none⟩) l0.length cap vb 0 l2.length vc (encs Value.string l0) (encs Value.string l2) w hg3 hcap (by omega) hg4 hcl hvl (fun h => by cases h) (fun a ha j v hv => by
          obtain rfl := Option.some.inj ha; have := hcell j v hv; rw [Nat.zero_add] at this; rw [add_plain]; exact this) hvcell (slices_Insert_string_string.one l2)
        rw [show Tryd.lays2_22_ren.t 9 = 9 from rfl] at hC
        refine hC.mono ?_
        rintro e w' ⟨rfl, rfl⟩
        have g1 := grownCap_ge w (l0.length + l2.length) cap 9
        refine fin _ _ _ g1 (gle cap) (heap_alloc_new w.drew _) ?_ ?_ (below_alloc (below_drew (Below.refl _ _)) _)
        · simp only [Array.size_append, List.size_toArray, size_zeroCells, List.length_append, hcl, hvl]
          simp [Value.cells]; omega
        · simp only [Array.toList_append, List.toList_toArray, hre]
          rw [List.take_of_length_le (Nat.le_of_eq hcl), List.drop_eq_nil_of_le (Nat.le_of_eq hcl), List.append_nil]
          exact List.take_left' (by rw [List.length_append, hcl, hvl])

/-! ### impl_AddTo: function 20 -/
def impl_AddTo.j0 : Nat → List ByteArray → ByteArray → Bool → Option (List ByteArray × Bool)
 | 0, _, _, _ => none
 | k + 1, x0, x1, x16 => if x16 = true then (some (([] : List ByteArray), false)) else ((slices_BinarySearch_string_string.f k x0 x1).bind fun bt180 => ((some (([] : List ByteArray) : List ByteArray)).bind fun y182 => (if y182.length + x0.length < 8796093022208 then ((some (y182 ++ x0 : List ByteArray)).bind fun y185 => (if bt180.2 = true then (some (y185, true)) else (if (x0.length : Int) = 200 then (some (([] : List ByteArray), false)) else ((slices_Insert_string_string.f y185 bt180.1 (([x1] : List ByteArray))).bind fun t191 => (some (t191, true)))))) else (none))))
def impl_AddTo.f (k : Nat) (l0 : List ByteArray) (a1 : ByteArray) : Option (List ByteArray × Bool) := (impl_isSet.f k l0).bind fun t178 => (if t178 = true then ((impl_isDigest.f a1).bind fun t179 => (impl_AddTo.j0 k l0 a1 (!t179))) else (impl_AddTo.j0 k l0 a1 true))
theorem impl_AddTo.mono_l : ∀ k, (∀ y0 y1 y2, LeO (impl_AddTo.j0 k y0 y1 y2) (impl_AddTo.j0 (k + 1) y0 y1 y2))
 | 0 => fun _ _ _ r h => by simp [impl_AddTo.j0] at h
 | k + 1 => by
  have ih0 := impl_AddTo.mono_l k
  ·
   intro y0 y1 y2
   unfold impl_AddTo.j0
   repeat' first
   | (with_reducible exact ih0 _ _ _)
   | (with_reducible exact impl_isSet.mono _ _)
   | (with_reducible exact slices_BinarySearch_string_string.mono _ _ _)
   | (with_reducible exact LeO.refl _)
   | (with_reducible exact LeO.none _)
   | (with_reducible refine LeO.ite ?_ ?_)
   | (with_reducible refine LeO.bind ?_ (fun _ => ?_))
   | exact ih0 _ _ _
   | exact impl_isSet.mono _ _
   | exact slices_BinarySearch_string_string.mono _ _ _
   | exact LeO.none _
   | refine LeO.ite ?_ ?_
   | refine LeO.bind ?_ (fun _ => ?_)
theorem impl_AddTo.mono : ∀ a0 a1 k, LeO (impl_AddTo.f k a0 a1) (impl_AddTo.f (k + 1) a0 a1) := by
 intro a0 a1 k
 have ih0 := impl_AddTo.mono_l k
 unfold impl_AddTo.f
 repeat' first
   | (with_reducible exact ih0 _ _ _)
   | (with_reducible exact impl_isSet.mono _ _)
   | (with_reducible exact slices_BinarySearch_string_string.mono _ _ _)
   | (with_reducible exact LeO.refl _)
   | (with_reducible exact LeO.none _)
   | (with_reducible refine LeO.ite ?_ ?_)
   | (with_reducible refine LeO.bind ?_ (fun _ => ?_))
   | exact ih0 _ _ _
   | exact impl_isSet.mono _ _
   | exact slices_BinarySearch_string_string.mono _ _ _
   | exact LeO.none _
   | refine LeO.ite ?_ ?_
   | refine LeO.bind ?_ (fun _ => ?_)
set_option maxHeartbeats 8000000 in
set_option maxRecDepth 100000 in
theorem impl_AddTo.calls (k : Nat) (A0 : Option Addr) (c0 : Nat) (l0 : List ByteArray) (a1 : ByteArray) (r1 : List ByteArray) (r2 : Bool) (w : World) (hr0 : Kd.C Kd.string w A0 l0.length l0) (hc0 : l0.length ≤ c0) (h : impl_AddTo.f k l0 a1 = some (r1, r2)) :
  Calls Tryd.prog 20 #[.slice A0 l0.length c0, .string a1] w fun e w' => ∃ v0_ : Value, e = .returned (.tuple #[v0_, .bool r2]) ∧ Kd.R Kd.string 9 w' w.heap.size (fun _ => True) v0_ r1 ∧ Below w.heap.size w w' := by
 have HR0 := Aside0.mk hr0
 have HC0 := Aside0.mk hc0
 clear hr0 hc0
 have HB := Aside0.mk (Below.refl w.heap.size w)
 have H : ((impl_isSet.f k l0).bind fun t178 => (if t178 = true then ((impl_isDigest.f a1).bind fun t179 => (impl_AddTo.j0 k l0 a1 (!t179))) else (impl_AddTo.j0 k l0 a1 true))) = some (r1, r2) := h
 clear h
 have HC3 := Aside0.mk H
 clear H
 go_enter Tryd.func20, Tryd.ntmps20
 go_upto_region 1 with (fail)
 go_cut [16] (fun v16 wc => ∃ (kq : Nat) (x16_2 : Bool), v16 = .bool x16_2 ∧ Aside0 (impl_AddTo.j0 kq l0 a1 x16_2 = some (r1, r2)) ∧ Aside0 (kq ≤ k) ∧ Aside0 (Below w.heap.size w wc))
 case first =>
  have H := HC3.out
  clear HC3
  replace H := Option.bind_eq_some_iff.mp H
  obtain ⟨t178, A40, H⟩ := H
  replace H : (if t178 = true then ((impl_isDigest.f a1).bind fun t179 => (impl_AddTo.j0 k l0 a1 (!t179))) else (impl_AddTo.j0 k l0 a1 true)) = some (r1, r2) := H
  have A4 := Aside0.mk A40
  clear A40
  by_cases c5 : t178 = true
  ·
   subst c5
   have H1 : ((impl_isDigest.f a1).bind fun t179 => (impl_AddTo.j0 k l0 a1 (!t179))) = some (r1, r2) := by rw [if_pos rfl] at H; exact H
   clear H
   have H := H1
   clear H1
   replace H := Option.bind_eq_some_iff.mp H
   obtain ⟨t179, A60, H⟩ := H
   replace H : (impl_AddTo.j0 k l0 a1 (!t179)) = some (r1, r2) := H
   have A6 := Aside0.mk A60
   clear A60
   have H' := Aside0.mk H
   clear H
   go_wp2_with (first | ((with_reducible refine gate_callee (f := 34) rfl ?_); refine goesL_ (some 10) rfl rfl Tryd.func34 (by kernel_rfl) rfl #[.slice A0 l0.length c0] rfl (by (try simp only [List.map_toArray, List.map_cons, List.map_nil]); first | done | rfl | (simp only [List.length_drop, List.length_take]; rfl)) ?_; (with_reducible refine (impl_isSet.calls k _ _ l0 true _ ?side1 ?side2 A4.out).mono ?_); (case side1 => repeat (first | exact (Kd.C_below HR0.out HB.out) | (with_reducible refine Kd.C_alloc ?_ _) | (with_reducible refine Kd.C_drewN ?_ _) | (with_reducible refine Kd.C_drew ?_))); (case side2 => exact HC0.out); rintro e w7 ⟨rfl, hb⟩; refine ⟨_, rfl, ?_⟩; have n0_ := Aside0.mk (below_step (by repeat (first | (with_reducible first | exact HB.out | apply below_alloc | apply pw_below_drewN | apply below_drew1) | exact HB.out)) hb); clear HB; have HB := n0_; clear n0_; (try clear hb); (try clear hb2); (try clear hk); (try clear hi)) | (go_at_call 40; (with_reducible refine (impl_isDigest.calls a1 t179 _ A6.out).mono ?_); rintro e w8 ⟨rfl, hb⟩; have n0_ := Aside0.mk (below_step (by repeat (first | (with_reducible first | exact HB.out | apply below_alloc | apply pw_below_drewN | apply below_drew1) | exact HB.out)) hb); clear HB; have HB := n0_; clear n0_; (try clear hb); (try clear hb2); (try clear hk); (try clear hi)))
   go_meet
   case rel => exact ⟨_, (!t179), (by first | rfl | (simp; done) | (simp [*]; done)), H', ⟨by first | omega | exact Nat.le_refl _⟩, ⟨by repeat (first | (with_reducible first | exact HB.out | apply below_alloc | apply pw_below_drewN | apply below_drew1) | exact HB.out)⟩⟩
  ·
   replace c5 := Bool.eq_false_iff.mpr c5
   subst c5
   have H1 : (impl_AddTo.j0 k l0 a1 true) = some (r1, r2) := by rw [if_neg (show ¬ (false = true) by decide)] at H; exact H
   clear H
   have H := H1
   clear H1
   have H' := Aside0.mk H
   clear H
   go_wp2_with (first | ((with_reducible refine gate_callee (f := 34) rfl ?_); refine goesL_ (some 10) rfl rfl Tryd.func34 (by kernel_rfl) rfl #[.slice A0 l0.length c0] rfl (by (try simp only [List.map_toArray, List.map_cons, List.map_nil]); first | done | rfl | (simp only [List.length_drop, List.length_take]; rfl)) ?_; (with_reducible refine (impl_isSet.calls k _ _ l0 false _ ?side1 ?side2 A4.out).mono ?_); (case side1 => repeat (first | exact (Kd.C_below HR0.out HB.out) | (with_reducible refine Kd.C_alloc ?_ _) | (with_reducible refine Kd.C_drewN ?_ _) | (with_reducible refine Kd.C_drew ?_))); (case side2 => exact HC0.out); rintro e w9 ⟨rfl, hb⟩; refine ⟨_, rfl, ?_⟩; have n0_ := Aside0.mk (below_step (by repeat (first | (with_reducible first | exact HB.out | apply below_alloc | apply pw_below_drewN | apply below_drew1) | exact HB.out)) hb); clear HB; have HB := n0_; clear n0_; (try clear hb); (try clear hb2); (try clear hk); (try clear hi)))
   go_meet
   case rel => exact ⟨_, (true), (by first | rfl | (simp; done) | (simp [*]; done)), H', ⟨by first | omega | exact Nat.le_refl _⟩, ⟨by repeat (first | (with_reducible first | exact HB.out | apply below_alloc | apply pw_below_drewN | apply below_drew1) | exact HB.out)⟩⟩
 case rest =>
  clear HC3
  try clear c2
  try clear p2
  try clear c3
  try clear c5
  obtain ⟨kq, x16_2, rfl, HA, HJ2, HB⟩ := hcut
  cases kq with
  | zero => exact absurd HA.out (by simp [impl_AddTo.j0])
  | succ kj2 =>
   have H := HA.out
   clear HA
   simp only [impl_AddTo.j0] at H
   by_cases c10 : x16_2 = true
   ·
    subst c10
    have H1 : (some (([] : List ByteArray), false)) = some (r1, r2) := by rw [if_pos rfl] at H; exact H
    clear H
    have H := H1
    clear H1
    simp only [Option.some.injEq, Prod.mk.injEq] at H
    obtain ⟨rfl, rfl⟩ := H
    go_wp2
    go_ret2
    exact ⟨_, by first | rfl | (simp [errW_none, errW_some] <;> rfl) | (simp [*, errW_none, errW_some] <;> rfl), by first | exact Kd.R_nil _ _ _ _ _ | exact Kd.N_nil _ _ _ _ _ | exact Kd.V_nil _ _ _ _ _ | exact Kd.Q_nil _ _ _ _ _ | exact Kd.S_nil _ _ _ _ _, by repeat (first | (with_reducible first | exact HB.out | apply below_alloc | apply pw_below_drewN | apply below_drew1) | exact HB.out)⟩
   ·
    replace c10 := Bool.eq_false_iff.mpr c10
    subst c10
    have H1 : ((slices_BinarySearch_string_string.f kj2 l0 a1).bind fun bt180 => ((some (([] : List ByteArray) : List ByteArray)).bind fun y182 => (if y182.length + l0.length < 8796093022208 then ((some (y182 ++ l0 : List ByteArray)).bind fun y185 => (if bt180.2 = true then (some (y185, true)) else (if (l0.length : Int) = 200 then (some (([] : List ByteArray), false)) else ((slices_Insert_string_string.f y185 bt180.1 (([a1] : List ByteArray))).bind fun t191 => (some (t191, true)))))) else (none)))) = some (r1, r2) := by rw [if_neg (show ¬ (false = true) by decide)] at H; exact H
    clear H
    have H := H1
    clear H1
    replace H := Option.bind_eq_some_iff.mp H
    obtain ⟨⟨t180, t181⟩, A110, H⟩ := H
    replace H : ((some (([] : List ByteArray) : List ByteArray)).bind fun y182 => (if y182.length + l0.length < 8796093022208 then ((some (y182 ++ l0 : List ByteArray)).bind fun y185 => (if t181 = true then (some (y185, true)) else (if (l0.length : Int) = 200 then (some (([] : List ByteArray), false)) else ((slices_Insert_string_string.f y185 t180 (([a1] : List ByteArray))).bind fun t191 => (some (t191, true)))))) else (none))) = some (r1, r2) := H
    have A11 := Aside0.mk A110
    clear A110
    obtain ⟨y182, hy182⟩ : ∃ y_ : List ByteArray, y_ = (([] : List ByteArray)) := ⟨_, rfl⟩
    replace H : (if y182.length + l0.length < 8796093022208 then ((some (y182 ++ l0 : List ByteArray)).bind fun y185 => (if t181 = true then (some (y185, true)) else (if (l0.length : Int) = 200 then (some (([] : List ByteArray), false)) else ((slices_Insert_string_string.f y185 t180 (([a1] : List ByteArray))).bind fun t191 => (some (t191, true)))))) else (none)) = some (r1, r2) := by first | (rw [hy182]; with_reducible exact H) | (have H2_ := (Option.bind_some _ _).symm.trans H; rw [hy182]; with_reducible exact H2_) | (have H2_ := (Option.bind_some _ _).symm.trans H; with_reducible exact H2_) | with_reducible exact H | (rw [hy182]; exact H) | exact H
    have Ny182 := Aside0.mk hy182
    clear hy182
    by_cases c12 : y182.length + l0.length < 8796093022208
    ·
     rw [if_pos c12] at H
     have LMc12 := Aside0.mk c12
     clear c12
     obtain ⟨y185, hy185⟩ : ∃ y_ : List ByteArray, y_ = (y182 ++ l0) := ⟨_, rfl⟩
     replace H : (if t181 = true then (some (y185, true)) else (if (l0.length : Int) = 200 then (some (([] : List ByteArray), false)) else ((slices_Insert_string_string.f y185 t180 (([a1] : List ByteArray))).bind fun t191 => (some (t191, true))))) = some (r1, r2) := by first | (rw [hy185]; with_reducible exact H) | (have H2_ := (Option.bind_some _ _).symm.trans H; rw [hy185]; with_reducible exact H2_) | (have H2_ := (Option.bind_some _ _).symm.trans H; with_reducible exact H2_) | with_reducible exact H | (rw [hy185]; exact H) | exact H
     have Ny185 := Aside0.mk hy185
     clear hy185
     by_cases c13 : t181 = true
     ·
      subst c13
      have H1 : (some (y185, true)) = some (r1, r2) := by rw [if_pos rfl] at H; exact H
      clear H
      have H := H1
      clear H1
      simp only [Option.some.injEq, Prod.mk.injEq] at H
      obtain ⟨rfl, rfl⟩ := H
      go_wp2_with (first | ((with_reducible refine gate_callee (f := 41) rfl ?_); refine goesL_ (some 20) rfl rfl Tryd.func41 (by kernel_rfl) rfl #[.slice A0 l0.length c0, .string a1] rfl (by (try simp only [List.map_toArray, List.map_cons, List.map_nil]); first | done | rfl | (simp only [List.length_drop, List.length_take]; rfl)) ?_; (with_reducible refine (slices_BinarySearch_string_string.calls kj2 _ _ l0 a1 t180 true _ ?side1 ?side2 A11.out).mono ?_); (case side1 => repeat (first | exact (Kd.C_below HR0.out HB.out) | (with_reducible refine Kd.C_alloc ?_ _) | (with_reducible refine Kd.C_drewN ?_ _) | (with_reducible refine Kd.C_drew ?_))); (case side2 => exact HC0.out); rintro e w' ⟨rfl, ⟨nd, rfl⟩⟩; refine ⟨_, rfl, ?_⟩) | ((with_reducible refine gate_dst (N := 23) rfl ?_); refine Kd.R_lit Kd.string _ 9 ?hg (N := 23) ?hd (xs := ([] : List ByteArray)) (inner := []) (ok := fun _ => True) (okp := fun _ => True) ?hr ?hp (fun _ hk => hk) trivial (Below.refl _ _) (Nat.le_refl _) (by simp) ?_; (case hd => rfl); (case hg => rfl); (case hr => first | (go_simp; done) | (go_simp; rfl)); (case hp => exact (Reps.none _ _)); intro v183 w14 ho15 hb hg_ hnew_; clear hg_ hnew_; (first | rw [← Ny182.out] at ho15 | (simp only [Int.reduceToNat] at ho15; rw [← Ny182.out] at ho15)); have n0_ := Aside0.mk (Kd.R_lower ho15 (below_size (by repeat (first | (with_reducible first | exact HB.out | apply below_alloc | apply pw_below_drewN | apply below_drew1) | exact HB.out)))); have n1_ := Aside0.mk (below_step (by repeat (first | (with_reducible first | exact HB.out | apply below_alloc | apply pw_below_drewN | apply below_drew1) | exact HB.out)) hb); clear HB; have HO184 := n0_; have HB := n1_; clear n0_ n1_; clear hb ho15) | ((with_reducible refine gate_builtin (b := .append) (xs := #[.tmp 23, .tmp 24]) rfl ?_); at_builtin; refine Kd.R_append_rows Kd.string (w0 := w) w.heap.size rfl (.tmp 23) (.tmp 24) 22 9 (.string ⟨#[]⟩) 16 rfl Tryd.underlying22 info9 rfl (by decide) (by omega) v183 y182 l0 _ _ _ (fun _ => True) (fun _ => False) rfl rfl ?aO ?aR (fun _ _ h => h) (fun _ h => h.elim) ?aF ?aB ?aS ?aL ?_; (case aR => repeat (first | exact (Kd.C_below HR0.out HB.out) | (with_reducible refine Kd.C_alloc ?_ _) | (with_reducible refine Kd.C_drewN ?_ _) | (with_reducible refine Kd.C_drew ?_))); (case aB => exact (by repeat (first | (with_reducible first | exact HB.out | apply below_alloc | apply pw_below_drewN | apply below_drew1) | exact HB.out))); (case aF => exact (fun _ _ => trivial)); (case aO => exact (by (with_reducible repeat (first | apply Kd.R_alloc | apply Kd.R_drewN | apply Kd.R_drew)); exact HO184.out)); (case aS => exact (below_size (by repeat (first | (with_reducible first | exact HB.out | apply below_alloc | apply pw_below_drewN | apply below_drew1) | exact HB.out)))); (case aL => have := LMc12.out; omega); intro v186 w16 ho hb hg hat; rw [← Ny185.out] at ho; have n0_ := Aside0.mk (hb); have n1_ := Aside0.mk (ho); clear HB; clear HO184; have HB := n0_; have HO187 := n1_; clear n0_ n1_; clear ho hb hg hat))
      go_ret2
      exact ⟨_, by first | rfl | (simp [errW_none, errW_some] <;> rfl) | (simp [*, errW_none, errW_some] <;> rfl), by (with_reducible repeat (first | apply Kd.R_alloc | apply Kd.R_drewN | apply Kd.R_drew)); exact HO187.out, by repeat (first | (with_reducible first | exact HB.out | apply below_alloc | apply pw_below_drewN | apply below_drew1) | exact HB.out)⟩
     ·
      replace c13 := Bool.eq_false_iff.mpr c13
      subst c13
      have H1 : (if (l0.length : Int) = 200 then (some (([] : List ByteArray), false)) else ((slices_Insert_string_string.f y185 t180 (([a1] : List ByteArray))).bind fun t191 => (some (t191, true)))) = some (r1, r2) := by rw [if_neg (show ¬ (false = true) by decide)] at H; exact H
      clear H
      have H := H1
      clear H1
      by_cases c17 : (l0.length : Int) = 200
      ·
       rw [if_pos c17] at H
       have c17b0 : ((l0.length : Int) == 200) = true := beq_iff_eq.mpr c17
       have c17b1 : ((l0.length : Int) != 200) = false := bne_eq_false_iff_eq.mpr c17
       clear c17
       simp only [Option.some.injEq, Prod.mk.injEq] at H
       obtain ⟨rfl, rfl⟩ := H
       go_wp2_with (first | ((with_reducible refine gate_callee (f := 41) rfl ?_); refine goesL_ (some 20) rfl rfl Tryd.func41 (by kernel_rfl) rfl #[.slice A0 l0.length c0, .string a1] rfl (by (try simp only [List.map_toArray, List.map_cons, List.map_nil]); first | done | rfl | (simp only [List.length_drop, List.length_take]; rfl)) ?_; (with_reducible refine (slices_BinarySearch_string_string.calls kj2 _ _ l0 a1 t180 false _ ?side1 ?side2 A11.out).mono ?_); (case side1 => repeat (first | exact (Kd.C_below HR0.out HB.out) | (with_reducible refine Kd.C_alloc ?_ _) | (with_reducible refine Kd.C_drewN ?_ _) | (with_reducible refine Kd.C_drew ?_))); (case side2 => exact HC0.out); rintro e w' ⟨rfl, ⟨nd, rfl⟩⟩; refine ⟨_, rfl, ?_⟩) | ((with_reducible refine gate_dst (N := 23) rfl ?_); refine Kd.R_lit Kd.string _ 9 ?hg (N := 23) ?hd (xs := ([] : List ByteArray)) (inner := []) (ok := fun _ => True) (okp := fun _ => True) ?hr ?hp (fun _ hk => hk) trivial (Below.refl _ _) (Nat.le_refl _) (by simp) ?_; (case hd => rfl); (case hg => rfl); (case hr => first | (go_simp; done) | (go_simp; rfl)); (case hp => exact (Reps.none _ _)); intro v183 w18 ho19 hb hg_ hnew_; clear hg_ hnew_; (first | rw [← Ny182.out] at ho19 | (simp only [Int.reduceToNat] at ho19; rw [← Ny182.out] at ho19)); have n0_ := Aside0.mk (Kd.R_lower ho19 (below_size (by repeat (first | (with_reducible first | exact HB.out | apply below_alloc | apply pw_below_drewN | apply below_drew1) | exact HB.out)))); have n1_ := Aside0.mk (below_step (by repeat (first | (with_reducible first | exact HB.out | apply below_alloc | apply pw_below_drewN | apply below_drew1) | exact HB.out)) hb); clear HB; have HO184 := n0_; have HB := n1_; clear n0_ n1_; clear hb ho19) | ((with_reducible refine gate_builtin (b := .append) (xs := #[.tmp 23, .tmp 24]) rfl ?_); at_builtin; refine Kd.R_append_rows Kd.string (w0 := w) w.heap.size rfl (.tmp 23) (.tmp 24) 22 9 (.string ⟨#[]⟩) 16 rfl Tryd.underlying22 info9 rfl (by decide) (by omega) v183 y182 l0 _ _ _ (fun _ => True) (fun _ => False) rfl rfl ?aO ?aR (fun _ _ h => h) (fun _ h => h.elim) ?aF ?aB ?aS ?aL ?_; (case aR => repeat (first | exact (Kd.C_below HR0.out HB.out) | (with_reducible refine Kd.C_alloc ?_ _) | (with_reducible refine Kd.C_drewN ?_ _) | (with_reducible refine Kd.C_drew ?_))); (case aB => exact (by repeat (first | (with_reducible first | exact HB.out | apply below_alloc | apply pw_below_drewN | apply below_drew1) | exact HB.out))); (case aF => exact (fun _ _ => trivial)); (case aO => exact (by (with_reducible repeat (first | apply Kd.R_alloc | apply Kd.R_drewN | apply Kd.R_drew)); exact HO184.out)); (case aS => exact (below_size (by repeat (first | (with_reducible first | exact HB.out | apply below_alloc | apply pw_below_drewN | apply below_drew1) | exact HB.out)))); (case aL => have := LMc12.out; omega); intro v186 w20 ho hb hg hat; rw [← Ny185.out] at ho; have n0_ := Aside0.mk (hb); have n1_ := Aside0.mk (ho); clear HB; clear HO184; have HB := n0_; have HO187 := n1_; clear n0_ n1_; clear ho hb hg hat))
       go_ret2
       exact ⟨_, by first | rfl | (simp [errW_none, errW_some] <;> rfl) | (simp [*, errW_none, errW_some] <;> rfl), by first | exact Kd.R_nil _ _ _ _ _ | exact Kd.N_nil _ _ _ _ _ | exact Kd.V_nil _ _ _ _ _ | exact Kd.Q_nil _ _ _ _ _ | exact Kd.S_nil _ _ _ _ _, by repeat (first | (with_reducible first | exact HB.out | apply below_alloc | apply pw_below_drewN | apply below_drew1) | exact HB.out)⟩
      ·
       rw [if_neg c17] at H
       have c17b0 : ((l0.length : Int) == 200) = false := beq_eq_false_iff_ne.mpr c17
       have c17b1 : ((l0.length : Int) != 200) = true := bne_iff_ne.mpr c17
       obtain ⟨y188, hy188⟩ : ∃ y_ : List ByteArray, y_ = (([a1] : List ByteArray)) := ⟨_, rfl⟩
       replace H : ((slices_Insert_string_string.f y185 t180 y188).bind fun t191 => (some (t191, true))) = some (r1, r2) := by first | (rw [hy188]; with_reducible exact H) | (have H2_ := (Option.bind_some _ _).symm.trans H; rw [hy188]; with_reducible exact H2_) | (have H2_ := (Option.bind_some _ _).symm.trans H; with_reducible exact H2_) | with_reducible exact H | (rw [hy188]; exact H) | exact H
       have Ny188 := Aside0.mk hy188
       clear hy188
       replace H := Option.bind_eq_some_iff.mp H
       obtain ⟨t191, A210, H⟩ := H
       replace H : (some (t191, true)) = some (r1, r2) := H
       have A21 := Aside0.mk A210
       clear A210
       simp only [Option.some.injEq, Prod.mk.injEq] at H
       obtain ⟨rfl, rfl⟩ := H
       go_wp2_with (first | ((with_reducible refine gate_callee (f := 41) rfl ?_); refine goesL_ (some 20) rfl rfl Tryd.func41 (by kernel_rfl) rfl #[.slice A0 l0.length c0, .string a1] rfl (by (try simp only [List.map_toArray, List.map_cons, List.map_nil]); first | done | rfl | (simp only [List.length_drop, List.length_take]; rfl)) ?_; (with_reducible refine (slices_BinarySearch_string_string.calls kj2 _ _ l0 a1 t180 false _ ?side1 ?side2 A11.out).mono ?_); (case side1 => repeat (first | exact (Kd.C_below HR0.out HB.out) | (with_reducible refine Kd.C_alloc ?_ _) | (with_reducible refine Kd.C_drewN ?_ _) | (with_reducible refine Kd.C_drew ?_))); (case side2 => exact HC0.out); rintro e w' ⟨rfl, ⟨nd, rfl⟩⟩; refine ⟨_, rfl, ?_⟩) | ((with_reducible refine gate_dst (N := 23) rfl ?_); refine Kd.R_lit Kd.string _ 9 ?hg (N := 23) ?hd (xs := ([] : List ByteArray)) (inner := []) (ok := fun _ => True) (okp := fun _ => True) ?hr ?hp (fun _ hk => hk) trivial (Below.refl _ _) (Nat.le_refl _) (by simp) ?_; (case hd => rfl); (case hg => rfl); (case hr => first | (go_simp; done) | (go_simp; rfl)); (case hp => exact (Reps.none _ _)); intro v183 w22 ho23 hb hg_ hnew_; clear hg_ hnew_; (first | rw [← Ny182.out] at ho23 | (simp only [Int.reduceToNat] at ho23; rw [← Ny182.out] at ho23)); have n0_ := Aside0.mk (Kd.R_lower ho23 (below_size (by repeat (first | (with_reducible first | exact HB.out | apply below_alloc | apply pw_below_drewN | apply below_drew1) | exact HB.out)))); have n1_ := Aside0.mk (below_step (by repeat (first | (with_reducible first | exact HB.out | apply below_alloc | apply pw_below_drewN | apply below_drew1) | exact HB.out)) hb); clear HB; have HO184 := n0_; have HB := n1_; clear n0_ n1_; clear hb ho23) | ((with_reducible refine gate_builtin (b := .append) (xs := #[.tmp 23, .tmp 24]) rfl ?_); at_builtin; refine Kd.R_append_rows Kd.string (w0 := w) w.heap.size rfl (.tmp 23) (.tmp 24) 22 9 (.string ⟨#[]⟩) 16 rfl Tryd.underlying22 info9 rfl (by decide) (by omega) v183 y182 l0 _ _ _ (fun _ => True) (fun _ => False) rfl rfl ?aO ?aR (fun _ _ h => h) (fun _ h => h.elim) ?aF ?aB ?aS ?aL ?_; (case aR => repeat (first | exact (Kd.C_below HR0.out HB.out) | (with_reducible refine Kd.C_alloc ?_ _) | (with_reducible refine Kd.C_drewN ?_ _) | (with_reducible refine Kd.C_drew ?_))); (case aB => exact (by repeat (first | (with_reducible first | exact HB.out | apply below_alloc | apply pw_below_drewN | apply below_drew1) | exact HB.out))); (case aF => exact (fun _ _ => trivial)); (case aO => exact (by (with_reducible repeat (first | apply Kd.R_alloc | apply Kd.R_drewN | apply Kd.R_drew)); exact HO184.out)); (case aS => exact (below_size (by repeat (first | (with_reducible first | exact HB.out | apply below_alloc | apply pw_below_drewN | apply below_drew1) | exact HB.out)))); (case aL => have := LMc12.out; omega); intro v186 w24 ho hb hg hat; rw [← Ny185.out] at ho; have n0_ := Aside0.mk (hb); have n1_ := Aside0.mk (ho); clear HB; clear HO184; have HB := n0_; have HO187 := n1_; clear n0_ n1_; clear ho hb hg hat) | ((with_reducible refine gate_dst (N := 34) rfl ?_); refine Kd.R_lit Kd.string _ 9 ?hg (N := 34) ?hd (xs := ([a1] : List ByteArray)) (inner := [.string a1]) (ok := fun _ => True) (okp := fun _ => True) ?hr ?hp (fun _ hk => hk) trivial (Below.refl _ _) (Nat.le_refl _) (by simp) ?_; (case hd => rfl); (case hg => rfl); (case hr => first | (go_simp; done) | (go_simp; rfl)); (case hp => exact (Reps.one (show Kd.M Kd.string _ _ _ a1 [.string a1] from rfl) (Reps.none _ _))); intro v189 w25 ho26 hb hg_ hnew_; clear hg_ hnew_; (first | rw [← Ny188.out] at ho26 | (simp only [Int.reduceToNat] at ho26; rw [← Ny188.out] at ho26)); have n0_ := Aside0.mk (Kd.R_elder' (by (with_reducible repeat (first | apply Kd.R_alloc | apply Kd.R_drewN | apply Kd.R_drew)); exact HO187.out) (Kd.R_base ho26) hb); have n1_ := Aside0.mk (Kd.R_lower (Kd.R_new' ho26 (Kd.R_lt (by (with_reducible repeat (first | apply Kd.R_alloc | apply Kd.R_drewN | apply Kd.R_drew)); exact HO187.out))) (below_size (by repeat (first | (with_reducible first | exact HB.out | apply below_alloc | apply pw_below_drewN | apply below_drew1) | exact HB.out)))); have n2_ := Aside0.mk (below_step (by repeat (first | (with_reducible first | exact HB.out | apply below_alloc | apply pw_below_drewN | apply below_drew1) | exact HB.out)) hb); clear HO187; clear HB; have HO187 := n0_; have HO190 := n1_; have HB := n2_; clear n0_ n1_ n2_; clear hb ho26; obtain ⟨Ao27, co27, eo27⟩ := Kd.R_slice HO187.out; subst eo27; obtain ⟨Ao28, co28, eo28⟩ := Kd.R_slice HO190.out; subst eo28) | ((with_reducible refine gate_callee (f := 45) rfl ?_); refine goesL_ (some 35) rfl rfl Tryd.func45 (by kernel_rfl) rfl #[.slice Ao27 y185.length co27, .int .i64 t180, .slice Ao28 y188.length co28] rfl (by (try simp only [List.map_toArray, List.map_cons, List.map_nil]); first | done | rfl | (simp only [List.length_drop, List.length_take]; rfl)) ?_; (with_reducible refine (slices_Insert_string_string.calls (fun k_ => some k_ = (.slice Ao27 y185.length co27 : Value).ownBlock) (.slice Ao27 y185.length co27) y185 t180 (fun k_ => some k_ = (.slice Ao28 y188.length co28 : Value).ownBlock) (.slice Ao28 y188.length co28) y188 t191 w _ ?side1 ?side2 ?side3 ?side4 ?side5 A21.out).mono ?_); (case side1 => repeat (first | (with_reducible first | exact HB.out | apply below_alloc | apply pw_below_drewN | apply below_drew1) | exact HB.out)); (case side2 => exact Kd.R_tight rfl HO187.out); (case side3 => exact fun k_ e_ => (HO187.out.1 k_ e_.symm).2); (case side4 => exact Kd.R_tight rfl HO190.out); (case side5 => exact fun k_ e_ => (HO190.out.1 k_ e_.symm).2); rintro e w29 ⟨v192, rfl, ho0, hb, hkp⟩; refine ⟨_, rfl, ?_⟩; have n0_ := Aside0.mk (Kd.R_mono (ok' := fun k_ => True) ho0 (fun k_ hk_ => trivial)); have n1_ := Aside0.mk (hb); clear HB; clear HO187; clear HO190; have HO193 := n0_; have HB := n1_; clear n0_ n1_; (try clear hb); (try clear hkp); (try clear ho0)))
       go_ret2
       exact ⟨_, by first | rfl | (simp [errW_none, errW_some] <;> rfl) | (simp [*, errW_none, errW_some] <;> rfl), by (with_reducible repeat (first | apply Kd.R_alloc | apply Kd.R_drewN | apply Kd.R_drew)); exact HO193.out, by repeat (first | (with_reducible first | exact HB.out | apply below_alloc | apply pw_below_drewN | apply below_drew1) | exact HB.out)⟩
    ·
     rw [if_neg c12] at H
     exact absurd H (by simp)

end Go.Proofs.YtifchnibhohnpaaDoor.QFnExactAddTo
