/- Written by wip/myprint.py of this repo (the kit's print, with additions of this session). -/
import Derived.Test.YtkpbdfpmoeobnaaDoorQFnExactBlobsOfx0
import Derived.Test.YtkpbdfpmoeobnaaDoorQFnExactBlobsOfx3
set_option maxRecDepth 100000
namespace Go.Proofs.YtkpbdfpmoeobnaaDoor.QFnExactBlobsOf
open Go.RowKit Go.Proofs.YtkpbdfpmoeobnaaDoorW.PrintWords Go.Proofs.YtkpbdfpmoeobnaaDoorW.PrintLast Go.Proofs.YtkpbdfpmoeobnaaDoorW.PrintMore
attribute [local go_sem] max2_int min2_int max_two min_two max_three min_three max_four min_four   -- for this text's walks alone
set_option linter.unusedVariables false
set_option linter.unusedSimpArgs false

/-! ### impl_isManifest: function 19 (walked by hand) -/
set_option maxHeartbeats 8000000 in
/-- The closure: a text that is no digest. -/
theorem impl_isManifest.clo (d : ByteArray) (t : Bool) (w : World) (h : impl_isDigest.f d = some t) :
  Calls Tryd.prog 26 #[.string d] w fun e w' => e = .returned (.bool (!t)) ∧ Below w.heap.size w w' := by
 go_enter Tryd.func26, Tryd.ntmps26
 go_wp2_with (fail)
 refine (impl_isDigest.calls d t _ h).mono ?_; rintro e w2 ⟨rfl, hb⟩
 try dsimp only
 go_wp2; go_ret; exact ⟨rfl, hb⟩
/-- The first place from i on at which there is no digest, or -1. -/
def impl_isManifest.at (l : List ByteArray) : Nat → Nat → Option Int
 | 0, _ => some (-1)
 | d + 1, i => (impl_isDigest.f (rdOf ByteArray.empty l (i : Int))).bind fun t => if t = true then impl_isManifest.at l d (i + 1) else some (i : Int)
set_option maxHeartbeats 8000000 in
theorem impl_isManifest.index (l : List ByteArray) (A : Option Addr) (c : Nat) (r : Int) (w : World) (hr : Kd.C Kd.string w A l.length l) (hc : l.length ≤ c) (hm : l.length ≤ 4611686018427387904) (h : impl_isManifest.at l l.length 0 = some r) :
  Calls Tryd.prog 33 #[.slice A l.length c, .func (.func 26) #[] #[]] w fun e w' => e = .returned (.int .i64 r) ∧ Below w.heap.size w w' := by
 have HR := aM hr; have HC := aM hc; have HM := aM hm; have H := aM h; clear hr hc hm h; go_enter Tryd.func33, Tryd.ntmps33; go_wp2
 go_loopg [8] l.length (fun kq v8 w' => ∃ (i : Nat) (x8 : Int), v8 = .int .i64 x8 ∧ Aside0 (x8 = (i : Int)) ∧ Aside0 (i + kq = l.length) ∧ Aside0 (impl_isManifest.at l kq i = some r) ∧ Aside0 (Below w.heap.size w w'))
 case atStart => exact ⟨0, 0, rfl, ⟨rfl⟩, ⟨by omega⟩, H, ⟨Below.refl _ _⟩⟩
 case round =>
  obtain ⟨i, x8, rfl, HI, hi, HE, HB⟩ := hrel
  cases gk with
  | zero =>
   have c1 : decide (x8 < (l.length : Int)) = false := decide_eq_false zq40; go_wp2; go_ret; have e1 := HE.out; unfold impl_isManifest.at at e1
   injection e1 with e1
   exact ⟨by first | (rw [← e1]; done) | (rw [← e1]; rfl), HB.out⟩
  | succ k1 =>
   have c1 : decide (x8 < (l.length : Int)) = true := decide_eq_true zq40; have b1 := eq_true (show 0 ≤ x8 by have := HI.out; omega); have b2 := eq_true (show x8 < (l.length : Int) by have := HI.out; have := hi.out; omega); obtain ⟨ad, e1, h0⟩ := Kd.at_string HR.out x8 (by have := HI.out; omega) zq40; subst e1; have hx0 : wr.cell? (ad.add x8.toNat) = some (.string (rdOf ByteArray.empty l x8)) := hxB HB h0; clear h0; have E := HE.out; unfold impl_isManifest.at at E; rw [← HI.out] at E; obtain ⟨t, ht, E⟩ := Option.bind_eq_some_iff.mp E; have HT := aM ht; have EE := aM E; clear ht E
   cases t with
   | true =>
    go_wp2_with (fail)
    refine (impl_isManifest.clo _ true _ HT.out).mono ?_; rintro e w7 ⟨rfl, hb⟩; have HB2 := aM (below_step HB.out hb); clear hb
    try dsimp only
    go_wp2
    go_roundg k1
    case measure => omega
    case rel =>
     refine ⟨i + 1, wrap64 (x8 + 1), rfl, ⟨?_⟩, ⟨by have := hi.out; omega⟩, ⟨?_⟩, HB2⟩
     ·
      rw [HI.out]; have := hi.out; have := HM.out; unfold wrap64; omega
     simpa using EE.out
   | false =>
    go_wp2_with (fail)
    refine (impl_isManifest.clo _ false _ HT.out).mono ?_; rintro e w7 ⟨rfl, hb⟩; have HB2 := aM (below_step HB.out hb); clear hb
    try dsimp only
    go_wp2; go_ret; have e2 := EE.out; rw [if_neg (by decide), Option.some.injEq] at e2; exact ⟨by first | (rw [← e2]; done) | (rw [← e2]; rfl), HB2.out⟩
set_option maxHeartbeats 8000000 in
theorem impl_isManifest.contains (l : List ByteArray) (A : Option Addr) (c : Nat) (r : Int) (w : World) (hr : Kd.C Kd.string w A l.length l) (hc : l.length ≤ c) (hm : l.length ≤ 4611686018427387904) (h : impl_isManifest.at l l.length 0 = some r) :
  Calls Tryd.prog 25 #[.slice A l.length c, .func (.func 26) #[] #[]] w fun e w' => e = .returned (.bool (decide (0 ≤ r))) ∧ Below w.heap.size w w' := by
 go_enter Tryd.func25, Tryd.ntmps25
 go_wp2_with (fail)
 refine (impl_isManifest.index l A c r _ hr hc hm h).mono ?_; rintro e w2 ⟨rfl, hb⟩
 try dsimp only
 go_wp2; go_ret; exact ⟨rfl, hb⟩
def impl_isManifest.f (a0_0 : ByteArray) (l0_1 : List ByteArray) : Option Bool := (impl_isDigest.f a0_0).bind fun t => if t = true then (if 1 ≤ (l0_1.length : Int) then (if (l0_1.length : Int) ≤ 40 then ((impl_isManifest.at l0_1 l0_1.length 0).bind fun i => some (!decide (0 ≤ i))) else some false) else some false) else some false
set_option maxHeartbeats 8000000 in
theorem impl_isManifest.calls (a0_0 : ByteArray) (A0_1 : Option Addr) (c0_1 : Nat) (l0_1 : List ByteArray) (r : Bool) (w : World) (hr0_1 : Kd.C Kd.string w A0_1 l0_1.length l0_1) (hc0_1 : l0_1.length ≤ c0_1) (h : impl_isManifest.f a0_0 l0_1 = some r) :
  Calls Tryd.prog 19 #[.agg #[.string a0_0, .slice A0_1 l0_1.length c0_1]] w fun e w' => e = .returned (.bool r) ∧ Below w.heap.size w w' := by
 have HR := aM hr0_1; have HC := aM hc0_1; have HB := aM (Below.refl w.heap.size w); unfold impl_isManifest.f at h; obtain ⟨t, ht, h⟩ := Option.bind_eq_some_iff.mp h; have HT := aM ht; clear hr0_1 hc0_1 ht
 cases t with
 | false =>
  rw [if_neg (by decide)] at h
  injection h with h
  subst h; go_enter Tryd.func19, Tryd.ntmps19
  go_wp2_with ((with_reducible refine gD 1 rfl ?_); refine bE 1 #[.string a0_0, .slice A0_1 l0_1.length c0_1] 27 ?_; intro gb hg w1 hbox hb; have BK := aM hbox; replace HB := sB HB.out hb; clear hb hbox hg; obtain ⟨z0, z1, f0, f1⟩ := cells2_ (w := w1) BK)
  refine (impl_isDigest.calls a0_0 false _ HT.out).mono ?_; rintro e w2 ⟨rfl, hb⟩; replace HB := sB HB.out hb; clear hb
  try dsimp only
  go_wp2; go_ret; exact ⟨rfl, HB.out⟩
 | true =>
  rw [if_pos rfl] at h; by_cases g1 : 1 ≤ (l0_1.length : Int)
  ·
   rw [if_pos g1] at h; have c1 := decide_eq_true g1; by_cases g2 : (l0_1.length : Int) ≤ 40
   ·
    rw [if_pos g2] at h; have c2 := decide_eq_true g2; have HM := aM (show l0_1.length ≤ 4611686018427387904 by omega); clear g1 g2; obtain ⟨i, hi, h⟩ := Option.bind_eq_some_iff.mp h; have HI := aM hi
    injection h with h
    subst h; clear hi; go_enter Tryd.func19, Tryd.ntmps19
    go_wp2_with ((with_reducible refine gD 1 rfl ?_); refine bE 1 #[.string a0_0, .slice A0_1 l0_1.length c0_1] 27 ?_; intro gb hg w1 hbox hb; have BK := aM hbox; replace HB := sB HB.out hb; clear hb hbox hg; obtain ⟨z0, z1, f0, f1⟩ := cells2_ (w := w1) BK)
    refine (impl_isDigest.calls a0_0 true _ HT.out).mono ?_; rintro e w2 ⟨rfl, hb⟩; replace HB := sB HB.out hb; replace BK := bF BK BK.out hb; clear hb
    try dsimp only
    obtain ⟨y0, y1, p0, p1⟩ := cells2_ (w := w2) BK
    go_wp2_with (fail)
    refine (impl_isManifest.contains l0_1 A0_1 c0_1 i _ (Kd.C_below HR.out HB.out) HC.out HM.out HI.out).mono ?_; rintro e w3 ⟨rfl, hb⟩; replace HB := sB HB.out hb; clear hb
    try dsimp only
    go_wp2; go_ret; exact ⟨rfl, HB.out⟩
   rw [if_neg g2] at h; have c2 := decide_eq_false g2
   injection h with h
   subst h; clear g1 g2; go_enter Tryd.func19, Tryd.ntmps19
   go_wp2_with ((with_reducible refine gD 1 rfl ?_); refine bE 1 #[.string a0_0, .slice A0_1 l0_1.length c0_1] 27 ?_; intro gb hg w1 hbox hb; have BK := aM hbox; replace HB := sB HB.out hb; clear hb hbox hg; obtain ⟨z0, z1, f0, f1⟩ := cells2_ (w := w1) BK)
   refine (impl_isDigest.calls a0_0 true _ HT.out).mono ?_; rintro e w2 ⟨rfl, hb⟩; replace HB := sB HB.out hb; replace BK := bF BK BK.out hb; clear hb
   try dsimp only
   obtain ⟨y0, y1, p0, p1⟩ := cells2_ (w := w2) BK; go_wp2; go_ret; exact ⟨rfl, HB.out⟩
  rw [if_neg g1] at h; have c1 := decide_eq_false g1
  injection h with h
  subst h; clear g1; go_enter Tryd.func19, Tryd.ntmps19
  go_wp2_with ((with_reducible refine gD 1 rfl ?_); refine bE 1 #[.string a0_0, .slice A0_1 l0_1.length c0_1] 27 ?_; intro gb hg w1 hbox hb; have BK := aM hbox; replace HB := sB HB.out hb; clear hb hbox hg; obtain ⟨z0, z1, f0, f1⟩ := cells2_ (w := w1) BK)
  refine (impl_isDigest.calls a0_0 true _ HT.out).mono ?_; rintro e w2 ⟨rfl, hb⟩; replace HB := sB HB.out hb; replace BK := bF BK BK.out hb; clear hb
  try dsimp only
  obtain ⟨y0, y1, p0, p1⟩ := cells2_ (w := w2) BK; go_wp2; go_ret; exact ⟨rfl, HB.out⟩

/-! ### slices_Sort_string_string: function 28 (given) -/
theorem slices_Sort_string_string.open {w : World} {base : Nat} {ok : Nat → Prop} {v : Value} {l : List ByteArray} (ho : Kd.R Kd.string 9 w base ok v l) (h0 : 0 < l.length) :
    ∃ g cap cur, v = .slice (some ⟨g, 0, none⟩) l.length cap ∧ base ≤ g ∧ ok g ∧ w.heap[g]? = some (.cells cur 9 (0, 0)) ∧ l.length ≤ cap ∧ cap ≤ maxLen ∧ cur.size = cap ∧ cur.toList.take l.length = encs Value.string l := by
  have hok := ho.1; obtain ⟨_, hn | ⟨g, cap, cur, rfl, hb, hh, hcap, hm, hs, ht⟩⟩ := Kd.own_of_R (enc := Value.string) ho
  · omega
  · rw [Nat.mul_one] at hs ht
    exact ⟨g, cap, cur, rfl, hb, hok g rfl, hh.plain (by decide), hcap, hm, hs, ht⟩
theorem slices_Sort_string_string.encs_of (ts : List (List UInt8)) : encs Value.string (ts.map fun b => (⟨b.toArray⟩ : ByteArray)) = ts.map Go.Proofs.encStr := by simp [encs, Go.Proofs.encStr, Function.comp_def]

def slices_Sort_string_string.f (l0 : List ByteArray) : Option (List ByteArray) := if 0 < l0.length ∧ l0.length < 4611686018427387904 then some (((l0.map fun s => s.data.toList).mergeSort fun x y => decide (x ≤ y)).map fun b => ⟨b.toArray⟩) else none
theorem slices_Sort_string_string.calls (P0_ : Nat → Prop) (u9000_ : Value) (l0 : List ByteArray) (r : List ByteArray) (w0 w : World) (hB : Below w0.heap.size w0 w) (ho0 : Kd.R Kd.string 9 w w0.heap.size P0_ u9000_ l0) (h : slices_Sort_string_string.f l0 = some r) :
    Calls Tryd.prog 28 #[u9000_] w fun e w' => e = .returned (.tuple #[]) ∧ Kd.R Kd.string 9 w' w0.heap.size (fun k_ => (P0_ k_ ∨ w.heap.size ≤ k_)) u9000_ r ∧ Below w0.heap.size w0 w' ∧ Kept w w' (fun k_ => P0_ k_) := by
  unfold slices_Sort_string_string.f at h
  split at h
  case isFalse => exact absurd h (by simp)
  rename_i hg
  injection h with h
  obtain ⟨g, cap, cur, rfl, hb, hP, hh, hcap, hm, hs, ht⟩ := slices_Sort_string_string.open ho0 hg.1; have e0 : (l0.map fun s => s.data.toList).length = l0.length := by simp
  have e1 : (l0.map fun s => s.data.toList).map Go.Proofs.encStr = encs Value.string l0 := by simp [encs, Go.Proofs.encStr, Function.comp_def]
  have hH := holds_of_block (ss := l0.map fun s => s.data.toList) hh (by rw [e0, e1]; exact ht); have hc := Any.slices_Sort_string Tryd.lays190 g 0 cap (l0.map fun s => s.data.toList) w hH (Array.getElem?_eq_some_iff.1 hh).1 (by rw [e0]; exact hg.2); rw [e0] at hc; refine hc.mono ?_; rintro e w' ⟨rfl, n, os, rfl⟩; generalize hts : (l0.map fun s => s.data.toList).mergeSort (fun x y => decide (x ≤ y)) = ts at h ⊢; have hl : ts.length = l0.length := by rw [← hts, List.length_mergeSort, e0]
  subst h; have hgr := grownBy_sorted (w := w) (g := g) (n := n) (os := os) ts.toArray; have hh' := heap_sorted (n := n) (os := os) ts.toArray hh; have hrl : (ts.map fun b => (⟨b.toArray⟩ : ByteArray)).length = l0.length := by rw [List.length_map, hl]
  have htk := take_putCells cur ts (by omega); refine ⟨rfl, Kd.R_of_own (enc := Value.string) ⟨by rw [slices_Sort_string_string.encs_of, List.length_map, List.length_map, Nat.mul_one], .inr ⟨g, cap, _, by rw [hrl], hb, Held.of hh', by rw [hrl]; exact hcap, hm, by simp [Go.Sort.putCells, hs], by rw [slices_Sort_string_string.encs_of, hrl, Nat.mul_one, ← hl]; exact htk⟩⟩ (fun k hk => ?_), hB.grown hgr hB.size (fun k hk => ?_), hgr.size, fun k hk hn => hgr.block k hk (fun e => hn ?_)⟩
  · obtain rfl : g = k := by simpa [Value.ownBlock] using hk
    exact .inl hP
  · obtain rfl : g = k := by simpa using hk
    exact hb
  · obtain rfl : g = k := by first | simpa using e | simpa using e.symm
    exact hP

/-! ### slices_Compact_string_string: function 29 (given) -/
theorem slices_Compact_string_string.open {w : World} {base : Nat} {ok : Nat → Prop} {v : Value} {l : List ByteArray} (ho : Kd.R Kd.string 9 w base ok v l) (h0 : 0 < l.length) :
    ∃ g cap cur, v = .slice (some ⟨g, 0, none⟩) l.length cap ∧ base ≤ g ∧ ok g ∧ w.heap[g]? = some (.cells cur 9 (0, 0)) ∧ l.length ≤ cap ∧ cap ≤ maxLen ∧ cur.size = cap ∧ cur.toList.take l.length = encs Value.string l := by
  have hok := ho.1; obtain ⟨_, hn | ⟨g, cap, cur, rfl, hb, hh, hcap, hm, hs, ht⟩⟩ := Kd.own_of_R (enc := Value.string) ho
  · omega
  · rw [Nat.mul_one] at hs ht
    exact ⟨g, cap, cur, rfl, hb, hok g rfl, hh.plain (by decide), hcap, hm, hs, ht⟩
theorem slices_Compact_string_string.encs_of (ts : List (List UInt8)) : encs Value.string (ts.map fun b => (⟨b.toArray⟩ : ByteArray)) = ts.map Go.Proofs.encStr := by simp [encs, Go.Proofs.encStr, Function.comp_def]

def slices_Compact_string_string.f (l0 : List ByteArray) : Option (List ByteArray) := if 0 < l0.length ∧ l0.length ≤ 9223372036854775807 then some ((Lib.compact (l0.map fun s => s.data.toList)).map fun b => ⟨b.toArray⟩) else none
theorem slices_Compact_string_string.calls (P0_ : Nat → Prop) (u9000_ : Value) (l0 : List ByteArray) (r : List ByteArray) (w0 w : World) (hB : Below w0.heap.size w0 w) (ho0 : Kd.R Kd.string 9 w w0.heap.size P0_ u9000_ l0) (h : slices_Compact_string_string.f l0 = some r) :
    Calls Tryd.prog 29 #[u9000_] w fun e w' => ∃ v0_ : Value, e = .returned v0_ ∧ Kd.R Kd.string 9 w' w0.heap.size (fun k_ => (P0_ k_ ∨ w.heap.size ≤ k_)) v0_ r ∧ Below w0.heap.size w0 w' ∧ Kept w w' (fun k_ => P0_ k_) := by
  unfold slices_Compact_string_string.f at h
  split at h
  case isFalse => exact absurd h (by simp)
  rename_i hg
  injection h with h
  obtain ⟨g, cap, cur, rfl, hb, hP, hh, hcap, hm, hs, ht⟩ := slices_Compact_string_string.open ho0 hg.1; have e0 : (l0.map fun s => s.data.toList).length = l0.length := by simp
  have e1 : (l0.map fun s => s.data.toList).map Go.Proofs.encStr = encs Value.string l0 := by simp [encs, Go.Proofs.encStr, Function.comp_def]
  have hH := holds_of_block (ss := l0.map fun s => s.data.toList) hh (by rw [e0, e1]; exact ht); have hc := Any.slices_Compact_string Tryd.lays194 g 0 cap (l0.map fun s => s.data.toList) w hH (by rw [e0]; exact hg.2) (by rw [e0]; exact hcap); rw [e0] at hc; refine hc.mono ?_; rintro e w' ⟨rfl, n, rfl⟩
  have hle : (Lib.compact (l0.map fun s => s.data.toList)).length ≤ l0.length := by
    unfold Lib.compact Lib.compactUpTo; rw [List.length_map]; exact Nat.le_trans (List.length_filter_le _ _) (by rw [List.length_range, e0]; exact Nat.le_refl _)
  generalize hts : Lib.compact (l0.map fun s => s.data.toList) = ts at h hle ⊢; subst h; generalize hus : ts ++ List.replicate (l0.length - ts.length) [] = us; have hul : us.length = l0.length := by rw [← hus, List.length_append, List.length_replicate]; omega
  have hgr := grownBy_sorted (w := w) (g := g) (n := n) (os := #[]) us.toArray; have hh' := heap_sorted (n := n) (os := #[]) us.toArray hh; rw [show ∀ W : World, Go.Sort.grow W #[] = W from fun W => by cases W; simp [Go.Sort.grow]] at hgr hh'; have hrl : (ts.map fun b => (⟨b.toArray⟩ : ByteArray)).length = ts.length := List.length_map _; have htk := take_putCells cur us (by omega)
  have htk2 : (Go.Sort.putCells Go.Proofs.encStr 0 us.toArray cur).toList.take ts.length = ts.map Go.Proofs.encStr := by
    have h1 := congrArg (List.take ts.length) htk; rw [List.take_take, Nat.min_eq_left (by omega)] at h1; rw [h1, ← hus, List.map_append, List.take_left' (List.length_map _)]
  refine ⟨_, rfl, Kd.R_of_own (enc := Value.string) ⟨by rw [slices_Compact_string_string.encs_of, List.length_map, List.length_map, Nat.mul_one], .inr ⟨g, cap, _, by rw [hrl], hb, Held.of hh', by rw [hrl]; omega, hm, by simp [Go.Sort.putCells, hs], by rw [slices_Compact_string_string.encs_of, hrl, Nat.mul_one]; exact htk2⟩⟩ (fun k hk => ?_), hB.grown hgr hB.size (fun k hk => ?_), hgr.size, fun k hk hn => hgr.block k hk (fun e => hn ?_)⟩
  · obtain rfl : g = k := by simpa [Value.ownBlock] using hk
    exact .inl hP
  · obtain rfl : g = k := by simpa using hk
    exact hb
  · obtain rfl : g = k := by first | simpa using e | simpa using e.symm
    exact hP

/-! ### impl_blobsOf: function 21 -/
def impl_blobsOf.f (a0_0 : ByteArray) (l0_1 : List ByteArray) : Option (List ByteArray) := (impl_isManifest.f a0_0 l0_1).bind fun t165 => (if t165 = true then ((some (([a0_0] : List ByteArray) : List ByteArray)).bind fun y166 => (if y166.length + l0_1.length < 8796093022208 then ((slices_Sort_string_string.f (y166 ++ l0_1)).bind fun t172 => ((slices_Compact_string_string.f t172).bind fun t173 => (some t173))) else (none))) else (some ([] : List ByteArray)))
set_option maxHeartbeats 8000000 in
set_option maxRecDepth 100000 in
theorem impl_blobsOf.calls (a0_0 : ByteArray) (A0_1 : Option Addr) (c0_1 : Nat) (l0_1 : List ByteArray) (r : List ByteArray) (w : World) (hr0_1 : Kd.C Kd.string w A0_1 l0_1.length l0_1) (hc0_1 : l0_1.length ≤ c0_1) (h : impl_blobsOf.f a0_0 l0_1 = some r) :
  Calls Tryd.prog 21 #[.agg #[.string a0_0, .slice A0_1 l0_1.length c0_1]] w fun e w' => ∃ v0_ : Value, e = .returned (v0_) ∧ Kd.R Kd.string 9 w' w.heap.size (fun _ => True) v0_ r ∧ Below w.heap.size w w' := by
 have hu27 := Tryd.underlying27; have HR0_1 := aM hr0_1; have HC0_1 := aM hc0_1; clear hr0_1 hc0_1; have HB := aM (Below.refl w.heap.size w); unfold impl_blobsOf.f at h; have H := h; clear h; replace H := Option.bind_eq_some_iff.mp H; obtain ⟨t165, A20, H⟩ := H; (try dsimp only at H); have A2 := aM A20; clear A20; by_cases c3 : t165 = true
 ·
  subst c3; rw [if_pos rfl] at H; obtain ⟨y166, hy166⟩ : ∃ y_ : List ByteArray, y_ = (([a0_0] : List ByteArray)) := ⟨_, rfl⟩; have hy_ := hy166; replace H : (if y166.length + l0_1.length < 8796093022208 then ((slices_Sort_string_string.f (y166 ++ l0_1)).bind fun t172 => ((slices_Compact_string_string.f t172).bind fun t173 => (some t173))) else (none)) = some r := hyE; clear hy_; have Ny166 := aM hy166; clear hy166; by_cases c4 : y166.length + l0_1.length < 8796093022208
  ·
   rw [if_pos c4] at H; have LMc4 := aM c4; clear c4; obtain ⟨y169, hy169⟩ : ∃ y_ : List ByteArray, y_ = (y166 ++ l0_1) := ⟨_, rfl⟩; have hy_ := hy169; replace H : ((slices_Sort_string_string.f y169).bind fun t172 => ((slices_Compact_string_string.f t172).bind fun t173 => (some t173))) = some r := hyE; clear hy_; have Ny169 := aM hy169; clear hy169; replace H := Option.bind_eq_some_iff.mp H; obtain ⟨t172, A50, H⟩ := H; (try dsimp only at H); have A5 := aM A50; clear A50; replace H := Option.bind_eq_some_iff.mp H; obtain ⟨t173, A60, H⟩ := H; replace H : (some t173) = some r := H; have A6 := aM A60; clear A60; obtain rfl := Option.some.inj H; go_enter Tryd.func21, Tryd.ntmps21
   go_wp2_with (first | ((with_reducible refine gD 1 rfl ?_); refine bE 1 #[.string a0_0, .slice A0_1 l0_1.length c0_1] 27 ?_; intro gb164 hg w7 hbox hb; have BK164 := aM hbox; have GW164 := aM (zq107 : w.heap.size ≤ gb164); have GE164 := GW164; replace HB := sB zq6 hb; clear hb hbox hg; obtain ⟨hcz8_0, hcz8_1, hfz8_0, hfz8_1⟩ := cells2_ (w := w7) BK164) | ((with_reducible refine gC 19 rfl ?_); refine gL 5 Tryd.func19 #[.agg #[.string a0_0, .slice A0_1 l0_1.length c0_1]] ?_; (with_reducible refine (impl_isManifest.calls a0_0 _ _ l0_1 true _ ?_ ?_ A2.out).mono ?_); exact zq10; exact zq11; rintro e w9 ⟨rfl, hb⟩; refine ⟨_, rfl, ?_⟩; replace BK164 := bG BK164 hb; replace HB := sB zq42 hb; clear hb; obtain ⟨hcz10_0, hcz10_1, hfz10_0, hfz10_1⟩ := cells2_ (w := w9) BK164) | ((with_reducible refine gD 9 rfl ?_); refine Kd.R_lit Kd.string _ 9 ?hg (N := 9) ?hd (xs := ([a0_0] : List ByteArray)) (inner := [.string a0_0]) (ok := fun _ => True) (okp := fun _ => True) ?hr ?hp (fun _ hk => hk) trivial (Below.refl _ _) (Nat.le_refl _) (by simp) ?_; (case hd => rfl); (case hg => rfl); (case hr => exact zq5); (case hp => exact zq38); intro v167 w11 ho12 hb hg_ hnew_; clear hg_ hnew_; (first | rw [← Ny166.out] at ho12 | (simp only [Int.reduceToNat] at ho12; rw [← Ny166.out] at ho12)); have HO168 := aM (Kd.R_lower ho12 (below_size zq42)); replace BK164 := bG BK164 hb; replace HB := sB zq42 hb; clear hb ho12; obtain ⟨hcz13_0, hcz13_1, hfz13_0, hfz13_1⟩ := cells2_ (w := w11) BK164) | ((with_reducible refine gate_builtin (b := .append) (xs := #[.tmp 9, .tmp 11]) rfl ?_); at_builtin; refine Kd.R_append_rows Kd.string (w0 := w) w.heap.size rfl (.tmp 9) (.tmp 11) 22 9 (.string ⟨#[]⟩) 16 rfl Tryd.underlying22 info9 rfl (by decide) (by omega) v167 y166 l0_1 _ _ _ (fun _ => True) (fun _ => False) rfl rfl ?aO ?aR (fun _ _ h => h) (fun _ h => h.elim) ?aF ?aB ?aS ?aL ?_; (case aR => exact zq10); (case aB => exact zq42); (case aF => exact zq28); (case aO => exact (by refine dR ?_; exact HO168.out)); (case aS => exact (below_size zq42)); (case aL => have := LMc4.out; omega); intro v170 w14 ho hb hg hat; rw [← Ny169.out] at ho; have n0_ := aM (blk_grown (g := gb164) (o := .cells #[.string a0_0, .slice A0_1 l0_1.length c0_1] 27 (0, 0)) zq41 hg (Kd.R_ne HO168.out BK164.out (by decide))); have n1_ := aM (hb); have n2_ := aM (ho); clear BK164; clear HB; clear HO168; have BK164 := n0_; have HB := n1_; have HO171 := n2_; clear n0_ n1_ n2_; clear ho hb hg hat; obtain ⟨Ao15, co15, eo15⟩ := Kd.R_slice HO171.out; subst eo15) | ((with_reducible refine gC 28 rfl ?_); refine gL 14 Tryd.func28 #[.slice Ao15 y169.length co15] ?_; (with_reducible refine (slices_Sort_string_string.calls (fun k_ => some k_ = (.slice Ao15 y169.length co15 : Value).ownBlock) (.slice Ao15 y169.length co15) y169 t172 w _ ?_ ?_ A5.out).mono ?_); exact zq42; exact Kd.R_tight rfl HO171.out; rintro e w16 ⟨rfl, hy0, hb, hkp⟩; refine ⟨_, rfl, ?_⟩; replace BK164 := aM (blk_kept zq43 hkp (fun hs_ => (fun e_ => (Kd.R_ne HO171.out BK164.out (by decide)) e_) hs_)); replace HO171 := aM (Kd.R_reok rfl hy0 (fun k_ e_ => HO171.out.1 k_ e_)); replace HB := aM hb; clear hb; (try clear hkp); (try clear hy0)) | ((with_reducible refine gC 29 rfl ?_); refine gL 16 Tryd.func29 #[.slice Ao15 y169.length co15] ?_; (with_reducible refine (slices_Compact_string_string.calls (fun k_ => some k_ = (.slice Ao15 y169.length co15 : Value).ownBlock) (.slice Ao15 y169.length co15) t172 t173 w _ ?_ ?_ A6.out).mono ?_); exact zq42; exact Kd.R_tight rfl HO171.out; rintro e w17 ⟨v174, rfl, ho0, hb, hkp⟩; refine ⟨_, rfl, ?_⟩; have n0_ := aM (blk_kept zq43 hkp (fun hs_ => (fun e_ => (Kd.R_ne HO171.out BK164.out (by decide)) e_) hs_)); have n1_ := aM (Kd.R_mono (ok' := fun k_ => True) ho0 (fun k_ hk_ => trivial)); have n2_ := aM (hb); clear BK164; clear HB; clear HO171; have BK164 := n0_; have HO175 := n1_; have HB := n2_; clear n0_ n1_ n2_; clear hb; (try clear hkp); (try clear ho0)))
   go_ret; exact ⟨_, zq7, by refine dR ?_; exact HO175.out, zq42⟩
  exact zq117
 replace c3 := Bool.eq_false_iff.mpr c3; subst c3; rw [if_neg (show ¬ (false = true) by decide)] at H; obtain rfl := Option.some.inj H; go_enter Tryd.func21, Tryd.ntmps21
 go_wp2_with (first | ((with_reducible refine gD 1 rfl ?_); refine bE 1 #[.string a0_0, .slice A0_1 l0_1.length c0_1] 27 ?_; intro gb164 hg w18 hbox hb; have BK164 := aM hbox; have GW164 := aM (zq107 : w.heap.size ≤ gb164); have GE164 := GW164; replace HB := sB zq6 hb; clear hb hbox hg; obtain ⟨hcz19_0, hcz19_1, hfz19_0, hfz19_1⟩ := cells2_ (w := w18) BK164) | ((with_reducible refine gC 19 rfl ?_); refine gL 5 Tryd.func19 #[.agg #[.string a0_0, .slice A0_1 l0_1.length c0_1]] ?_; (with_reducible refine (impl_isManifest.calls a0_0 _ _ l0_1 false _ ?_ ?_ A2.out).mono ?_); exact zq10; exact zq11; rintro e w20 ⟨rfl, hb⟩; refine ⟨_, rfl, ?_⟩; replace BK164 := bG BK164 hb; replace HB := sB zq42 hb; clear hb))
 go_ret; exact ⟨_, zq7, by first | exact Kd.R_nil _ _ _ _ _ | exact Kd.N_nil _ _ _ _ _ | exact Kd.V_nil _ _ _ _ _ | exact Kd.Q_nil _ _ _ _ _ | exact Kd.S_nil _ _ _ _ _, zq42⟩

/-! ### impl_BlobsOf: function 11 -/
def impl_BlobsOf.f (a0_0 : ByteArray) (l0_1 : List ByteArray) : Option (List ByteArray) := (impl_blobsOf.f a0_0 l0_1).bind fun t177 => (some t177)
set_option maxHeartbeats 8000000 in
set_option maxRecDepth 100000 in
theorem impl_BlobsOf.calls (a0_0 : ByteArray) (A0_1 : Option Addr) (c0_1 : Nat) (l0_1 : List ByteArray) (r : List ByteArray) (w : World) (hr0_1 : Kd.C Kd.string w A0_1 l0_1.length l0_1) (hc0_1 : l0_1.length ≤ c0_1) (h : impl_BlobsOf.f a0_0 l0_1 = some r) :
  Calls Tryd.prog 11 #[.agg #[.string a0_0, .slice A0_1 l0_1.length c0_1]] w fun e w' => ∃ v0_ : Value, e = .returned (v0_) ∧ Kd.R Kd.string 9 w' w.heap.size (fun _ => True) v0_ r ∧ Below w.heap.size w w' := by
 have hu27 := Tryd.underlying27; have HR0_1 := aM hr0_1; have HC0_1 := aM hc0_1; clear hr0_1 hc0_1; have HB := aM (Below.refl w.heap.size w); unfold impl_BlobsOf.f at h; have H := h; clear h; replace H := Option.bind_eq_some_iff.mp H; obtain ⟨t177, A20, H⟩ := H; replace H : (some t177) = some r := H; have A2 := aM A20; clear A20; obtain rfl := Option.some.inj H; go_enter Tryd.func11, Tryd.ntmps11
 go_wp2_with (first | ((with_reducible refine gD 1 rfl ?_); refine bE 1 #[.string a0_0, .slice A0_1 l0_1.length c0_1] 27 ?_; intro gb176 hg w3 hbox hb; have BK176 := aM hbox; have GW176 := aM (zq107 : w.heap.size ≤ gb176); have GE176 := GW176; replace HB := sB zq6 hb; clear hb hbox hg; obtain ⟨hcz4_0, hcz4_1, hfz4_0, hfz4_1⟩ := cells2_ (w := w3) BK176) | ((with_reducible refine gC 21 rfl ?_); refine gL 4 Tryd.func21 #[.agg #[.string a0_0, .slice A0_1 l0_1.length c0_1]] ?_; (with_reducible refine (impl_blobsOf.calls a0_0 _ _ l0_1 t177 _ ?_ ?_ A2.out).mono ?_); exact zq10; exact zq11; rintro e w5 ⟨v178, rfl, ho0, hb⟩; refine ⟨_, rfl, ?_⟩; have HO179 := aM (Kd.R_lower ho0 (below_size zq44)); replace BK176 := bF BK176 (by refine dW ?_; exact BK176.out) hb; replace HB := sB zq44 hb; clear hb; (try clear ho0)))
 go_ret; exact ⟨_, zq7, by refine dR ?_; exact HO179.out, zq44⟩

/-! ### laws_markText: function 22 -/
def laws_markText.l0 : Nat → Int → ByteArray → Option (ByteArray)
 | 0, _, _ => none
 | k + 1, x0, x3 => if x0 > 0 then ((some (([(wrap64 (48 + (Int.tmod x0 10))) % 256] : List Int) : List Int)).bind fun y180 => (if (strOfNums y180).size + x3.size ≤ 9223372036854775807 then (laws_markText.l0 k (wrap64 (Int.tdiv x0 10)) ((strOfNums y180) ++ x3)) else (none))) else (if 1 + x3.size ≤ 9223372036854775807 then (some ((⟨#[109]⟩ : ByteArray) ++ x3)) else (none))
def laws_markText.f (k : Nat) (a0 : Int) : Option (ByteArray) := if a0 ≤ 0 then (some (⟨#[109, 48]⟩ : ByteArray)) else (laws_markText.l0 k a0 (⟨#[]⟩ : ByteArray))
theorem laws_markText.mono_l : ∀ k, (∀ y0 y1, LeO (laws_markText.l0 k y0 y1) (laws_markText.l0 (k + 1) y0 y1))
 | 0 => fun _ _ r h => by simp [laws_markText.l0] at h
 | k + 1 => by
  have ih0 := laws_markText.mono_l k
  ·
   intro y0 y1; unfold laws_markText.l0
   repeat' first
   | (with_reducible apply ih0)
   | (with_reducible exact LeO.refl _)
   | (with_reducible exact LeO.none _)
   | (with_reducible refine LeO.ite ?_ ?_)
   | (with_reducible refine LeO.bind ?_ (fun _ => ?_))
   | exact LeO.none _
   | refine LeO.ite ?_ ?_
   | refine LeO.bind ?_ (fun _ => ?_)
theorem laws_markText.mono : ∀ a0 k, LeO (laws_markText.f k a0) (laws_markText.f (k + 1) a0) := by
 intro a0 k; have ih0 := laws_markText.mono_l k; unfold laws_markText.f
 repeat' first
   | (with_reducible apply ih0)
   | (with_reducible exact LeO.refl _)
   | (with_reducible exact LeO.none _)
   | (with_reducible refine LeO.ite ?_ ?_)
   | (with_reducible refine LeO.bind ?_ (fun _ => ?_))
   | exact LeO.none _
   | refine LeO.ite ?_ ?_
   | refine LeO.bind ?_ (fun _ => ?_)
set_option maxHeartbeats 8000000 in
set_option maxRecDepth 100000 in
theorem laws_markText.calls (k : Nat) (a0 : Int) (r : ByteArray) (w : World) (h : laws_markText.f k a0 = some r) :
  Calls Tryd.prog 22 #[.int .i64 a0] w fun e w' => e = .returned (.string r) ∧ Below w.heap.size w w' := by
 have HB := aM (Below.refl w.heap.size w); unfold laws_markText.f at h; have H := h; clear h; by_cases c2 : a0 ≤ 0
 ·
  rw [if_pos c2] at H; have c2b0 := decide_eq_true c2; clear c2; obtain rfl := Option.some.inj H; go_enter Tryd.func22, Tryd.ntmps22; go_wp2; go_ret; exact ⟨zq7, zq6⟩
 rw [if_neg c2] at H; have c2b0 := decide_eq_false c2; clear c2; have H' := aM H; clear H; go_enter Tryd.func22, Tryd.ntmps22; go_wp2
 go_loopg [0, 3] k (fun kq v0 v3 w' => ∃ (x0_1 : Int) (x3_1 : ByteArray), v0 = .int .i64 x0_1 ∧ v3 = .string x3_1 ∧ Aside0 (laws_markText.l0 kq x0_1 x3_1 = some r) ∧ Aside0 (kq ≤ k) ∧ Aside0 (Below w.heap.size w w'))
 case atStart => exact ⟨(a0), ((⟨#[]⟩ : ByteArray)), zq1, zq1, H', ⟨Nat.le_refl _⟩, ⟨zq6⟩⟩
 case round =>
  clear H'; (try clear c2); (try clear c2b0); (try clear p2); obtain ⟨x0_1, x3_1, rfl, rfl, HA, HK1, HB⟩ := hrel
  cases gk with
  | zero => exact absurd HA.out (by simp [laws_markText.l0])
  | succ k1 =>
   have H := HA.out; clear HA; simp only [laws_markText.l0] at H; by_cases c3 : x0_1 > 0
   ·
    rw [if_pos c3] at H; have c3b0 : decide (0 < x0_1) = true := decide_eq_true c3; clear c3; obtain ⟨y180, hy180⟩ : ∃ y_ : List Int, y_ = (([(wrap64 (48 + (Int.tmod x0_1 10))) % 256] : List Int)) := ⟨_, rfl⟩; have hy_ := hy180; replace H : (if (strOfNums y180).size + x3_1.size ≤ 9223372036854775807 then (laws_markText.l0 k1 (wrap64 (Int.tdiv x0_1 10)) ((strOfNums y180) ++ x3_1)) else (none)) = some r := hyE; clear hy_; have Ny180 := aM hy180; clear hy180; by_cases c4 : (strOfNums y180).size + x3_1.size ≤ 9223372036854775807
    ·
     rw [if_pos c4] at H; have c4b0 := eq_true c4; have c4b1 := decide_eq_true c4
     try have c4b2 : (9223372036854775807 < (strOfNums y180).size + x3_1.size) = False := eq_false (Nat.not_lt.2 c4)
     have H' := aM H; clear H
     go_wp2_with (first | ((with_reducible refine gD 12 rfl ?_); refine Kd.R_lit (Kd.int .u8) _ 5 ?hg (N := 12) ?hd (xs := ([(wrap64 (48 + (Int.tmod x0_1 10))) % 256] : List Int)) (inner := [.int .u8 ((wrap64 (48 + (Int.tmod x0_1 10))) % 256)]) (ok := fun _ => True) (okp := fun _ => True) ?hr ?hp (fun _ hk => hk) trivial (Below.refl _ _) (Nat.le_refl _) (by simp) ?_; (case hd => rfl); (case hg => rfl); (case hr => exact zq5); (case hp => exact (Reps.one (show Kd.M (Kd.int .u8) _ _ _ ((wrap64 (48 + (Int.tmod x0_1 10))) % 256) [.int .u8 ((wrap64 (48 + (Int.tmod x0_1 10))) % 256)] from rfl) (Reps.none _ _))); intro v181 w5 ho6 hb hg_ hnew_; clear hg_ hnew_; (first | rw [← Ny180.out] at ho6 | (simp only [Int.reduceToNat] at ho6; rw [← Ny180.out] at ho6)); have HO182 := aM (Kd.R_lower ho6 (below_size zq6)); replace HB := sB zq6 hb; clear hb ho6; have hcv7 := own_string (P := Tryd.prog) Tryd.underlying42 Tryd.underlying5 Tryd.underlying9 (Kd.own_of_R HO182.out)))
     go_roundg k1
     case measure => have := HK1.out; omega
     case rel => exact ⟨(wrap64 (Int.tdiv x0_1 10)), ((strOfNums y180) ++ x3_1), zq1, zq1, H', ⟨zq4⟩, ⟨zq6⟩⟩
    exact zq117
   rw [if_neg c3] at H; have c3b0 : decide (0 < x0_1) = false := decide_eq_false c3; clear c3; by_cases c8 : 1 + x3_1.size ≤ 9223372036854775807
   ·
    rw [if_pos c8] at H; have c8b0 := eq_true c8; have c8b1 := decide_eq_true c8
    try have c8b2 : (9223372036854775807 < 1 + x3_1.size) = False := eq_false (Nat.not_lt.2 c8)
    obtain rfl := Option.some.inj H; go_wp2; go_ret; exact ⟨zq7, zq6⟩
   rw [if_neg c8] at H; exact absurd H (by simp)

/-! ### laws_markStringS: function 14 -/
def laws_markStringS.l0 : Nat → List ByteArray → Int → Int → Option (Int × List ByteArray)
 | 0, _, _, _ => none
 | k + 1, x0, x1, x5 => if x5 < (x0.length : Int) then ((laws_markText.f k x1).bind fun t183 => (if 0 ≤ x5 then (laws_markStringS.l0 k (x0.set (x5 : Int).toNat t183) (wrap64 (x1 + 1)) (wrap64 (x5 + 1))) else (none))) else (some (x1, x0))
def laws_markStringS.f (k : Nat) (l0 : List ByteArray) (a1 : Int) : Option (Int × List ByteArray) := laws_markStringS.l0 k l0 a1 0
theorem laws_markStringS.mono_l : ∀ k, (∀ y0 y1 y2, LeO (laws_markStringS.l0 k y0 y1 y2) (laws_markStringS.l0 (k + 1) y0 y1 y2))
 | 0 => fun _ _ _ r h => by simp [laws_markStringS.l0] at h
 | k + 1 => by
  have ih0 := laws_markStringS.mono_l k
  ·
   intro y0 y1 y2; unfold laws_markStringS.l0
   repeat' first
   | (with_reducible apply ih0)
   | (with_reducible apply laws_markText.mono)
   | (with_reducible exact LeO.refl _)
   | (with_reducible exact LeO.none _)
   | (with_reducible refine LeO.ite ?_ ?_)
   | (with_reducible refine LeO.bind ?_ (fun _ => ?_))
   | exact LeO.none _
   | refine LeO.ite ?_ ?_
   | refine LeO.bind ?_ (fun _ => ?_)
theorem laws_markStringS.mono : ∀ a0 a1 k, LeO (laws_markStringS.f k a0 a1) (laws_markStringS.f (k + 1) a0 a1) := by
 intro a0 a1 k; have ih0 := laws_markStringS.mono_l k; unfold laws_markStringS.f
 repeat' first
   | (with_reducible apply ih0)
   | (with_reducible apply laws_markText.mono)
   | (with_reducible exact LeO.refl _)
   | (with_reducible exact LeO.none _)
   | (with_reducible refine LeO.ite ?_ ?_)
   | (with_reducible refine LeO.bind ?_ (fun _ => ?_))
   | exact LeO.none _
   | refine LeO.ite ?_ ?_
   | refine LeO.bind ?_ (fun _ => ?_)
set_option maxHeartbeats 8000000 in
set_option maxRecDepth 100000 in
theorem laws_markStringS.calls (k : Nat) (P0_ : Nat → Prop) (u9000_ : Value) (l0 : List ByteArray) (a1 : Int) (r1 : Int) (r2 : List ByteArray) (w0 w : World) (hB : Below w0.heap.size w0 w) (ho0 : Kd.R Kd.string 9 w w0.heap.size P0_ u9000_ l0) (h : laws_markStringS.f k l0 a1 = some (r1, r2)) :
  Calls Tryd.prog 14 #[u9000_, .int .i64 a1] w fun e w' => e = .returned (.int .i64 r1) ∧ Kd.R Kd.string 9 w' w0.heap.size (fun k_ => (P0_ k_ ∨ w.heap.size ≤ k_)) u9000_ r2 ∧ Below w0.heap.size w0 w' ∧ Kept w w' (fun k_ => P0_ k_) := by
 have HO0 := aM (show Kd.R Kd.string 9 w w0.heap.size (fun k_ => (P0_ k_ ∨ w.heap.size ≤ k_)) u9000_ l0 from Kd.R_mono ho0 (fun k_ hk => (.inl hk))); have HK := aM (Kept.refl w (fun k_ => P0_ k_)); have HW0 := aM hB.size; have HB := aM hB; clear hB; unfold laws_markStringS.f at h; have H := h; clear h; have H' := aM H; clear H; go_enter Tryd.func14, Tryd.ntmps14; go_wp2
 go_loopg [1, 5] k (fun kq v1 v5 w' => ∃ (x0_1 : List ByteArray) (x1_1 : Int) (x5_1 : Int), v1 = .int .i64 x1_1 ∧ v5 = .int .i64 x5_1 ∧ Aside0 (laws_markStringS.l0 kq x0_1 x1_1 x5_1 = some (r1, r2)) ∧ Aside0 (kq ≤ k) ∧ Aside0 (Kd.R Kd.string 9 w' w0.heap.size (fun k_ => (P0_ k_ ∨ w.heap.size ≤ k_)) u9000_ x0_1) ∧ Aside0 (Kept w w' (fun k_ => P0_ k_)) ∧ Aside0 (Below w0.heap.size w0 w'))
 case atStart => exact ⟨(l0), (a1), (0), zq1, zq1, H', ⟨Nat.le_refl _⟩, ⟨by refine dR ?_; exact HO0.out⟩, ⟨zq45⟩, ⟨zq6⟩⟩
 case round =>
  clear H'; (try clear c1); (try clear p2); obtain ⟨x0_1, x1_1, x5_1, rfl, rfl, HA, HK1, HO_0, HK, HB⟩ := hrel
  cases gk with
  | zero => exact absurd HA.out (by simp [laws_markStringS.l0])
  | succ k1 =>
   have H := HA.out; clear HA; simp only [laws_markStringS.l0] at H; by_cases c3 : x5_1 < (x0_1.length : Int)
   ·
    rw [if_pos c3] at H; have c3b0 := decide_eq_true c3; clear c3; replace H := Option.bind_eq_some_iff.mp H; obtain ⟨t183, A40, H⟩ := H; (try dsimp only at H); have A4 := aM A40; clear A40; by_cases c5 : 0 ≤ x5_1
    ·
     rw [if_pos c5] at H; have c5b0 := decide_eq_true c5; clear c5; obtain ⟨y184, hy184⟩ : ∃ y_ : List ByteArray, y_ = (x0_1.set (x5_1 : Int).toNat t183) := ⟨_, rfl⟩; have hy_ := hy184; replace H : (laws_markStringS.l0 k1 y184 (wrap64 (x1_1 + 1)) (wrap64 (x5_1 + 1))) = some (r1, r2) := hyE; clear hy_; have Ny184 := aM hy184; clear hy184; have H' := aM H; clear H; obtain ⟨Ao7, co7, eo7⟩ := Kd.R_slice HO_0.out; subst eo7
     go_wp2_with (first | ((with_reducible refine gC 22 rfl ?_); refine gL 15 Tryd.func22 #[.int .i64 x1_1] ?_; (with_reducible refine (laws_markText.calls k1 x1_1 t183 _ A4.out).mono ?_); rintro e w8 ⟨rfl, hb⟩; refine ⟨_, rfl, ?_⟩; replace HO_0 := rG HO_0 hb; replace HK := aM (Kept.below (S := (fun k_ => P0_ k_)) zq45 hb); replace HB := sB zq6 hb; clear hb; have p6 : 0 ≤ (x5_1 : Int) := of_decide_eq_true zq3; have q6 : (x5_1 : Int) < ((x0_1.length : Int) : Int) := of_decide_eq_true zq3; obtain ⟨go6, co6, eo6, gb6, gl6, cl6, HG6⟩ := Kd.R_form HO_0.out (by omega); (first | cases eo6 | (injection eo6 with ea_ en_ ec_; (first | subst ea_ | (injection ea_ with ea_; subst ea_)); subst ec_; clear en_)); have GB6 := aM gb6; have GG6 := aM HG6; clear gb6 gl6 HG6; have HMgo6 := aM (show (P0_ go6 ∨ w.heap.size ≤ go6) from (HO_0.out.1 _ rfl)); obtain ⟨hx6_0, hf6_0⟩ := Kd.R_celln (⟨#[]⟩ : ByteArray) HO_0.out (x5_1 : Int) p6 q6; replace p6 := eq_true p6; replace q6 := eq_true q6; obtain ⟨hy9_, hz9_⟩ := Kd.R_celln (⟨#[]⟩ : ByteArray) HO_0.out (x5_1 : Int) (of_decide_eq_true zq3) (of_decide_eq_true zq3); have HP9 := Kd.R_putg HO_0.out (x5_1 : Int) t183) | ((with_reducible refine gate_store (t := 9) (p := 16) rfl ?_); refine store_event (t := 9) (p := 16) (v := ?vo_w10) (w1 := (w8.setCell ⟨go6, (x5_1 : Int).toNat, none⟩ (.string t183))) ?hg ?ho ?hn ?hr ?_; (case ho => rfl); (case hg => rfl); (case hn => rfl); (case hr => exact zq5); intro w10 hw; have hg : w8.grownBy w10 (some go6) := (by rw [hw]; exact HP9.2); have hp_ : Kd.R Kd.string 9 w10 w0.heap.size (fun k_ => (P0_ k_ ∨ w.heap.size ≤ k_)) (.slice (some ⟨go6, 0, none⟩) x0_1.length co7) y184 := (by rw [hw, Ny184.out]; exact HP9.1); clear HP9; replace HB := aM (by rw [hw]; exact below_set (HB.out) GB6.out : Below w0.heap.size w0 w10); replace HK := aM (Kept.of_grown (S := (fun k_ => P0_ k_)) hg zq45 (fun k_ e_ => (HO_0.out.1 k_ e_))); replace HO_0 := aM hp_; clear hg hw hp_))
     go_roundg k1
     case measure => have := HK1.out; omega
     case rel => exact ⟨(y184), (wrap64 (x1_1 + 1)), (wrap64 (x5_1 + 1)), zq1, zq1, H', ⟨zq4⟩, ⟨zq46⟩, ⟨zq45⟩, ⟨zq6⟩⟩
    exact zq116
   rw [if_neg c3] at H; have c3b0 := decide_eq_false c3; clear c3; simp only [Option.some.injEq, Prod.mk.injEq] at H; obtain ⟨rfl, rfl⟩ := H; obtain ⟨Ao11, co11, eo11⟩ := Kd.R_slice HO_0.out; subst eo11; go_wp2; go_ret; exact ⟨zq7, zq46, zq6, zq45⟩

/-! ### laws_markManifest: function 13 -/
def laws_markManifest.f (k : Nat) (a0_0 : ByteArray) (l0_1 : List ByteArray) (a1 : Int) : Option (Int × List ByteArray) := (laws_markStringS.f k l0_1 a1).bind fun bt186 => (some (bt186.1, bt186.2))
theorem laws_markManifest.mono : ∀ a0 a1 a2 k, LeO (laws_markManifest.f k a0 a1 a2) (laws_markManifest.f (k + 1) a0 a1 a2) := by
 intro a0 a1 a2 k; unfold laws_markManifest.f
 repeat' first
   | (with_reducible apply laws_markStringS.mono)
   | (with_reducible exact LeO.refl _)
   | (with_reducible exact LeO.none _)
   | (with_reducible refine LeO.ite ?_ ?_)
   | (with_reducible refine LeO.bind ?_ (fun _ => ?_))
   | exact LeO.none _
   | refine LeO.ite ?_ ?_
   | refine LeO.bind ?_ (fun _ => ?_)
set_option maxHeartbeats 8000000 in
set_option maxRecDepth 100000 in
theorem laws_markManifest.calls (k : Nat) (a0_0 : ByteArray) (P0_1_ : Nat → Prop) (u9000_ : Value) (l0_1 : List ByteArray) (a1 : Int) (r1 : Int) (r2 : List ByteArray) (w0 w : World) (hB : Below w0.heap.size w0 w) (ho0_1 : Kd.R Kd.string 9 w w0.heap.size P0_1_ u9000_ l0_1) (h : laws_markManifest.f k a0_0 l0_1 a1 = some (r1, r2)) :
  Calls Tryd.prog 13 #[.agg #[.string a0_0, u9000_], .int .i64 a1] w fun e w' => e = .returned (.int .i64 r1) ∧ Kd.R Kd.string 9 w' w0.heap.size (fun k_ => (P0_1_ k_ ∨ w.heap.size ≤ k_)) u9000_ r2 ∧ Below w0.heap.size w0 w' ∧ Kept w w' (fun k_ => P0_1_ k_) := by
 have hu27 := Tryd.underlying27; have HO0_1 := aM (show Kd.R Kd.string 9 w w0.heap.size (fun k_ => (P0_1_ k_ ∨ w.heap.size ≤ k_)) u9000_ l0_1 from Kd.R_mono ho0_1 (fun k_ hk => (.inl hk))); have HK := aM (Kept.refl w (fun k_ => P0_1_ k_)); have HW0 := aM hB.size; have HB := aM hB; clear hB; unfold laws_markManifest.f at h; have H := h; clear h; replace H := Option.bind_eq_some_iff.mp H; obtain ⟨⟨t186, t187⟩, A30, H⟩ := H; replace H : (some (t186, t187)) = some (r1, r2) := H; have A3 := aM A30; clear A30; simp only [Option.some.injEq, Prod.mk.injEq] at H; obtain ⟨rfl, rfl⟩ := H; obtain ⟨Ao4, co4, eo4⟩ := Kd.R_slice HO0_1.out; subst eo4; go_enter Tryd.func13, Tryd.ntmps13
 go_wp2_with (first | ((with_reducible refine gD 2 rfl ?_); refine bE 2 #[.string a0_0, .slice Ao4 l0_1.length co4] 27 ?_; intro gb185 hg w5 hbox hb; replace HO0_1 := rG HO0_1 hb; have BK185 := aM hbox; have GW185 := aM (by rw [hg]; exact (by first | exact HK.out.1 | exact (show Kept w _ (fun k_ => P0_1_ k_) from by repeat (first | (with_reducible first | exact HK.out | apply Kept.alloc | apply Kept.drewN | apply Kept.drew) | exact HK.out)).1) : w.heap.size ≤ gb185); replace HK := aM (Kept.below (S := (fun k_ => P0_1_ k_)) zq45 hb); have GE185 := aM (zq107 : w0.heap.size ≤ gb185); replace HB := sB zq6 hb; clear hb hbox hg; obtain ⟨hcz6_0, hcz6_1, hfz6_0, hfz6_1⟩ := cells2_ (w := w5) BK185) | ((with_reducible refine gC 14 rfl ?_); refine gL 8 Tryd.func14 #[.slice Ao4 l0_1.length co4, .int .i64 a1] ?_; (with_reducible refine (laws_markStringS.calls k (fun k_ => some k_ = (.slice Ao4 l0_1.length co4 : Value).ownBlock) (.slice Ao4 l0_1.length co4) l0_1 a1 t186 t187 w0 _ ?_ ?_ A3.out).mono ?_); exact zq48; exact Kd.R_tight rfl HO0_1.out; rintro e w7 ⟨rfl, hy0, hb, hkp⟩; refine ⟨_, rfl, ?_⟩; replace BK185 := aM (blk_kept (by first | with_reducible exact BK185.out | exact blk_drewN BK185.out _ | exact blk_drewN (blk_drewN BK185.out _) _ | (refine dW ?_; exact BK185.out)) hkp (fun hs_ => (fun e_ => (Kd.R_ne HO0_1.out BK185.out (by decide)) e_) hs_)); replace HK := aM (Kept.then_ (S := (fun k_ => P0_1_ k_)) zq49 hkp (fun k_ hs_ => (fun e_ => (HO0_1.out.1 k_ e_.symm)) hs_)); replace HO0_1 := aM (Kd.R_reok rfl hy0 (fun k_ e_ => HO0_1.out.1 k_ e_)); replace HB := aM hb; clear hb; (try clear hkp); (try clear hy0)))
 go_ret; exact ⟨zq7, zq47, zq48, zq49⟩

end Go.Proofs.YtkpbdfpmoeobnaaDoor.QFnExactBlobsOf
