/- Written by wip/myprint.py of this repo (the kit's print, with additions of this session). -/
import Derived.Test.YtoeomljkhabifaaDoorQFnDiffx0
import Derived.Test.YtoeomljkhabifaaDoorQFnDiffx7
set_option maxRecDepth 100000
namespace Go.Proofs.YtoeomljkhabifaaDoor.QFnDiff
open Go.RowKit Go.Proofs.YtoeomljkhabifaaDoorW.PrintWords Go.Proofs.YtoeomljkhabifaaDoorW.PrintLast Go.Proofs.YtoeomljkhabifaaDoorW.PrintMore
attribute [local go_sem] max2_int min2_int max_two min_two max_three min_three max_four min_four   -- for this text's walks alone
set_option linter.unusedVariables false
set_option linter.unusedSimpArgs false

attribute [local go_sem high] binOp_leqS binOp_gtrS
/-! ### laws_big: function 15 -/
def laws_big.f (l0 : List Int) : Option (Bool) := some (decide ((l0.length : Int) > 1048576))
set_option maxHeartbeats 8000000 in
set_option maxRecDepth 100000 in
theorem laws_big.calls (A0 : Option Addr) (c0 : Nat) (l0 : List Int) (r : Bool) (w : World) (hr0 : Kd.C (Kd.int .u8) w A0 l0.length l0) (hc0 : l0.length ≤ c0) (h : laws_big.f l0 = some r) :
  Calls Tryd.prog 15 #[.slice A0 l0.length c0] w fun e w' => e = .returned (.bool r) ∧ Drawn0 w w' := by
 have HR0 := aM hr0; have HC0 := aM hc0; clear hr0 hc0; unfold laws_big.f at h; have H := h; clear h; obtain rfl := Option.some.inj H; go_enter Tryd.func15, Tryd.ntmps15; go_wp2; go_ret; exact ⟨zq1, zq2⟩

/-- A state of type 53 at block g of W; what its slices lead to came in by w0. -/
def IsS53 (w0 W : World) (g : Nat) (f0 : List Int) (f1 : Int) : Prop := ∃ A0 c0, W.heap[g]? = some (.cells #[.slice A0 f0.length c0, .int .i64 f1] 53 (0, 0)) ∧ w0.heap.size ≤ g ∧ Kd.C (Kd.int .u8) w0 A0 f0.length f0
theorem IsS53.grown {w0 W : World} {g : Nat} {f0 : List Int} {f1 : Int} {W1 : World} {row : Option Nat} (h : IsS53 w0 W g f0 f1) (hw : W.grownBy W1 row) (hne : some g ≠ row) : IsS53 w0 W1 g f0 f1 := by
 obtain ⟨A0, c0, hb, hg, hr0⟩ := h; exact ⟨A0, c0, blk_grown hb hw hne, hg, hr0⟩
theorem IsS53.own_neN {w0 W : World} {g : Nat} {f0 : List Int} {f1 : Int} {α : Type} {d : Kd α} {e : Nat} {base : Nat} {ok : Nat → Prop} {v : Value} {xs : List α} (h : IsS53 w0 W g f0 f1) (ho : Kd.N d e W base ok v xs) (ht : e ≠ 53) : some g ≠ v.ownBlock := by
 obtain ⟨A0, c0, hb, hg, hr0⟩ := h; exact Kd.N_ne ho hb ht
theorem IsS53.fresh {w0 W : World} {g : Nat} {f0 : List Int} {f1 : Int} (h : IsS53 w0 W g f0 f1) : ∀ k, W.heap.size ≤ k → k ≠ g := by
 obtain ⟨A0, c0, hb, hg, hr0⟩ := h; exact Kd.freshB hb
theorem IsS53.kept {w0 W : World} {g : Nat} {f0 : List Int} {f1 : Int} {W1 : World} {S : Nat → Prop} (h : IsS53 w0 W g f0 f1) (hk : Kept W W1 S) (hne : ¬ S g) : IsS53 w0 W1 g f0 f1 := by
 obtain ⟨A0, c0, hb, hg, hr0⟩ := h; exact ⟨A0, c0, blk_kept hb hk hne, hg, hr0⟩
theorem IsS53.below {w0 W : World} {g : Nat} {f0 : List Int} {f1 : Int} {W1 : World} (h : IsS53 w0 W g f0 f1) (hw : Below W.heap.size W W1) : IsS53 w0 W1 g f0 f1 := h.grown (grown_of_below hw none) (by simp)
theorem IsS53.alloc {w0 W : World} {g : Nat} {f0 : List Int} {f1 : Int} (h : IsS53 w0 W g f0 f1) (o : Obj) : IsS53 w0 (W.alloc o) g f0 f1 := h.below (below_alloc (Below.refl _ _) o)
theorem IsS53.drewN {w0 W : World} {g : Nat} {f0 : List Int} {f1 : Int} (h : IsS53 w0 W g f0 f1) (m : Nat) : IsS53 w0 (W.drewN m) g f0 f1 := h
theorem IsS53.drew {w0 W : World} {g : Nat} {f0 : List Int} {f1 : Int} (h : IsS53 w0 W g f0 f1) : IsS53 w0 W.drew g f0 f1 := h
theorem IsS53.at_ {w0 W : World} {g : Nat} {f0 : List Int} {f1 : Int} {w' : World} {m : Nat} (hq : W.drewN m = w') (h : IsS53 w0 W g f0 f1) : IsS53 w0 w' g f0 f1 := by subst hq; exact IsS53.drewN h m
theorem IsS53.apart {w0 W : World} {g : Nat} {f0 : List Int} {f1 : Int} {α : Type} {d : Kd α} {e : Nat} {base : Nat} {ok : Nat → Prop} {v : Value} {xs : List α} (h : IsS53 w0 W g f0 f1) (ho : d.R e W base ok v xs) (ht : ∀ q, q ∈ e :: d.E → q ≠ 53) : d.R e W base (fun k => ok k ∧ k ≠ g) v xs := by
 obtain ⟨A0, c0, hb, hg, hr0⟩ := h; exact Kd.R_types ho hb ht
theorem IsS53.own_ne {w0 W : World} {g : Nat} {f0 : List Int} {f1 : Int} {α : Type} {d : Kd α} {e : Nat} {base : Nat} {ok : Nat → Prop} {v : Value} {xs : List α} (h : IsS53 w0 W g f0 f1) (ho : d.R e W base ok v xs) (ht : e ≠ 53) : some g ≠ v.ownBlock := by
 obtain ⟨A0, c0, hb, hg, hr0⟩ := h; exact Kd.R_ne ho hb ht
theorem IsS53.apartQ {w0 W : World} {g : Nat} {f0 : List Int} {f1 : Int} {α : Type} {d : Kd α} {e : Nat} {base : Nat} {ok : Nat → Prop} {v : Value} {xs : List α} (h : IsS53 w0 W g f0 f1) (ho : d.Q e W base ok v xs) (ht : ∀ q, q ∈ e :: d.E → q ≠ 53) : d.Q e W base (fun k => ok k ∧ k ≠ g) v xs := by
 obtain ⟨A0, c0, hb, hg, hr0⟩ := h; exact Kd.Q_types ho hb ht
theorem IsS53.own_neQ {w0 W : World} {g : Nat} {f0 : List Int} {f1 : Int} {α : Type} {d : Kd α} {e : Nat} {base : Nat} {ok : Nat → Prop} {v : Value} {xs : List α} (h : IsS53 w0 W g f0 f1) (ho : d.Q e W base ok v xs) (ht : e ≠ 53) : some g ≠ v.ownBlock := by
 obtain ⟨A0, c0, hb, hg, hr0⟩ := h; exact Kd.Q_ne ho hb ht
theorem IsS53.apartS {w0 W : World} {g : Nat} {f0 : List Int} {f1 : Int} {α : Type} {d : Kd α} {e : Nat} {base : Nat} {ok : Nat → Prop} {v : Value} {xs : List α} (h : IsS53 w0 W g f0 f1) (ho : d.S e W base ok v xs) (ht : ∀ q, q ∈ e :: d.E → q ≠ 53) : d.S e W base (fun k => ok k ∧ k ≠ g) v xs := by
 obtain ⟨A0, c0, hb, hg, hr0⟩ := h; exact Kd.S_types ho hb ht
theorem IsS53.own_neS {w0 W : World} {g : Nat} {f0 : List Int} {f1 : Int} {α : Type} {d : Kd α} {e : Nat} {base : Nat} {ok : Nat → Prop} {v : Value} {xs : List α} (h : IsS53 w0 W g f0 f1) (ho : d.S e W base ok v xs) (ht : e ≠ 53) : some g ≠ v.ownBlock := by
 obtain ⟨A0, c0, hb, hg, hr0⟩ := h; exact Kd.S_ne ho hb ht
theorem IsS53.lt {w0 W : World} {g : Nat} {f0 : List Int} {f1 : Int} (h : IsS53 w0 W g f0 f1) : g < W.heap.size := by
 obtain ⟨A0, c0, hb, hg, hr0⟩ := h; exact blk_lt hb
theorem IsS53.ge {w0 W : World} {g : Nat} {f0 : List Int} {f1 : Int} (h : IsS53 w0 W g f0 f1) : w0.heap.size ≤ g := by
 obtain ⟨A0, c0, hb, hg, hr0⟩ := h; exact hg
theorem IsS53.ne_blk {w0 W : World} {g : Nat} {f0 : List Int} {f1 : Int} {a : Nat} {cs : Array Value} {t : TypeId} {fr : Nat × Nat} (h : IsS53 w0 W g f0 f1) (hb2 : W.heap[a]? = some (.cells cs t fr)) (ht : t ≠ 53) : g ≠ a := by
 obtain ⟨A0, c0, hb, hg, hr0⟩ := h; rintro rfl; rw [hb] at hb2
 injection hb2 with hb2
 injection hb2 with _ ht2
 exact ht ht2.symm
theorem IsS53.far {w0 W : World} {g : Nat} {f0 : List Int} {f1 : Int} {p : Addr} (h : IsS53 w0 W g f0 f1) (hne : g ≠ p.block) (u : Value) : IsS53 w0 (W.setCell p u) g f0 f1 := by
 obtain ⟨A0, c0, hb, hg, hr0⟩ := h; exact ⟨A0, c0, blk_far hb hne u, hg, hr0⟩
theorem cellS53_0 {W : World} {g : Nat} {A0 : Option Addr} {c0 : Nat} {f0 : List Int} {f1 : Int} (h : W.heap[g]? = some (.cells #[.slice A0 f0.length c0, .int .i64 f1] 53 (0, 0))) : W.cell? ⟨g, 0, none⟩ = some (.slice A0 f0.length c0) := (blk_cell h 0).trans rfl
theorem cellS53_1 {W : World} {g : Nat} {A0 : Option Addr} {c0 : Nat} {f0 : List Int} {f1 : Int} (h : W.heap[g]? = some (.cells #[.slice A0 f0.length c0, .int .i64 f1] 53 (0, 0))) : W.cell? ⟨g, 1, none⟩ = some (.int .i64 f1) := (blk_cell h 1).trans rfl
theorem IsS53.set_1 {w0 W : World} {g : Nat} {f0 : List Int} {f1 : Int} (h : IsS53 w0 W g f0 f1) (x : Int) : IsS53 w0 (W.setCell ⟨g, 1, none⟩ (.int .i64 x)) g f0 x := by
 obtain ⟨A0, c0, hb, hg, hr0⟩ := h; exact ⟨A0, c0, by simpa using blk_set hb 1 (.int .i64 x), hg, hr0⟩
theorem IsS53.new (w0 W : World) (A0 : Option Addr) (c0 : Nat) (f0 : List Int) (f1 : Int) (hB : Below w0.heap.size w0 W) (hr0 : Kd.C (Kd.int .u8) w0 A0 f0.length f0) : IsS53 w0 (W.alloc (.cells #[.slice A0 f0.length c0, .int .i64 f1] 53)) W.heap.size f0 f1 := ⟨A0, c0, by simpa using heap_alloc_new W _, hB.size, hr0⟩

/-! ### spec_l1Open: function 32 -/
def spec_l1Open.f (l0 : List Int) : Option (List Int × Int) := some (l0, 0)
set_option maxHeartbeats 8000000 in
set_option maxRecDepth 100000 in
theorem spec_l1Open.calls (A0 : Option Addr) (c0 : Nat) (l0 : List Int) (r1 : List Int) (r2 : Int) (w0 w : World) (hB : Below w0.heap.size w0 w) (hr0 : Kd.C (Kd.int .u8) w0 A0 l0.length l0) (hc0 : l0.length ≤ c0) (h : spec_l1Open.f l0 = some (r1, r2)) :
  Calls Tryd.prog 32 #[.slice A0 l0.length c0] w fun e w' => ∃ g_ : Nat, e = .returned (.pointer (some ⟨g_, 0, none⟩)) ∧ IsS53 w0 w' g_ r1 r2 ∧ Below w0.heap.size w0 w' ∧ Below w.heap.size w w' := by
 have hu53 := Tryd.underlying53; have HR0 := aM hr0; have HC0 := aM hc0; clear hr0 hc0; have HBW := aM (Below.refl w.heap.size w); have HW0 := aM hB.size; have HB := aM hB; clear hB; have H : (some (l0, 0)) = some (r1, r2) := h; clear h; simp only [Option.some.injEq, Prod.mk.injEq] at H; obtain ⟨rfl, rfl⟩ := H; go_enter Tryd.func32, Tryd.ntmps32
 go_wp2_with (first | ((with_reducible refine gD 5 rfl ?_); refine bE 5 #[.slice A0 l0.length c0, .int .i64 0] 53 ?_; intro gb329 hg w2 hbox hb; replace HB := sB zq4 hb; have BK329 := aM hbox; have GW329 := aM (by rw [hg]; exact (below_size zq116) : w.heap.size ≤ gb329); have GE329 := aM (Nat.le_trans HW0.out (by rw [hg]; exact (below_size zq116) : w.heap.size ≤ gb329) : w0.heap.size ≤ gb329); replace HBW := aM (below_step HBW.out hb); clear hb hbox hg))
 go_ret; exact ⟨_, rfl, (show IsS53 w0 _ gb329 l0 0 from ⟨_, _, by refine dW ?_; exact BK329.out, GE329.out, HR0.out⟩), by repeat (first | (with_reducible first | exact HB.out | apply below_alloc | apply pw_below_drewN | apply below_drew1 | refine below_set ?_ GE329.out) | exact HB.out), by repeat (first | (with_reducible first | exact HBW.out | apply below_alloc | apply pw_below_drewN | apply below_drew1 | refine below_set ?_ GW329.out) | exact HBW.out)⟩

/-! ### spec_l1Rd_next: function 52 -/
def spec_l1Rd_next.f (s0_0 : List Int) (s0_1 : Int) : Option (Int × Int) := if s0_1 ≥ (s0_0.length : Int) then (some (0, s0_1)) else (if 0 ≤ (wrap64 ((wrap64 (s0_1 + 1)) - 1)) then (if (wrap64 ((wrap64 (s0_1 + 1)) - 1)) < (s0_0.length : Int) then (some (wrap64 (rd s0_0 (wrap64 ((wrap64 (s0_1 + 1)) - 1))), wrap64 (s0_1 + 1))) else (none)) else (none))
set_option maxHeartbeats 8000000 in
set_option maxRecDepth 100000 in
theorem spec_l1Rd_next.calls (g : Nat) (s0_0 : List Int) (s0_1 : Int) (r1 : Int) (r2 : Int) (w0 w : World) (hI : IsS53 w0 w g s0_0 s0_1) (hB : Below w0.heap.size w0 w) (h : spec_l1Rd_next.f s0_0 s0_1 = some (r1, r2)) :
  Calls Tryd.prog 52 #[.pointer (some ⟨g, 0, none⟩)] w fun e w' => e = .returned (.int .i64 r1) ∧ IsS53 w0 w' g s0_0 r2 ∧ Below w0.heap.size w0 w' ∧ KeepBut w w' g none := by
 have HI0 := aM hI; have HK := aM (KeepBut.refl w g none); have HL := aM hB.size; clear hI; have HW0 := aM hB.size; have HB := aM hB; clear hB; unfold spec_l1Rd_next.f at h; have H := h; clear h; by_cases c2 : s0_1 ≥ (s0_0.length : Int)
 ·
  rw [if_pos c2] at H; have c2b0 : decide ((s0_0.length : Int) ≤ s0_1) = true := decide_eq_true c2; clear c2; simp only [Option.some.injEq, Prod.mk.injEq] at H; obtain ⟨rfl, rfl⟩ := H; obtain ⟨ASz3_0, cSz3_0, HGz3, hgz3, HSz3_0⟩ := HI0.out; have hcz3_0 := cellS53_0 HGz3; have hcz3_1 := cellS53_1 HGz3; have hfz3_1 := blk_frozen HGz3 1; clear HGz3 hgz3; go_enter Tryd.func52, Tryd.ntmps52; go_wp2
  repeat (go_quiet (fail); try go_wp2)
  go_ret; exact ⟨zq5, zq19, zq20, zq18⟩
 rw [if_neg c2] at H; have c2b0 : decide ((s0_0.length : Int) ≤ s0_1) = false := decide_eq_false c2; clear c2; obtain ⟨ji4, hji4⟩ : ∃ j_ : Int, (wrap64 ((wrap64 (s0_1 + 1)) - 1)) = j_ := ⟨_, rfl⟩; replace H : (if 0 ≤ (ji4) then (if (ji4) < (s0_0.length : Int) then (some (wrap64 (rd s0_0 (ji4)), wrap64 (s0_1 + 1))) else (none)) else (none)) = some (r1, r2) := by first | (rw [hji4] at H; exact H) | (simp only [hji4] at H ⊢; exact H)
 have hji4w : (IntKind.i64.wrap ((wrap64 (s0_1 + 1)) - 1)) = ji4 := (i64_w _).trans hji4; by_cases c5 : 0 ≤ (ji4)
 ·
  rw [if_pos c5] at H; have c5b0 := decide_eq_true c5; clear c5; by_cases c6 : (ji4) < (s0_0.length : Int)
  ·
   rw [if_pos c6] at H; have c6b0 := decide_eq_true c6; clear c6; simp only [Option.some.injEq, Prod.mk.injEq] at H; obtain ⟨rfl, rfl⟩ := H; obtain ⟨ASz7_0, cSz7_0, HGz7, hgz7, HSz7_0⟩ := HI0.out; have hcz7_0 := cellS53_0 HGz7; have hcz7_1 := cellS53_1 HGz7; have hfz7_1 := blk_frozen HGz7 1; clear HGz7 hgz7; have p330 : 0 ≤ ((ji4) : Int) := of_decide_eq_true zq6; have q330 : (ji4) < (s0_0.length : Int) := of_decide_eq_true zq6; obtain ⟨ad330, e330, hx330_0⟩ := Kd.at_int HSz7_0 (ji4) p330 q330; cases e330; have hn330_0 : ad330.block ≠ g := Nat.ne_of_lt (Nat.lt_of_lt_of_le (by have := World.block_lt_of_cell? _ _ hx330_0; first | rwa [add_block] at this | exact this) (IsS53.ge HI0.out)); replace hx330_0 := pw_cell_below HB.out hx330_0; replace hx330_0 := (cell_far (p := ⟨g, 1, none⟩) (by first | (rw [add_block]; exact hn330_0) | (show (Addr.add _ _).block ≠ _; rw [add_block]; exact hn330_0) | exact hn330_0) (.int .i64 (wrap64 (s0_1 + 1)))).trans hx330_0
   (try have hy330_0 := fun (n_ : Nat) => (show (((w.drewN n_).setCell ⟨g, 1, none⟩ (.int .i64 (wrap64 (s0_1 + 1))))).cell? _ = some _ from hx330_0))
   clear hn330_0; replace p330 := eq_true p330; replace q330 := eq_true q330; go_enter Tryd.func52, Tryd.ntmps52; go_wp2
   repeat (go_quiet (fail); try go_wp2)
   go_ret; exact ⟨by first | rfl | (simp [errW_none, errW_some] <;> rfl) | (simp only [← hji4]; first | rfl | (simp [errW_none, errW_some] <;> rfl)) | (simp [*, errW_none, errW_some] <;> rfl), zq19, zq20, zq18⟩
  exact zq132
 exact zq130

/-! ### spec_l1Rd_below: function 35 -/
def spec_l1Rd_below.f (s0_0 : List Int) (s0_1 : Int) (a1 : Int) : Option (Int × Int) := if a1 ≤ 1 then (some (0, s0_1)) else (if a1 ≤ 256 then ((spec_l1Rd_next.f s0_0 s0_1).bind fun bt331 => (if a1 = 0 then (none) else (some (Int.tmod bt331.1 a1, bt331.2)))) else ((spec_l1Rd_next.f s0_0 s0_1).bind fun bt333 => ((spec_l1Rd_next.f s0_0 bt333.2).bind fun bt335 => (if a1 = 0 then (none) else (some (Int.tmod (wrap64 ((wrap64 (bt333.1 * 256)) + bt335.1)) a1, bt335.2))))))
set_option maxHeartbeats 8000000 in
set_option maxRecDepth 100000 in
theorem spec_l1Rd_below.calls (g : Nat) (s0_0 : List Int) (s0_1 : Int) (a1 : Int) (r1 : Int) (r2 : Int) (w0 w : World) (hI : IsS53 w0 w g s0_0 s0_1) (hB : Below w0.heap.size w0 w) (h : spec_l1Rd_below.f s0_0 s0_1 a1 = some (r1, r2)) :
  Calls Tryd.prog 35 #[.pointer (some ⟨g, 0, none⟩), .int .i64 a1] w fun e w' => e = .returned (.int .i64 r1) ∧ IsS53 w0 w' g s0_0 r2 ∧ Below w0.heap.size w0 w' ∧ KeepBut w w' g none := by
 have HI0 := aM hI; have HK := aM (KeepBut.refl w g none); have HL := aM hB.size; clear hI; have HW0 := aM hB.size; have HB := aM hB; clear hB; unfold spec_l1Rd_below.f at h; have H := h; clear h; by_cases c3 : a1 ≤ 1
 ·
  rw [if_pos c3] at H; have c3b0 := decide_eq_true c3; clear c3; simp only [Option.some.injEq, Prod.mk.injEq] at H; obtain ⟨rfl, rfl⟩ := H; go_enter Tryd.func35, Tryd.ntmps35; go_wp2; go_ret; exact ⟨zq5, zq19, zq20, zq18⟩
 rw [if_neg c3] at H; have c3b0 := decide_eq_false c3; clear c3; by_cases c4 : a1 ≤ 256
 ·
  rw [if_pos c4] at H; have c4b0 := decide_eq_true c4; clear c4; replace H := Option.bind_eq_some_iff.mp H; obtain ⟨⟨t331, t332⟩, A50, H⟩ := H; (try dsimp only at H); have A5 := aM A50; clear A50; by_cases c6 : a1 = 0
  ·
   rw [if_pos c6] at H; exact absurd H (by simp)
  rw [if_neg c6] at H; have c6b0 : (a1 == 0) = false := beq_eq_false_iff_ne.mpr c6; have c6b1 : (a1 != 0) = true := bne_iff_ne.mpr c6; simp only [Option.some.injEq, Prod.mk.injEq] at H; obtain ⟨rfl, rfl⟩ := H; go_enter Tryd.func35, Tryd.ntmps35
  go_wp2_with (first | ((with_reducible refine gC 52 rfl ?_); refine gL 11 Tryd.func52 #[.pointer (some ⟨g, 0, none⟩)] ?_; (with_reducible refine (spec_l1Rd_next.calls g s0_0 s0_1 t331 t332 w0 _ ?_ ?_ A5.out).mono ?_); exact zq19; exact zq20; rintro e w7 ⟨rfl, hi, hb, hk⟩; refine ⟨_, rfl, ?_⟩; replace HK := aM (KeepBut.trans zq18 hk (.inl rfl)); replace HB := aM hb; replace HI0 := aM hi; clear hb; (try clear hk); (try clear hi)))
  go_ret; exact ⟨zq5, zq19, zq20, zq18⟩
 rw [if_neg c4] at H; have c4b0 := decide_eq_false c4; clear c4; replace H := Option.bind_eq_some_iff.mp H; obtain ⟨⟨t333, t334⟩, A80, H⟩ := H; (try dsimp only at H); have A8 := aM A80; clear A80; replace H := Option.bind_eq_some_iff.mp H; obtain ⟨⟨t335, t336⟩, A90, H⟩ := H; (try dsimp only at H); have A9 := aM A90; clear A90; by_cases c10 : a1 = 0
 ·
  rw [if_pos c10] at H; exact absurd H (by simp)
 rw [if_neg c10] at H; have c10b0 : (a1 == 0) = false := beq_eq_false_iff_ne.mpr c10; have c10b1 : (a1 != 0) = true := bne_iff_ne.mpr c10; simp only [Option.some.injEq, Prod.mk.injEq] at H; obtain ⟨rfl, rfl⟩ := H; go_enter Tryd.func35, Tryd.ntmps35
 go_wp2_with (first | ((with_reducible refine gC 52 rfl ?_); refine gL 15 Tryd.func52 #[.pointer (some ⟨g, 0, none⟩)] ?_; (with_reducible refine (spec_l1Rd_next.calls g s0_0 s0_1 t333 t334 w0 _ ?_ ?_ A8.out).mono ?_); exact zq19; exact zq20; rintro e w11 ⟨rfl, hi, hb, hk⟩; refine ⟨_, rfl, ?_⟩; replace HK := aM (KeepBut.trans zq18 hk (.inl rfl)); replace HB := aM hb; replace HI0 := aM hi; clear hb; (try clear hk); (try clear hi)) | ((with_reducible refine gC 52 rfl ?_); refine gL 19 Tryd.func52 #[.pointer (some ⟨g, 0, none⟩)] ?_; (with_reducible refine (spec_l1Rd_next.calls g s0_0 t334 t335 t336 w0 _ ?_ ?_ A9.out).mono ?_); exact zq19; exact zq20; rintro e w12 ⟨rfl, hi, hb, hk⟩; refine ⟨_, rfl, ?_⟩; replace HK := aM (KeepBut.trans zq18 hk (.inl rfl)); replace HB := aM hb; replace HI0 := aM hi; clear hb; (try clear hk); (try clear hi)))
 go_ret; exact ⟨zq5, zq19, zq20, zq18⟩

/-! ### spec_l1Rd_once: function 34 -/
def spec_l1Rd_once.f (s0_0 : List Int) (s0_1 : Int) (a1 : Int) : Option (Bool × Int) := (spec_l1Rd_below.f s0_0 s0_1 a1).bind fun bt337 => (some ((bt337.1 == (wrap64 (a1 - 1))), bt337.2))
set_option maxHeartbeats 8000000 in
set_option maxRecDepth 100000 in
theorem spec_l1Rd_once.calls (g : Nat) (s0_0 : List Int) (s0_1 : Int) (a1 : Int) (r1 : Bool) (r2 : Int) (w0 w : World) (hI : IsS53 w0 w g s0_0 s0_1) (hB : Below w0.heap.size w0 w) (h : spec_l1Rd_once.f s0_0 s0_1 a1 = some (r1, r2)) :
  Calls Tryd.prog 34 #[.pointer (some ⟨g, 0, none⟩), .int .i64 a1] w fun e w' => e = .returned (.bool r1) ∧ IsS53 w0 w' g s0_0 r2 ∧ Below w0.heap.size w0 w' ∧ KeepBut w w' g none := by
 have HI0 := aM hI; have HK := aM (KeepBut.refl w g none); have HL := aM hB.size; clear hI; have HW0 := aM hB.size; have HB := aM hB; clear hB; unfold spec_l1Rd_once.f at h; have H := h; clear h; replace H := Option.bind_eq_some_iff.mp H; obtain ⟨⟨t337, t338⟩, A30, H⟩ := H; (try dsimp only at H); have A3 := aM A30; clear A30; simp only [Option.some.injEq, Prod.mk.injEq] at H; obtain ⟨rfl, rfl⟩ := H; go_enter Tryd.func34, Tryd.ntmps34
 go_wp2_with (first | ((with_reducible refine gC 35 rfl ?_); refine gL 7 Tryd.func35 #[.pointer (some ⟨g, 0, none⟩), .int .i64 a1] ?_; (with_reducible refine (spec_l1Rd_below.calls g s0_0 s0_1 a1 t337 t338 w0 _ ?_ ?_ A3.out).mono ?_); exact zq19; exact zq20; rintro e w4 ⟨rfl, hi, hb, hk⟩; refine ⟨_, rfl, ?_⟩; replace HK := aM (KeepBut.trans zq18 hk (.inl rfl)); replace HB := aM hb; replace HI0 := aM hi; clear hb; (try clear hk); (try clear hi)))
 go_ret; exact ⟨zq5, zq19, zq20, zq18⟩

/-! ### spec_l1Rising: function 71 -/
mutual
def spec_l1Rising.l0 : Nat → List ByteArray → List ByteArray → Int → Option (List ByteArray)
 | 0, _, _, _ => none
 | k + 1, x0, x3, x4 => if x4 < (x0.length : Int) then (if 0 ≤ x4 then ((spec_l1Has.f k x3 (rdOf ByteArray.empty x0 x4)).bind fun t343 => (if t343 = true then (spec_l1Rising.l0 k x0 x3 (wrap64 (x4 + 1))) else (if x3.length < 8796093022208 then (spec_l1Rising.l1 k x0 (x3 ++ [rdOf ByteArray.empty x0 x4]) x4 (x3.length : Int)) else (none)))) else (none)) else (some x3)
def spec_l1Rising.l1 : Nat → List ByteArray → List ByteArray → Int → Int → Option (List ByteArray)
 | 0, _, _, _, _ => none
 | k + 1, x0, x3, x4, x5 => if x5 > 0 then (if 0 ≤ (wrap64 (x5 - 1)) then (if (wrap64 (x5 - 1)) < (x3.length : Int) then (if 0 ≤ x4 then (if x4 < (x0.length : Int) then (if (Op.bytesLess ((rdOf ByteArray.empty x0 x4).toList) ((rdOf ByteArray.empty x3 (wrap64 (x5 - 1))).toList)) = true then (if 0 ≤ x5 then (if x5 < (x3.length : Int) then (spec_l1Rising.l1 k x0 (x3.set (x5 : Int).toNat (rdOf ByteArray.empty x3 (wrap64 (x5 - 1)))) x4 (wrap64 (x5 - 1))) else (none)) else (none)) else (if 0 ≤ x5 then (if x5 < (x3.length : Int) then (spec_l1Rising.l0 k x0 (x3.set (x5 : Int).toNat (rdOf ByteArray.empty x0 x4)) (wrap64 (x4 + 1))) else (none)) else (none))) else (none)) else (none)) else (none)) else (none)) else (if 0 ≤ x4 then (if x4 < (x0.length : Int) then (if 0 ≤ x5 then (if x5 < (x3.length : Int) then (spec_l1Rising.l0 k x0 (x3.set (x5 : Int).toNat (rdOf ByteArray.empty x0 x4)) (wrap64 (x4 + 1))) else (none)) else (none)) else (none)) else (none))
end
def spec_l1Rising.f (k : Nat) (l0 : List ByteArray) : Option (List ByteArray) := spec_l1Rising.l0 k l0 (([] : List ByteArray)) 0
theorem spec_l1Rising.mono_l : ∀ k, (∀ y0 y1 y2, LeO (spec_l1Rising.l0 k y0 y1 y2) (spec_l1Rising.l0 (k + 1) y0 y1 y2)) ∧ (∀ y0 y1 y2 y3, LeO (spec_l1Rising.l1 k y0 y1 y2 y3) (spec_l1Rising.l1 (k + 1) y0 y1 y2 y3))
 | 0 => ⟨fun _ _ _ r h => by simp [spec_l1Rising.l0] at h, fun _ _ _ _ r h => by simp [spec_l1Rising.l1] at h⟩
 | k + 1 => by
  obtain ⟨ih0, ih1⟩ := spec_l1Rising.mono_l k; refine ⟨?_, ?_⟩
  ·
   intro y0 y1 y2; unfold spec_l1Rising.l0
   repeat' first
   | (with_reducible apply ih0)
   | (with_reducible apply ih1)
   | (with_reducible apply spec_l1Has.mono)
   | (with_reducible exact LeO.refl _)
   | (with_reducible exact LeO.none _)
   | (with_reducible refine LeO.ite ?_ ?_)
   | (with_reducible refine LeO.bind ?_ (fun _ => ?_))
   | exact LeO.none _
   | refine LeO.ite ?_ ?_
   | refine LeO.bind ?_ (fun _ => ?_)
  intro y0 y1 y2 y3; unfold spec_l1Rising.l1
  repeat' first
  | (with_reducible apply ih0)
  | (with_reducible apply ih1)
  | (with_reducible apply spec_l1Has.mono)
  | (with_reducible exact LeO.refl _)
  | (with_reducible exact LeO.none _)
  | (with_reducible refine LeO.ite ?_ ?_)
  | (with_reducible refine LeO.bind ?_ (fun _ => ?_))
  | exact LeO.none _
  | refine LeO.ite ?_ ?_
  | refine LeO.bind ?_ (fun _ => ?_)
theorem spec_l1Rising.mono : ∀ a0 k, LeO (spec_l1Rising.f k a0) (spec_l1Rising.f (k + 1) a0) := by
 intro a0 k; obtain ⟨ih0, ih1⟩ := spec_l1Rising.mono_l k; unfold spec_l1Rising.f
 repeat' first
   | (with_reducible apply ih0)
   | (with_reducible apply ih1)
   | (with_reducible apply spec_l1Has.mono)
   | (with_reducible exact LeO.refl _)
   | (with_reducible exact LeO.none _)
   | (with_reducible refine LeO.ite ?_ ?_)
   | (with_reducible refine LeO.bind ?_ (fun _ => ?_))
   | exact LeO.none _
   | refine LeO.ite ?_ ?_
   | refine LeO.bind ?_ (fun _ => ?_)
set_option maxHeartbeats 8000000 in
set_option maxRecDepth 100000 in
theorem spec_l1Rising.calls (k : Nat) (A0 : Option Addr) (c0 : Nat) (l0 : List ByteArray) (r : List ByteArray) (w : World) (hr0 : Kd.C Kd.string w A0 l0.length l0) (hc0 : l0.length ≤ c0) (h : spec_l1Rising.f k l0 = some r) :
  Calls Tryd.prog 71 #[.slice A0 l0.length c0] w fun e w' => ∃ v0_ : Value, e = .returned (v0_) ∧ Kd.R Kd.string 9 w' w.heap.size (fun _ => True) v0_ r ∧ Below w.heap.size w w' := by
 have HR0 := aM hr0; have HC0 := aM hc0; clear hr0 hc0; have HB := aM (Below.refl w.heap.size w); unfold spec_l1Rising.f at h; have H := h; clear h; obtain ⟨y339, hy339⟩ : ∃ y_ : List ByteArray, y_ = (([] : List ByteArray)) := ⟨_, rfl⟩; have hy_ := hy339; replace H : (spec_l1Rising.l0 k l0 y339 0) = some r := hyE; clear hy_; have Ny339 := aM hy339; clear hy339; have H' := aM H; clear H; go_enter Tryd.func71, Tryd.ntmps71
 go_wp2_with (first | ((with_reducible refine gD 6 rfl ?_); refine Kd.R_lit Kd.string _ 9 ?hg (N := 6) ?hd (xs := ([] : List ByteArray)) (inner := []) (ok := fun _ => True) (okp := fun _ => True) ?hr ?hp (fun _ hk => hk) trivial (Below.refl _ _) (Nat.le_refl _) (by simp) ?_; (case hd => rfl); (case hg => rfl); (case hr => exact zq8); (case hp => exact zq9); intro v340 w2 ho3 hb hg_ hnew_; clear hg_ hnew_; (first | rw [← Ny339.out] at ho3 | (simp only [Int.reduceToNat] at ho3; rw [← Ny339.out] at ho3)); have HO341 := aM (Kd.R_lower ho3 (below_size zq4)); replace HB := sB zq4 hb; clear hb ho3))
 repeat (go_quiet (first | ((with_reducible refine gD 6 rfl ?_); refine Kd.R_lit Kd.string _ 9 ?hg (N := 6) ?hd (xs := ([] : List ByteArray)) (inner := []) (ok := fun _ => True) (okp := fun _ => True) ?hr ?hp (fun _ hk => hk) trivial (Below.refl _ _) (Nat.le_refl _) (by simp) ?_; (case hd => rfl); (case hg => rfl); (case hr => exact zq8); (case hp => exact zq9); intro v340 w2 ho3 hb hg_ hnew_; clear hg_ hnew_; (first | rw [← Ny339.out] at ho3 | (simp only [Int.reduceToNat] at ho3; rw [← Ny339.out] at ho3)); have HO341 := aM (Kd.R_lower ho3 (below_size zq4)); replace HB := sB zq4 hb; clear hb ho3)); try go_wp2_with (first | ((with_reducible refine gD 6 rfl ?_); refine Kd.R_lit Kd.string _ 9 ?hg (N := 6) ?hd (xs := ([] : List ByteArray)) (inner := []) (ok := fun _ => True) (okp := fun _ => True) ?hr ?hp (fun _ hk => hk) trivial (Below.refl _ _) (Nat.le_refl _) (by simp) ?_; (case hd => rfl); (case hg => rfl); (case hr => exact zq8); (case hp => exact zq9); intro v340 w2 ho3 hb hg_ hnew_; clear hg_ hnew_; (first | rw [← Ny339.out] at ho3 | (simp only [Int.reduceToNat] at ho3; rw [← Ny339.out] at ho3)); have HO341 := aM (Kd.R_lower ho3 (below_size zq4)); replace HB := sB zq4 hb; clear hb ho3)))
 go_loopg [3, 4] k (fun kq v3 v4 w' => ∃ (x3_1 : List ByteArray) (x4_1 : Int), v4 = .int .i64 x4_1 ∧ Aside0 (spec_l1Rising.l0 kq l0 x3_1 x4_1 = some r) ∧ Aside0 (kq ≤ k) ∧ Aside0 (Kd.R Kd.string 9 w' w.heap.size (fun _ => True) v3 x3_1) ∧ Aside0 (Below w.heap.size w w'))
 case atStart => exact ⟨(y339), (0), zq1, H', ⟨Nat.le_refl _⟩, ⟨by refine dR ?_; exact HO341.out⟩, ⟨zq4⟩⟩
 case round =>
  clear H'; (try clear p2); obtain ⟨x3_1, x4_1, rfl, HA, HK1, HO_3, HB⟩ := hrel
  cases gk with
  | zero => exact absurd HA.out (by simp [spec_l1Rising.l0])
  | succ k1 =>
   have H := HA.out; clear HA; simp only [spec_l1Rising.l0] at H; by_cases c4 : x4_1 < (l0.length : Int)
   ·
    rw [if_pos c4] at H; have c4b0 := decide_eq_true c4; clear c4; by_cases c5 : 0 ≤ x4_1
    ·
     rw [if_pos c5] at H; have c5b0 := decide_eq_true c5; clear c5; replace H := Option.bind_eq_some_iff.mp H; obtain ⟨t343, A60, H⟩ := H; (try dsimp only at H); have A6 := aM A60; clear A60; by_cases c7 : t343 = true
     ·
      subst c7; rw [if_pos rfl] at H; have H' := aM H; clear H; have p342 : 0 ≤ (x4_1 : Int) := of_decide_eq_true zq6; have q342 : x4_1 < (l0.length : Int) := of_decide_eq_true zq6; obtain ⟨ad342, e342, hx342_0⟩ := Kd.at_string HR0.out x4_1 p342 q342; cases e342; replace hx342_0 := hxB HB hx342_0; replace p342 := eq_true p342; replace q342 := eq_true q342; obtain ⟨Ao8, co8, eo8⟩ := Kd.R_slice HO_3.out; subst eo8
      go_wp2_with (first | (go_at_call 45; (with_reducible refine (spec_l1Has.calls k1 _ _ x3_1 (rdOf ByteArray.empty l0 x4_1) true _ ?side1 ?side2 A6.out).mono ?_); (case side1 => exact zq27); (case side2 => exact zq28); rintro e w' ⟨rfl, ⟨nd, rfl⟩⟩; (try first | exact ⟨rfl, _, World.drewN_drewN _ _ _⟩ | exact ⟨rfl, _, Eq.trans (World.drewN_drewN _ _ _) (congrArg (World.drewN _) (Nat.add_assoc _ _ _))⟩)))
      repeat (go_quiet (first | (go_at_call 45; (with_reducible refine (spec_l1Has.calls k1 _ _ x3_1 (rdOf ByteArray.empty l0 x4_1) true _ ?side1 ?side2 A6.out).mono ?_); (case side1 => exact zq27); (case side2 => exact zq28); rintro e w' ⟨rfl, ⟨nd, rfl⟩⟩; (try first | exact ⟨rfl, _, World.drewN_drewN _ _ _⟩ | exact ⟨rfl, _, Eq.trans (World.drewN_drewN _ _ _) (congrArg (World.drewN _) (Nat.add_assoc _ _ _))⟩))); try go_wp2_with (first | (go_at_call 45; (with_reducible refine (spec_l1Has.calls k1 _ _ x3_1 (rdOf ByteArray.empty l0 x4_1) true _ ?side1 ?side2 A6.out).mono ?_); (case side1 => exact zq27); (case side2 => exact zq28); rintro e w' ⟨rfl, ⟨nd, rfl⟩⟩; (try first | exact ⟨rfl, _, World.drewN_drewN _ _ _⟩ | exact ⟨rfl, _, Eq.trans (World.drewN_drewN _ _ _) (congrArg (World.drewN _) (Nat.add_assoc _ _ _))⟩))))
      go_roundg k1
      case measure => have := HK1.out; omega
      case rel => exact ⟨(x3_1), (wrap64 (x4_1 + 1)), zq1, H', ⟨zq7⟩, ⟨zq23⟩, ⟨zq4⟩⟩
     replace c7 := Bool.eq_false_iff.mpr c7; subst c7; rw [if_neg (show ¬ (false = true) by decide)] at H; by_cases c9 : x3_1.length < 8796093022208
     ·
      rw [if_pos c9] at H; have LMc9 := aM c9; clear c9; obtain ⟨y345, hy345⟩ : ∃ y_ : List ByteArray, y_ = (x3_1 ++ [rdOf ByteArray.empty l0 x4_1]) := ⟨_, rfl⟩; have hy_ := hy345; replace H : (spec_l1Rising.l1 k1 l0 y345 x4_1 (x3_1.length : Int)) = some r := hyE; clear hy_; have Ny345 := aM hy345; clear hy345; have H' := aM H; clear H; have p342 : 0 ≤ (x4_1 : Int) := of_decide_eq_true zq6; have q342 : x4_1 < (l0.length : Int) := of_decide_eq_true zq6; obtain ⟨ad342, e342, hx342_0⟩ := Kd.at_string HR0.out x4_1 p342 q342; cases e342; replace hx342_0 := hxB HB hx342_0; replace p342 := eq_true p342; replace q342 := eq_true q342; obtain ⟨Ao10, co10, eo10⟩ := Kd.R_slice HO_3.out; subst eo10
      go_wp2_with (first | (go_at_call 45; (with_reducible refine (spec_l1Has.calls k1 _ _ x3_1 (rdOf ByteArray.empty l0 x4_1) false _ ?_ ?_ A6.out).mono ?_); exact zq27; exact zq28; rintro e w' ⟨rfl, ⟨nd, rfl⟩⟩; (try first | exact ⟨rfl, _, World.drewN_drewN _ _ _⟩ | exact ⟨rfl, _, Eq.trans (World.drewN_drewN _ _ _) (congrArg (World.drewN _) (Nat.add_assoc _ _ _))⟩); have p344 : 0 ≤ (x4_1 : Int) := of_decide_eq_true zq6; have q344 : x4_1 < (l0.length : Int) := of_decide_eq_true zq6; obtain ⟨ad344, e344, hx344_0⟩ := Kd.at_string HR0.out x4_1 p344 q344; obtain rfl : ad342 = ad344 := (by injection e344); replace hx344_0 := hxB HB hx344_0; replace p344 := eq_true p344; replace q344 := eq_true q344) | ((with_reducible refine gate_builtin (b := .append) (xs := #[.tmp 21, .tmp 26]) rfl ?_); at_builtin; refine Kd.R_append Kd.string (w0 := w) w.heap.size rfl (.tmp 21) (.tmp 26) 22 9 (.string ⟨#[]⟩) 16 rfl Tryd.underlying22 info9 rfl (by decide) (by omega) (.slice Ao10 x3_1.length co10) x3_1 (rdOf ByteArray.empty l0 x4_1) [.string (rdOf ByteArray.empty l0 x4_1)] (fun _ => True) (fun _ => False) rfl rfl ?aP (fun _ hk => hk.elim) ?aF ?aO ?aB ?aS ?aL ?_; (case aP => exact rfl); (case aB => exact zq4); (case aF => exact zq10); (case aO => exact zq23); (case aS => exact zq123); (case aL => exact zq86); intro v346 w11 ho hb hg hat; rw [← Ny345.out] at ho; have n0_ := aM (hb); have n1_ := aM (ho); clear HB; clear HO_3; have HB := n0_; have HO347 := n1_; clear n0_ n1_; clear ho hb hg hat))
      repeat (go_quiet (first | (go_at_call 45; (with_reducible refine (spec_l1Has.calls k1 _ _ x3_1 (rdOf ByteArray.empty l0 x4_1) false _ ?_ ?_ A6.out).mono ?_); exact zq27; exact zq28; rintro e w' ⟨rfl, ⟨nd, rfl⟩⟩; (try first | exact ⟨rfl, _, World.drewN_drewN _ _ _⟩ | exact ⟨rfl, _, Eq.trans (World.drewN_drewN _ _ _) (congrArg (World.drewN _) (Nat.add_assoc _ _ _))⟩); have p344 : 0 ≤ (x4_1 : Int) := of_decide_eq_true zq6; have q344 : x4_1 < (l0.length : Int) := of_decide_eq_true zq6; obtain ⟨ad344, e344, hx344_0⟩ := Kd.at_string HR0.out x4_1 p344 q344; obtain rfl : ad342 = ad344 := (by injection e344); replace hx344_0 := hxB HB hx344_0; replace p344 := eq_true p344; replace q344 := eq_true q344) | ((with_reducible refine gate_builtin (b := .append) (xs := #[.tmp 21, .tmp 26]) rfl ?_); at_builtin; refine Kd.R_append Kd.string (w0 := w) w.heap.size rfl (.tmp 21) (.tmp 26) 22 9 (.string ⟨#[]⟩) 16 rfl Tryd.underlying22 info9 rfl (by decide) (by omega) (.slice Ao10 x3_1.length co10) x3_1 (rdOf ByteArray.empty l0 x4_1) [.string (rdOf ByteArray.empty l0 x4_1)] (fun _ => True) (fun _ => False) rfl rfl ?aP (fun _ hk => hk.elim) ?aF ?aO ?aB ?aS ?aL ?_; (case aP => exact rfl); (case aB => exact zq4); (case aF => exact zq10); (case aO => exact zq23); (case aS => exact zq123); (case aL => exact zq86); intro v346 w11 ho hb hg hat; rw [← Ny345.out] at ho; have n0_ := aM (hb); have n1_ := aM (ho); clear HB; clear HO_3; have HB := n0_; have HO347 := n1_; clear n0_ n1_; clear ho hb hg hat)); try go_wp2_with (first | (go_at_call 45; (with_reducible refine (spec_l1Has.calls k1 _ _ x3_1 (rdOf ByteArray.empty l0 x4_1) false _ ?_ ?_ A6.out).mono ?_); exact zq27; exact zq28; rintro e w' ⟨rfl, ⟨nd, rfl⟩⟩; (try first | exact ⟨rfl, _, World.drewN_drewN _ _ _⟩ | exact ⟨rfl, _, Eq.trans (World.drewN_drewN _ _ _) (congrArg (World.drewN _) (Nat.add_assoc _ _ _))⟩); have p344 : 0 ≤ (x4_1 : Int) := of_decide_eq_true zq6; have q344 : x4_1 < (l0.length : Int) := of_decide_eq_true zq6; obtain ⟨ad344, e344, hx344_0⟩ := Kd.at_string HR0.out x4_1 p344 q344; obtain rfl : ad342 = ad344 := (by injection e344); replace hx344_0 := hxB HB hx344_0; replace p344 := eq_true p344; replace q344 := eq_true q344) | ((with_reducible refine gate_builtin (b := .append) (xs := #[.tmp 21, .tmp 26]) rfl ?_); at_builtin; refine Kd.R_append Kd.string (w0 := w) w.heap.size rfl (.tmp 21) (.tmp 26) 22 9 (.string ⟨#[]⟩) 16 rfl Tryd.underlying22 info9 rfl (by decide) (by omega) (.slice Ao10 x3_1.length co10) x3_1 (rdOf ByteArray.empty l0 x4_1) [.string (rdOf ByteArray.empty l0 x4_1)] (fun _ => True) (fun _ => False) rfl rfl ?aP (fun _ hk => hk.elim) ?aF ?aO ?aB ?aS ?aL ?_; (case aP => exact rfl); (case aB => exact zq4); (case aF => exact zq10); (case aO => exact zq23); (case aS => exact zq123); (case aL => exact zq86); intro v346 w11 ho hb hg hat; rw [← Ny345.out] at ho; have n0_ := aM (hb); have n1_ := aM (ho); clear HB; clear HO_3; have HB := n0_; have HO347 := n1_; clear n0_ n1_; clear ho hb hg hat)))
      go_loopg [5] k1 (fun kq v5 w' => ∃ (x3_2 : List ByteArray) (x5_2 : Int), v5 = .int .i64 x5_2 ∧ Aside0 (spec_l1Rising.l1 kq l0 x3_2 x4_1 x5_2 = some r) ∧ Aside0 (kq ≤ k1) ∧ Aside0 (Kd.R Kd.string 9 w' w.heap.size (fun _ => True) v346 x3_2) ∧ Aside0 (Below w.heap.size w w'))
      case atStart => exact ⟨(y345), ((x3_1.length : Int)), zq1, H', ⟨Nat.le_refl _⟩, ⟨by refine dR ?_; exact HO347.out⟩, ⟨zq4⟩⟩
      case round =>
       clear H'; (try clear p2); (try clear p3); (try clear q3); (try clear hx3); (try clear c4); (try clear c4b0); (try clear c5); (try clear c5b0); (try clear p6); (try clear c7); (try clear c9); (try clear hx342_0); (try clear hx344_0); (try clear p2); (try clear p342); (try clear p344); (try clear q342); (try clear q344); obtain ⟨x3_2, x5_2, rfl, HA, HK2, HO_3, HB⟩ := hrel
       cases gk with
       | zero => exact absurd HA.out (by simp [spec_l1Rising.l1])
       | succ k2 =>
        have H := HA.out; clear HA; simp only [spec_l1Rising.l1] at H; by_cases c12 : x5_2 > 0
        ·
         rw [if_pos c12] at H; have c12b0 : decide (0 < x5_2) = true := decide_eq_true c12; clear c12; obtain ⟨ji13, hji13⟩ : ∃ j_ : Int, (wrap64 (x5_2 - 1)) = j_ := ⟨_, rfl⟩; replace H : (if 0 ≤ (ji13) then (if (ji13) < (x3_2.length : Int) then (if 0 ≤ x4_1 then (if x4_1 < (l0.length : Int) then (if (Op.bytesLess ((rdOf ByteArray.empty l0 x4_1).toList) ((rdOf ByteArray.empty x3_2 (ji13)).toList)) = true then (if 0 ≤ x5_2 then (if x5_2 < (x3_2.length : Int) then (spec_l1Rising.l1 k2 l0 (x3_2.set (x5_2 : Int).toNat (rdOf ByteArray.empty x3_2 (ji13))) x4_1 ji13) else (none)) else (none)) else (if 0 ≤ x5_2 then (if x5_2 < (x3_2.length : Int) then (spec_l1Rising.l0 k2 l0 (x3_2.set (x5_2 : Int).toNat (rdOf ByteArray.empty l0 x4_1)) (wrap64 (x4_1 + 1))) else (none)) else (none))) else (none)) else (none)) else (none)) else (none)) = some r := by first | (rw [hji13] at H; exact H) | (simp only [hji13] at H ⊢; exact H)
         have hji13w : (IntKind.i64.wrap (x5_2 - 1)) = ji13 := (i64_w _).trans hji13; by_cases c14 : 0 ≤ (ji13)
         ·
          rw [if_pos c14] at H; have c14b0 := decide_eq_true c14; clear c14; by_cases c15 : (ji13) < (x3_2.length : Int)
          ·
           rw [if_pos c15] at H; have c15b0 := decide_eq_true c15; clear c15; by_cases c16 : 0 ≤ x4_1
           ·
            rw [if_pos c16] at H; have c16b0 := decide_eq_true c16; clear c16; by_cases c17 : x4_1 < (l0.length : Int)
            ·
             rw [if_pos c17] at H; have c17b0 := decide_eq_true c17; clear c17; by_cases c18 : (Op.bytesLess ((rdOf ByteArray.empty l0 x4_1).toList) ((rdOf ByteArray.empty x3_2 (ji13)).toList)) = true
             ·
              rw [if_pos c18] at H; have c18b0 : (Op.bytesLess ((rdOf ByteArray.empty l0 x4_1).toList) ((rdOf ByteArray.empty x3_2 (ji13)).toList)) = true := c18; clear c18; by_cases c19 : 0 ≤ x5_2
              ·
               rw [if_pos c19] at H; have c19b0 := decide_eq_true c19; clear c19; by_cases c20 : x5_2 < (x3_2.length : Int)
               ·
                rw [if_pos c20] at H; have c20b0 := decide_eq_true c20; clear c20; obtain ⟨y351, hy351⟩ : ∃ y_ : List ByteArray, y_ = (x3_2.set (x5_2 : Int).toNat (rdOf ByteArray.empty x3_2 (ji13))) := ⟨_, rfl⟩; have hy_ := hy351; replace H : (spec_l1Rising.l1 k2 l0 y351 x4_1 ji13) = some r := hyE; clear hy_; have Ny351 := aM hy351; clear hy351; have H' := aM H; clear H; obtain ⟨Ao22, co22, eo22⟩ := Kd.R_slice HO_3.out; subst eo22; have p348 : 0 ≤ ((ji13) : Int) := of_decide_eq_true zq6; have q348 : (ji13) < (x3_2.length : Int) := of_decide_eq_true zq6; obtain ⟨ad348, e348, hx348_0⟩ := Kd.at_string (Kd.R_reads' HO_3.out).2.2 (ji13) p348 q348; cases e348; replace p348 := eq_true p348; replace q348 := eq_true q348; have p349 : 0 ≤ (x4_1 : Int) := of_decide_eq_true zq6; have q349 : x4_1 < (l0.length : Int) := of_decide_eq_true zq6; obtain ⟨ad349, e349, hx349_0⟩ := Kd.at_string HR0.out x4_1 p349 q349; obtain rfl : ad342 = ad349 := (by injection e349); replace hx349_0 := hxB HB hx349_0; replace p349 := eq_true p349; replace q349 := eq_true q349; have p350 : 0 ≤ ((ji13) : Int) := of_decide_eq_true zq6; have q350 : (ji13) < (x3_2.length : Int) := of_decide_eq_true zq6; obtain ⟨ad350, e350, hx350_0⟩ := Kd.at_string (Kd.R_reads' HO_3.out).2.2 (ji13) p350 q350; obtain rfl : ad348 = ad350 := (by injection e350); replace p350 := eq_true p350; replace q350 := eq_true q350; have p21 : 0 ≤ (x5_2 : Int) := of_decide_eq_true zq6
                have q21 : (x5_2 : Int) < ((x3_2.length : Int) : Int) := of_decide_eq_true zq6; obtain ⟨go21, co21, eo21, gb21, gl21, cl21, HG21⟩ := Kd.R_form HO_3.out (by omega)
                (first | cases eo21 | (injection eo21 with ea_ en_ ec_; (first | subst ea_ | (injection ea_ with ea_; subst ea_)); subst ec_; clear en_))
                have GB21 := aM gb21; have GG21 := aM HG21; clear gb21 gl21 HG21
                (first | simp only [add_plain] at hx348_0 | skip)
                (first | simp only [add_plain] at hx350_0 | skip)
                obtain ⟨hx21_0, hf21_0⟩ := Kd.R_celln (⟨#[]⟩ : ByteArray) HO_3.out (x5_2 : Int) p21 q21; replace p21 := eq_true p21; replace q21 := eq_true q21; have HP23 := Kd.R_putg HO_3.out (x5_2 : Int) (rdOf ByteArray.empty x3_2 (ji13))
                go_wp2_with (first | ((with_reducible refine gate_store (t := 9) (p := 49) rfl ?_); (try (rw [drewN_self wr]; generalize hq_ : World.drewN wr _ = wr; have n0_ := aM (Kd.R_at hq_ HO_3.out); have n1_ := aM (below_at hq_ HB.out); clear hq_ HO_3 HB; have HO_3 := n0_; have HB := n1_; clear n0_ n1_; (try (obtain ⟨hx21_0, hf21_0⟩ := Kd.R_celln (⟨#[]⟩ : ByteArray) HO_3.out (x5_2 : Int) (of_eq_true p21) (of_eq_true q21))); (try (have HP23 := Kd.R_putg HO_3.out (x5_2 : Int) (rdOf ByteArray.empty x3_2 (ji13)))))); refine store_event (t := 9) (p := 49) (v := ?vo_w24) (w1 := (wr.setCell ⟨go21, (x5_2 : Int).toNat, none⟩ (.string (rdOf ByteArray.empty x3_2 (ji13))))) ?hg ?ho ?hn ?hr ?_; (case ho => rfl); (case hg => rfl); (case hn => rfl); (case hr => exact zq8); intro w24 hw; have hg : wr.grownBy w24 (some go21) := (by rw [hw]; exact HP23.2); have hp_ : Kd.R Kd.string 9 w24 w.heap.size (fun _ => True) (.slice (some ⟨go21, 0, none⟩) x3_2.length co22) y351 := zq117; clear HP23; replace HO_3 := aM hp_; replace HB := aM (zq118 : Below w.heap.size w w24); clear hg hw hp_))
                repeat (go_quiet (first | ((with_reducible refine gate_store (t := 9) (p := 49) rfl ?_); (try (rw [drewN_self wr]; generalize hq_ : World.drewN wr _ = wr; have n0_ := aM (Kd.R_at hq_ HO_3.out); have n1_ := aM (below_at hq_ HB.out); clear hq_ HO_3 HB; have HO_3 := n0_; have HB := n1_; clear n0_ n1_; (try (obtain ⟨hx21_0, hf21_0⟩ := Kd.R_celln (⟨#[]⟩ : ByteArray) HO_3.out (x5_2 : Int) (of_eq_true p21) (of_eq_true q21))); (try (have HP23 := Kd.R_putg HO_3.out (x5_2 : Int) (rdOf ByteArray.empty x3_2 (ji13)))))); refine store_event (t := 9) (p := 49) (v := ?vo_w24) (w1 := (wr.setCell ⟨go21, (x5_2 : Int).toNat, none⟩ (.string (rdOf ByteArray.empty x3_2 (ji13))))) ?hg ?ho ?hn ?hr ?_; (case ho => rfl); (case hg => rfl); (case hn => rfl); (case hr => exact zq8); intro w24 hw; have hg : wr.grownBy w24 (some go21) := (by rw [hw]; exact HP23.2); have hp_ : Kd.R Kd.string 9 w24 w.heap.size (fun _ => True) (.slice (some ⟨go21, 0, none⟩) x3_2.length co22) y351 := zq117; clear HP23; replace HO_3 := aM hp_; replace HB := aM (zq118 : Below w.heap.size w w24); clear hg hw hp_)); try go_wp2_with (first | ((with_reducible refine gate_store (t := 9) (p := 49) rfl ?_); (try (rw [drewN_self wr]; generalize hq_ : World.drewN wr _ = wr; have n0_ := aM (Kd.R_at hq_ HO_3.out); have n1_ := aM (below_at hq_ HB.out); clear hq_ HO_3 HB; have HO_3 := n0_; have HB := n1_; clear n0_ n1_; (try (obtain ⟨hx21_0, hf21_0⟩ := Kd.R_celln (⟨#[]⟩ : ByteArray) HO_3.out (x5_2 : Int) (of_eq_true p21) (of_eq_true q21))); (try (have HP23 := Kd.R_putg HO_3.out (x5_2 : Int) (rdOf ByteArray.empty x3_2 (ji13)))))); refine store_event (t := 9) (p := 49) (v := ?vo_w24) (w1 := (wr.setCell ⟨go21, (x5_2 : Int).toNat, none⟩ (.string (rdOf ByteArray.empty x3_2 (ji13))))) ?hg ?ho ?hn ?hr ?_; (case ho => rfl); (case hg => rfl); (case hn => rfl); (case hr => exact zq8); intro w24 hw; have hg : wr.grownBy w24 (some go21) := (by rw [hw]; exact HP23.2); have hp_ : Kd.R Kd.string 9 w24 w.heap.size (fun _ => True) (.slice (some ⟨go21, 0, none⟩) x3_2.length co22) y351 := zq117; clear HP23; replace HO_3 := aM hp_; replace HB := aM (zq118 : Below w.heap.size w w24); clear hg hw hp_)))
                go_roundg k2
                case measure => have := HK1.out; have := HK2.out; omega
                case rel => exact ⟨(y351), (ji13), (by first | rfl | (simp; done) | (simp only [← hji13] <;> (first | rfl | simp)) | (simp [*]; done)), H', ⟨zq50⟩, ⟨zq23⟩, ⟨zq4⟩⟩
               exact zq141
              rw [if_neg c19] at H; exact absurd H (by simp)
             rw [if_neg c18] at H; have c18b0 : (Op.bytesLess ((rdOf ByteArray.empty l0 x4_1).toList) ((rdOf ByteArray.empty x3_2 (ji13)).toList)) = false := by simpa using c18
             clear c18; by_cases c25 : 0 ≤ x5_2
             ·
              rw [if_pos c25] at H; have c25b0 := decide_eq_true c25; clear c25; by_cases c26 : x5_2 < (x3_2.length : Int)
              ·
               rw [if_pos c26] at H; have c26b0 := decide_eq_true c26; clear c26; obtain ⟨y353, hy353⟩ : ∃ y_ : List ByteArray, y_ = (x3_2.set (x5_2 : Int).toNat (rdOf ByteArray.empty l0 x4_1)) := ⟨_, rfl⟩; have hy_ := hy353; replace H : (spec_l1Rising.l0 k2 l0 y353 (wrap64 (x4_1 + 1))) = some r := hyE; clear hy_; have Ny353 := aM hy353; clear hy353; have H' := aM H; clear H; obtain ⟨Ao28, co28, eo28⟩ := Kd.R_slice HO_3.out; subst eo28; have p348 : 0 ≤ ((ji13) : Int) := of_decide_eq_true zq6; have q348 : (ji13) < (x3_2.length : Int) := of_decide_eq_true zq6; obtain ⟨ad348, e348, hx348_0⟩ := Kd.at_string (Kd.R_reads' HO_3.out).2.2 (ji13) p348 q348; cases e348; replace p348 := eq_true p348; replace q348 := eq_true q348; have p349 : 0 ≤ (x4_1 : Int) := of_decide_eq_true zq6; have q349 : x4_1 < (l0.length : Int) := of_decide_eq_true zq6; obtain ⟨ad349, e349, hx349_0⟩ := Kd.at_string HR0.out x4_1 p349 q349; obtain rfl : ad342 = ad349 := (by injection e349); replace hx349_0 := hxB HB hx349_0; replace p349 := eq_true p349; replace q349 := eq_true q349; have p352 : 0 ≤ (x4_1 : Int) := of_decide_eq_true zq6; have q352 : x4_1 < (l0.length : Int) := of_decide_eq_true zq6; obtain ⟨ad352, e352, hx352_0⟩ := Kd.at_string HR0.out x4_1 p352 q352; obtain rfl : ad342 = ad352 := (by injection e352); replace hx352_0 := hxB HB hx352_0; replace p352 := eq_true p352
               replace q352 := eq_true q352; have p27 : 0 ≤ (x5_2 : Int) := of_decide_eq_true zq6; have q27 : (x5_2 : Int) < ((x3_2.length : Int) : Int) := of_decide_eq_true zq6; obtain ⟨go27, co27, eo27, gb27, gl27, cl27, HG27⟩ := Kd.R_form HO_3.out (by omega)
               (first | cases eo27 | (injection eo27 with ea_ en_ ec_; (first | subst ea_ | (injection ea_ with ea_; subst ea_)); subst ec_; clear en_))
               have GB27 := aM gb27; have GG27 := aM HG27; clear gb27 gl27 HG27
               (first | simp only [add_plain] at hx348_0 | skip)
               obtain ⟨hx27_0, hf27_0⟩ := Kd.R_celln (⟨#[]⟩ : ByteArray) HO_3.out (x5_2 : Int) p27 q27; replace p27 := eq_true p27; replace q27 := eq_true q27; have HP29 := Kd.R_putg HO_3.out (x5_2 : Int) (rdOf ByteArray.empty l0 x4_1)
               go_wp2_with (first | ((with_reducible refine gate_store (t := 9) (p := 58) rfl ?_); (try (rw [drewN_self wr]; generalize hq_ : World.drewN wr _ = wr; have n0_ := aM (Kd.R_at hq_ HO_3.out); have n1_ := aM (below_at hq_ HB.out); clear hq_ HO_3 HB; have HO_3 := n0_; have HB := n1_; clear n0_ n1_; (try (obtain ⟨hx27_0, hf27_0⟩ := Kd.R_celln (⟨#[]⟩ : ByteArray) HO_3.out (x5_2 : Int) (of_eq_true p27) (of_eq_true q27))); (try (have HP29 := Kd.R_putg HO_3.out (x5_2 : Int) (rdOf ByteArray.empty l0 x4_1))))); refine store_event (t := 9) (p := 58) (v := ?vo_w30) (w1 := (wr.setCell ⟨go27, (x5_2 : Int).toNat, none⟩ (.string (rdOf ByteArray.empty l0 x4_1)))) ?hg ?ho ?hn ?hr ?_; (case ho => rfl); (case hg => rfl); (case hn => rfl); (case hr => exact zq8); intro w30 hw; have hg : wr.grownBy w30 (some go27) := (by rw [hw]; exact HP29.2); have hp_ : Kd.R Kd.string 9 w30 w.heap.size (fun _ => True) (.slice (some ⟨go27, 0, none⟩) x3_2.length co28) y353 := zq119; clear HP29; replace HO_3 := aM hp_; replace HB := aM (zq120 : Below w.heap.size w w30); clear hg hw hp_))
               repeat (go_quiet (first | ((with_reducible refine gate_store (t := 9) (p := 58) rfl ?_); (try (rw [drewN_self wr]; generalize hq_ : World.drewN wr _ = wr; have n0_ := aM (Kd.R_at hq_ HO_3.out); have n1_ := aM (below_at hq_ HB.out); clear hq_ HO_3 HB; have HO_3 := n0_; have HB := n1_; clear n0_ n1_; (try (obtain ⟨hx27_0, hf27_0⟩ := Kd.R_celln (⟨#[]⟩ : ByteArray) HO_3.out (x5_2 : Int) (of_eq_true p27) (of_eq_true q27))); (try (have HP29 := Kd.R_putg HO_3.out (x5_2 : Int) (rdOf ByteArray.empty l0 x4_1))))); refine store_event (t := 9) (p := 58) (v := ?vo_w30) (w1 := (wr.setCell ⟨go27, (x5_2 : Int).toNat, none⟩ (.string (rdOf ByteArray.empty l0 x4_1)))) ?hg ?ho ?hn ?hr ?_; (case ho => rfl); (case hg => rfl); (case hn => rfl); (case hr => exact zq8); intro w30 hw; have hg : wr.grownBy w30 (some go27) := (by rw [hw]; exact HP29.2); have hp_ : Kd.R Kd.string 9 w30 w.heap.size (fun _ => True) (.slice (some ⟨go27, 0, none⟩) x3_2.length co28) y353 := zq119; clear HP29; replace HO_3 := aM hp_; replace HB := aM (zq120 : Below w.heap.size w w30); clear hg hw hp_)); try go_wp2_with (first | ((with_reducible refine gate_store (t := 9) (p := 58) rfl ?_); (try (rw [drewN_self wr]; generalize hq_ : World.drewN wr _ = wr; have n0_ := aM (Kd.R_at hq_ HO_3.out); have n1_ := aM (below_at hq_ HB.out); clear hq_ HO_3 HB; have HO_3 := n0_; have HB := n1_; clear n0_ n1_; (try (obtain ⟨hx27_0, hf27_0⟩ := Kd.R_celln (⟨#[]⟩ : ByteArray) HO_3.out (x5_2 : Int) (of_eq_true p27) (of_eq_true q27))); (try (have HP29 := Kd.R_putg HO_3.out (x5_2 : Int) (rdOf ByteArray.empty l0 x4_1))))); refine store_event (t := 9) (p := 58) (v := ?vo_w30) (w1 := (wr.setCell ⟨go27, (x5_2 : Int).toNat, none⟩ (.string (rdOf ByteArray.empty l0 x4_1)))) ?hg ?ho ?hn ?hr ?_; (case ho => rfl); (case hg => rfl); (case hn => rfl); (case hr => exact zq8); intro w30 hw; have hg : wr.grownBy w30 (some go27) := (by rw [hw]; exact HP29.2); have hp_ : Kd.R Kd.string 9 w30 w.heap.size (fun _ => True) (.slice (some ⟨go27, 0, none⟩) x3_2.length co28) y353 := zq119; clear HP29; replace HO_3 := aM hp_; replace HB := aM (zq120 : Below w.heap.size w w30); clear hg hw hp_)))
               go_roundg k2
               case measure => have := HK1.out; have := HK2.out; omega
               case rel => exact ⟨(y353), (wrap64 (x4_1 + 1)), zq1, H', ⟨zq50⟩, ⟨zq23⟩, ⟨zq4⟩⟩
              rw [if_neg c26] at H; exact absurd H (by simp)
             rw [if_neg c25] at H; exact absurd H (by simp)
            exact zq142
           exact zq146
          rw [if_neg c15] at H; exact absurd H (by simp)
         exact zq147
        rw [if_neg c12] at H; have c12b0 : decide (0 < x5_2) = false := decide_eq_false c12; clear c12; by_cases c31 : 0 ≤ x4_1
        ·
         rw [if_pos c31] at H; have c31b0 := decide_eq_true c31; clear c31; by_cases c32 : x4_1 < (l0.length : Int)
         ·
          rw [if_pos c32] at H; have c32b0 := decide_eq_true c32; clear c32; by_cases c33 : 0 ≤ x5_2
          ·
           rw [if_pos c33] at H; have c33b0 := decide_eq_true c33; clear c33; by_cases c34 : x5_2 < (x3_2.length : Int)
           ·
            rw [if_pos c34] at H; have c34b0 := decide_eq_true c34; clear c34; obtain ⟨y355, hy355⟩ : ∃ y_ : List ByteArray, y_ = (x3_2.set (x5_2 : Int).toNat (rdOf ByteArray.empty l0 x4_1)) := ⟨_, rfl⟩; have hy_ := hy355; replace H : (spec_l1Rising.l0 k2 l0 y355 (wrap64 (x4_1 + 1))) = some r := hyE; clear hy_; have Ny355 := aM hy355; clear hy355; have H' := aM H; clear H; have p354 : 0 ≤ (x4_1 : Int) := of_decide_eq_true zq6; have q354 : x4_1 < (l0.length : Int) := of_decide_eq_true zq6; obtain ⟨ad354, e354, hx354_0⟩ := Kd.at_string HR0.out x4_1 p354 q354; obtain rfl : ad342 = ad354 := (by injection e354); replace hx354_0 := hxB HB hx354_0; replace p354 := eq_true p354; replace q354 := eq_true q354; have p35 : 0 ≤ (x5_2 : Int) := of_decide_eq_true zq6; have q35 : (x5_2 : Int) < ((x3_2.length : Int) : Int) := of_decide_eq_true zq6; obtain ⟨go35, co35, eo35, gb35, gl35, cl35, HG35⟩ := Kd.R_form HO_3.out (by omega)
            (first | cases eo35 | (injection eo35 with ea_ en_ ec_; (first | subst ea_ | (injection ea_ with ea_; subst ea_)); subst ec_; clear en_))
            have GB35 := aM gb35; have GG35 := aM HG35; clear gb35 gl35 HG35; obtain ⟨hx35_0, hf35_0⟩ := Kd.R_celln (⟨#[]⟩ : ByteArray) HO_3.out (x5_2 : Int) p35 q35; replace p35 := eq_true p35; replace q35 := eq_true q35; have HP36 := Kd.R_putg HO_3.out (x5_2 : Int) (rdOf ByteArray.empty l0 x4_1)
            go_wp2_with (first | ((with_reducible refine gate_store (t := 9) (p := 58) rfl ?_); (try (rw [drewN_self wr]; generalize hq_ : World.drewN wr _ = wr; have n0_ := aM (Kd.R_at hq_ HO_3.out); have n1_ := aM (below_at hq_ HB.out); clear hq_ HO_3 HB; have HO_3 := n0_; have HB := n1_; clear n0_ n1_; (try (obtain ⟨hx35_0, hf35_0⟩ := Kd.R_celln (⟨#[]⟩ : ByteArray) HO_3.out (x5_2 : Int) (of_eq_true p35) (of_eq_true q35))); (try (have HP36 := Kd.R_putg HO_3.out (x5_2 : Int) (rdOf ByteArray.empty l0 x4_1))))); refine store_event (t := 9) (p := 58) (v := ?vo_w37) (w1 := (wr.setCell ⟨go35, (x5_2 : Int).toNat, none⟩ (.string (rdOf ByteArray.empty l0 x4_1)))) ?hg ?ho ?hn ?hr ?_; (case ho => rfl); (case hg => rfl); (case hn => rfl); (case hr => exact zq8); intro w37 hw; have hg : wr.grownBy w37 (some go35) := (by rw [hw]; exact HP36.2); have hp_ : Kd.R Kd.string 9 w37 w.heap.size (fun _ => True) (.slice (some ⟨go35, 0, none⟩) x3_2.length co35) y355 := zq121; clear HP36; replace HO_3 := aM hp_; replace HB := aM (zq122 : Below w.heap.size w w37); clear hg hw hp_))
            repeat (go_quiet (first | ((with_reducible refine gate_store (t := 9) (p := 58) rfl ?_); (try (rw [drewN_self wr]; generalize hq_ : World.drewN wr _ = wr; have n0_ := aM (Kd.R_at hq_ HO_3.out); have n1_ := aM (below_at hq_ HB.out); clear hq_ HO_3 HB; have HO_3 := n0_; have HB := n1_; clear n0_ n1_; (try (obtain ⟨hx35_0, hf35_0⟩ := Kd.R_celln (⟨#[]⟩ : ByteArray) HO_3.out (x5_2 : Int) (of_eq_true p35) (of_eq_true q35))); (try (have HP36 := Kd.R_putg HO_3.out (x5_2 : Int) (rdOf ByteArray.empty l0 x4_1))))); refine store_event (t := 9) (p := 58) (v := ?vo_w37) (w1 := (wr.setCell ⟨go35, (x5_2 : Int).toNat, none⟩ (.string (rdOf ByteArray.empty l0 x4_1)))) ?hg ?ho ?hn ?hr ?_; (case ho => rfl); (case hg => rfl); (case hn => rfl); (case hr => exact zq8); intro w37 hw; have hg : wr.grownBy w37 (some go35) := (by rw [hw]; exact HP36.2); have hp_ : Kd.R Kd.string 9 w37 w.heap.size (fun _ => True) (.slice (some ⟨go35, 0, none⟩) x3_2.length co35) y355 := zq121; clear HP36; replace HO_3 := aM hp_; replace HB := aM (zq122 : Below w.heap.size w w37); clear hg hw hp_)); try go_wp2_with (first | ((with_reducible refine gate_store (t := 9) (p := 58) rfl ?_); (try (rw [drewN_self wr]; generalize hq_ : World.drewN wr _ = wr; have n0_ := aM (Kd.R_at hq_ HO_3.out); have n1_ := aM (below_at hq_ HB.out); clear hq_ HO_3 HB; have HO_3 := n0_; have HB := n1_; clear n0_ n1_; (try (obtain ⟨hx35_0, hf35_0⟩ := Kd.R_celln (⟨#[]⟩ : ByteArray) HO_3.out (x5_2 : Int) (of_eq_true p35) (of_eq_true q35))); (try (have HP36 := Kd.R_putg HO_3.out (x5_2 : Int) (rdOf ByteArray.empty l0 x4_1))))); refine store_event (t := 9) (p := 58) (v := ?vo_w37) (w1 := (wr.setCell ⟨go35, (x5_2 : Int).toNat, none⟩ (.string (rdOf ByteArray.empty l0 x4_1)))) ?hg ?ho ?hn ?hr ?_; (case ho => rfl); (case hg => rfl); (case hn => rfl); (case hr => exact zq8); intro w37 hw; have hg : wr.grownBy w37 (some go35) := (by rw [hw]; exact HP36.2); have hp_ : Kd.R Kd.string 9 w37 w.heap.size (fun _ => True) (.slice (some ⟨go35, 0, none⟩) x3_2.length co35) y355 := zq121; clear HP36; replace HO_3 := aM hp_; replace HB := aM (zq122 : Below w.heap.size w w37); clear hg hw hp_)))
            go_roundg k2
            case measure => have := HK1.out; have := HK2.out; omega
            case rel => exact ⟨(y355), (wrap64 (x4_1 + 1)), zq1, H', ⟨zq50⟩, ⟨zq23⟩, ⟨zq4⟩⟩
           rw [if_neg c34] at H; exact absurd H (by simp)
          rw [if_neg c33] at H; exact absurd H (by simp)
         rw [if_neg c32] at H; exact absurd H (by simp)
        rw [if_neg c31] at H; exact absurd H (by simp)
     exact zq134
    exact zq130
   rw [if_neg c4] at H; have c4b0 := decide_eq_false c4; clear c4; obtain rfl := Option.some.inj H; go_wp2
   repeat (go_quiet (fail); try go_wp2)
   go_ret; exact ⟨_, zq5, zq23, zq4⟩

end Go.Proofs.YtoeomljkhabifaaDoor.QFnDiff
