import Derived.Test.YtoeomljkhabifaaDoorVFnExactSteps
import Derived.Deep.Slices
import Derived.WideShapes
import Derived.DataReads
/-! What a call is handed, read as data: by kinds. -/
namespace Go.Proofs.YtoeomljkhabifaaDoor.Reads
open Go.RowKit Go.Proofs.YtoeomljkhabifaaDoorW.PrintWords Go.Proofs.YtoeomljkhabifaaDoorW.PrintLast Go.Proofs.YtoeomljkhabifaaDoorW.PrintMore
set_option linter.unusedSimpArgs false
set_option linter.unusedVariables false

/-- Whatever reads at type t is of the kind d, and is as 'ok' says. -/
def Rd {α : Type} (P : Program) (d : Kd α) (t : TypeId) (ok : α → Prop) : Prop :=
  ∀ (H : Type) (enc : TypeId × Value → H) (w : World) (base : Nat) (spare : Nat → Bool) (held : Bool) (fuel : Nat) (cs : List Value) (x : DataW H × List MemPlace),
    DataW.trod enc P w base spare held fuel t cs = some x → ∃ y, d.K w y cs ∧ ok y
/-- The same of a run of fields that begins at cell 'off'. -/
def RdF {α : Type} (P : Program) (d : Kd α) (fs : List Field) (off : Nat) (ok : α → Prop) : Prop :=
  ∀ (H : Type) (enc : TypeId × Value → H) (w : World) (base : Nat) (spare : Nat → Bool) (held : Bool) (fuel : Nat) (cs : List Value),
    cs.length = off + d.sz → (∀ f, f ∈ fs → ∃ x, DataW.trod enc P w base spare held fuel f.type ((cs.drop f.offset).take (P.cellsOf f.type)) = some x) → ∃ y, d.K w y (cs.drop off) ∧ ok y
section
variable {α β : Type} {P : Program} {t e : TypeId}
theorem Rd.int {k : IntKind} (ht : P.underlying t = some (.int k)) : Rd P (Kd.int k) t (fun n => (Lit.int k n).wf = true) := by
  intro H enc w base spare held fuel cs x h
  obtain ⟨n, rfl, _, hw⟩ := DataW.trod_int ht h
  exact ⟨n, rfl, hw⟩
theorem Rd.str (ht : P.underlying t = some .string) : Rd P Kd.string t (fun s => s.size ≤ maxLen) := by
  intro H enc w base spare held fuel cs x h
  obtain ⟨n, rfl, _, hw⟩ := DataW.trod_string ht h
  exact ⟨n, rfl, hw⟩
theorem Rd.bool (ht : P.underlying t = some .bool) : Rd P Kd.bool t (fun _ => True) := by
  intro H enc w base spare held fuel cs x h
  obtain ⟨n, rfl, _⟩ := DataW.trod_bool ht h
  exact ⟨n, rfl, trivial⟩
theorem Rd.iso {d : Kd α} {ok : α → Prop} (h : Rd P d t ok) (f : β → α) (g : α → β) (hfg : ∀ a, f (g a) = a) : Rd P (Kd.iso d f) t (fun b => ok (f b)) := by
  intro H enc w base spare held fuel cs x hx
  obtain ⟨y, hy, ho⟩ := h H enc w base spare held fuel cs x hx
  refine ⟨g y, ?_, by show ok (f (g y)); rw [hfg]; exact ho⟩
  show d.K w (f (g y)) cs
  rw [hfg]; exact hy
theorem RdF.one {d : Kd α} {ok : α → Prop} {f : Field} {off : Nat} (h : Rd P d f.type ok) (ho : f.offset = off) (hc : P.cellsOf f.type = d.sz) : RdF P d [f] off ok := by
  intro H enc w base spare held fuel cs hl hx
  obtain ⟨x, hx⟩ := hx f (List.mem_singleton.2 rfl)
  obtain ⟨y, hy, hk⟩ := h H enc w base spare held fuel _ x hx
  refine ⟨y, ?_, hk⟩
  rw [ho, hc, List.take_of_length_le (by rw [List.length_drop]; omega)] at hy
  exact hy
theorem RdF.cons {a : Kd α} {b : Kd β} {oka : α → Prop} {okb : β → Prop} {f : Field} {fs : List Field} {off : Nat} (h : Rd P a f.type oka) (ho : f.offset = off) (hc : P.cellsOf f.type = a.sz)
    (hs : RdF P b fs (off + a.sz) okb) : RdF P (Kd.pair a b) (f :: fs) off (fun x => oka x.1 ∧ okb x.2) := by
  intro H enc w base spare held fuel cs hl hx
  obtain ⟨x, hx0⟩ := hx f (by simp)
  obtain ⟨y, hy, hk⟩ := h H enc w base spare held fuel _ x hx0
  have hl' : cs.length = off + (a.sz + b.sz) := hl
  obtain ⟨z, hz, hk2⟩ := hs H enc w base spare held fuel cs (by omega) (fun g hg => hx g (List.mem_cons_of_mem _ hg))
  refine ⟨(y, z), ⟨_, _, ?_, hy, hz⟩, hk, hk2⟩
  rw [ho, hc, ← List.drop_drop]
  exact (List.take_append_drop a.sz (cs.drop off)).symm
theorem Rd.struct {d : Kd α} {ok : α → Prop} {fs : Array Field} (ht : P.underlying t = some (.struct fs)) (hc : P.cellsOf t = d.sz) (h : RdF P d fs.toList 0 ok) : Rd P d t ok := by
  intro H enc w base spare held fuel cs x hx
  obtain ⟨xs, n, _, _, hl, hlen, hf⟩ := DataW.trod_struct ht hx
  have := h H enc w base spare held n cs (by omega) (fun f hf' => by
    obtain ⟨i, hi, rfl⟩ := List.getElem_of_mem hf'
    have hi' : i < fs.size := by simpa using hi
    have h2 := hf i fs[i] (by simp [hi'])
    refine ⟨xs[i]'(by omega), ?_⟩
    simpa [List.getElem?_eq_getElem (show i < xs.length by omega)] using h2)
  simpa using this
theorem Rd.slice {d : Kd α} {ok : α → Prop} (ht : P.underlying t = some (.slice e)) (hc : P.cellsOf e = d.sz) (h : Rd P d e ok) : Rd P (Kd.slice e d) t (fun l => l.length ≤ maxLen ∧ ∀ x ∈ l, ok x) := by
  intro H enc w base spare held fuel cs x hx
  rcases Deep.open_slice ht hx with ⟨rfl, _⟩ | ⟨a, len, cap, m, n, D, Pl, rfl, hb, hl, hm, hmm, _, hel⟩
  · exact ⟨[], ⟨none, 0, rfl, Nat.le_refl _, rfl, by simp, fun h0 => absurd h0 (by simp)⟩, by simp, by simp⟩
  have hlm : len ≤ m := by rw [hmm]; split <;> omega
  have one : ∀ i, ∃ y : Option α, i < len → ∃ z cs', y = some z ∧ w.cells? base (a.add (i * P.cellsOf e)) (P.cellsOf e) = some cs' ∧ d.K w z cs' ∧ ok z := fun i => by
    by_cases hi : i < len
    · obtain ⟨cs', h1, h2⟩ := hel i (by omega)
      obtain ⟨z, hz, hk⟩ := h H enc w base spare held n cs' _ h2
      exact ⟨some z, fun _ => ⟨z, cs', rfl, h1, hz, hk⟩⟩
    · exact ⟨none, fun hi' => absurd hi' hi⟩
  have ⟨Y, hY⟩ := Classical.axiomOfChoice one
  have key : ∀ k, k ≤ len → ∃ ys : List α, ys.length = k ∧ ∀ i z, ys[i]? = some z → Y i = some z := by
    intro k
    induction k with
    | zero => exact fun _ => ⟨[], rfl, fun i z hz => by simp at hz⟩
    | succ k ih =>
      intro hk
      obtain ⟨ys, hly, hys⟩ := ih (by omega)
      obtain ⟨z, _, hz, _⟩ := hY k (by omega)
      refine ⟨ys ++ [z], by simp [hly], fun i u hu => ?_⟩
      rcases Nat.lt_or_ge i ys.length with hi | hi
      · rw [List.getElem?_append_left hi] at hu; exact hys i u hu
      · rw [List.getElem?_append_right hi] at hu
        have : i - ys.length = 0 := by
          rcases Nat.eq_zero_or_pos (i - ys.length) with h0 | h0
          · exact h0
          · rw [List.getElem?_eq_none (by simp; omega)] at hu; simp at hu
        rw [this] at hu
        have hik : i = k := by omega
        subst hik
        rw [hz]; simpa using hu
  obtain ⟨ys, hly, hys⟩ := key len (Nat.le_refl _)
  have hmax : cap ≤ 9223372036854775807 := hm
  refine ⟨ys, ⟨some a, cap, by rw [hly], by omega, rfl, by omega, fun hp => ⟨a, rfl, fun j p hj => ?_⟩⟩, by rw [hly]; unfold maxLen at *; omega, fun y hy => ?_⟩
  · have hjl : j < len := by
      have := (List.getElem?_eq_some_iff.1 hj).1; omega
    obtain ⟨z, cs', hz, hcs, hk, _⟩ := hY j hjl
    rw [hys j p hj] at hz
    injection hz with hz
    subst hz
    obtain ⟨_, hlen, hcell⟩ := World.cells?_some hcs
    refine ⟨cs', by rw [hlen, hc], hk, fun i u hu => ?_⟩
    have hi : i < cs'.length := (List.getElem?_eq_some_iff.1 hu).1
    rw [← hu, ← hcell i (by omega), Deep.add_add, hc]
  · obtain ⟨j, hj, rfl⟩ := List.getElem_of_mem hy
    obtain ⟨z, cs', hz, _, _, hk⟩ := hY j (by omega)
    rw [hys j _ (List.getElem?_eq_getElem hj)] at hz
    injection hz with hz
    subst hz
    exact hk
end
end Go.Proofs.YtoeomljkhabifaaDoor.Reads
