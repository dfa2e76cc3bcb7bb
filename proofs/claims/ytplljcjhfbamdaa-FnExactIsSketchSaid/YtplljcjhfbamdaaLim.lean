/- What a function with rounds comes to when it has enough of them. No condition of its own. -/
import Derived.Test.YtplljcjhfbamdaaWMore
namespace Go.Proofs.Ytplljcjhfbamdaa.Lim
open Go.RowKit Go.Proofs.YtplljcjhfbamdaaW.PrintWords Go.Proofs.YtplljcjhfbamdaaW.PrintLast Go.Proofs.YtplljcjhfbamdaaW.PrintMore
set_option linter.unusedVariables false

def Mono {α : Type} (g : Nat → Option α) : Prop := ∀ k, LeO (g k) (g (k + 1))
open Classical in
noncomputable def lim {α : Type} (g : Nat → Option α) : Option α := if h : ∃ r, ∃ k, g k = some r then some (Classical.choose h) else none

theorem Mono.uniq {α : Type} {g : Nat → Option α} (hg : Mono g) {k k' : Nat} {r r' : α} (h : g k = some r) (h' : g k' = some r') : r = r' := by
  have h1 := at_rounds hg (Nat.le_max_left k k') h
  have h2 := at_rounds hg (Nat.le_max_right k k') h'
  exact Option.some.inj (h1.symm.trans h2)

theorem lim_some {α : Type} {g : Nat → Option α} (hg : Mono g) {r : α} : lim g = some r ↔ ∃ k, g k = some r := by
  unfold lim
  constructor
  · intro h
    split at h
    · rename_i he
      obtain ⟨k, hk⟩ := Classical.choose_spec he
      cases h
      exact ⟨k, hk⟩
    · cases h
  · rintro ⟨k, hk⟩
    have he : ∃ r, ∃ k, g k = some r := ⟨r, k, hk⟩
    rw [dif_pos he]
    obtain ⟨k', hk'⟩ := Classical.choose_spec he
    exact congrArg some (hg.uniq hk' hk)

/-- With enough rounds g comes to x; more rounds tell the same. -/
def Lim {α : Type} (g : Nat → Option α) (x : Option α) : Prop := Mono g ∧ lim g = x

theorem Lim.of {α : Type} {g : Nat → Option α} (h : ∀ k, LeO (g k) (g (k + 1))) : Lim g (lim g) := ⟨h, rfl⟩
theorem Lim.intro {α : Type} {g : Nat → Option α} {x : Option α} (hg : Mono g) (h : ∀ r, x = some r ↔ ∃ k, g k = some r) : Lim g x := by
  refine ⟨hg, ?_⟩
  cases hx : x with
  | some r => exact (lim_some hg).2 ((h r).1 hx)
  | none =>
    cases hl : lim g with
    | none => rfl
    | some r =>
      have := (h r).2 ((lim_some hg).1 hl)
      rw [hx] at this
      cases this
theorem Lim.iff {α : Type} {g : Nat → Option α} {x : Option α} (h : Lim g x) {r : α} : x = some r ↔ ∃ k, g k = some r := by
  rw [← h.2]
  exact lim_some h.1
theorem Lim.const {α : Type} (x : Option α) : Lim (fun _ => x) x := Lim.intro (fun _ => LeO.refl _) (fun r => ⟨fun h => ⟨0, h⟩, fun ⟨_, h⟩ => h⟩)
theorem Lim.ite {α : Type} {c : Prop} [Decidable c] {g f : Nat → Option α} {x y : Option α} (hg : Lim g x) (hf : Lim f y) : Lim (fun k => if c then g k else f k) (if c then x else y) := by
  by_cases h : c
  · simp only [if_pos h]; exact hg
  · simp only [if_neg h]; exact hf
theorem Lim.bind {α β : Type} {g : Nat → Option α} {f : Nat → α → Option β} {x : Option α} {y : α → Option β} (hg : Lim g x) (hf : ∀ a, Lim (fun k => f k a) (y a)) : Lim (fun k => (g k).bind (f k)) (x.bind y) := by
  refine Lim.intro (fun k => LeO.bind (hg.1 k) (fun a => (hf a).1 k)) (fun r => ?_)
  constructor
  · intro h
    obtain ⟨a, ha, hr⟩ := Option.bind_eq_some_iff.1 h
    obtain ⟨k, hk⟩ := hg.iff.1 ha
    obtain ⟨k', hk'⟩ := (hf a).iff.1 hr
    refine ⟨max k k', Option.bind_eq_some_iff.2 ⟨a, at_rounds hg.1 (Nat.le_max_left _ _) hk, ?_⟩⟩
    exact at_rounds (g := fun k => f k a) (hf a).1 (Nat.le_max_right _ _) hk'
  · rintro ⟨k, hk⟩
    obtain ⟨a, ha, hr⟩ := Option.bind_eq_some_iff.1 hk
    exact Option.bind_eq_some_iff.2 ⟨a, hg.iff.2 ⟨k, ha⟩, (hf a).iff.2 ⟨k, hr⟩⟩
theorem Lim.succ {α : Type} {g : Nat → Option α} {x : Option α} (h : Lim g x) : Lim (fun k => g (k + 1)) x := by
  refine Lim.intro (fun k => h.1 (k + 1)) (fun r => ?_)
  rw [h.iff]
  constructor
  · rintro ⟨k, hk⟩; exact ⟨k, h.1 k r hk⟩
  · rintro ⟨k, hk⟩; exact ⟨k + 1, hk⟩
theorem Lim.uniq {α : Type} {g : Nat → Option α} {x y : Option α} (h : Lim g x) (h' : Lim g y) : x = y := h.2.symm.trans h'.2
/-- A loop's equation: one round of it. -/
theorem Lim.round {α : Type} {g : Nat → Option α} {x y : Option α} (h : Lim g x) (h' : Lim (fun k => g (k + 1)) y) : x = y := h.succ.uniq h'
theorem Lim.rounds {α : Type} {g : Nat → Option α} {x : Option α} (h : Lim g x) {r : α} (hx : x = some r) : ∃ k, g k = some r := h.iff.1 hx

end Go.Proofs.Ytplljcjhfbamdaa.Lim
