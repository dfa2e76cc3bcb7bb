/- Laws about the functions that FnExactTouchKey reaches. Conditions: bounds on sizes. -/
import Derived.Test.YtelmcjohkifeeaaWMore
import Derived.Test.YtelmcjohkifeeaaZFnExactTouchKey2
namespace Go.Proofs.Ytelmcjohkifeeaa.Lim
open Go.RowKit Go.Proofs.YtelmcjohkifeeaaW.PrintWords Go.Proofs.YtelmcjohkifeeaaW.PrintLast Go.Proofs.YtelmcjohkifeeaaW.PrintMore
set_option linter.unusedVariables false

def Mono {α : Type} (g : Nat → Option α) : Prop := ∀ k, LeO (g k) (g (k + 1))
open Classical in
noncomputable def lim {α : Type} (g : Nat → Option α) : Option α := if h : ∃ r, ∃ k, g k = some r then some (Classical.choose h) else none

theorem Mono.uniq {α : Type} {g : Nat → Option α} (hg : Mono g) {k k' : Nat} {r r' : α} (h : g k = some r) (h' : g k' = some r') : r = r' := by
  have h1 := at_rounds hg (Nat.le_max_left k k') h
  have h2 := at_rounds hg (Nat.le_max_right k k') h'
  exact Option.some.inj (h1.symm.trans h2)

theorem lim_some {α : Type} {g : Nat → Option α} (hg : Mono g) {r : α} : lim g = some r ↔ ∃ k, g k = some r := by
  unfold lim
  constructor
  · intro h
    split at h
    · rename_i he
      obtain ⟨k, hk⟩ := Classical.choose_spec he
      cases h
      exact ⟨k, hk⟩
    · cases h
  · rintro ⟨k, hk⟩
    have he : ∃ r, ∃ k, g k = some r := ⟨r, k, hk⟩
    rw [dif_pos he]
    obtain ⟨k', hk'⟩ := Classical.choose_spec he
    exact congrArg some (hg.uniq hk' hk)

/-- With enough rounds g comes to x; more rounds tell the same. -/
def Lim {α : Type} (g : Nat → Option α) (x : Option α) : Prop := Mono g ∧ lim g = x

theorem Lim.of {α : Type} {g : Nat → Option α} (h : ∀ k, LeO (g k) (g (k + 1))) : Lim g (lim g) := ⟨h, rfl⟩
theorem Lim.intro {α : Type} {g : Nat → Option α} {x : Option α} (hg : Mono g) (h : ∀ r, x = some r ↔ ∃ k, g k = some r) : Lim g x := by
  refine ⟨hg, ?_⟩
  cases hx : x with
  | some r => exact (lim_some hg).2 ((h r).1 hx)
  | none =>
    cases hl : lim g with
    | none => rfl
    | some r =>
      have := (h r).2 ((lim_some hg).1 hl)
      rw [hx] at this
      cases this
theorem Lim.iff {α : Type} {g : Nat → Option α} {x : Option α} (h : Lim g x) {r : α} : x = some r ↔ ∃ k, g k = some r := by
  rw [← h.2]
  exact lim_some h.1
theorem Lim.const {α : Type} (x : Option α) : Lim (fun _ => x) x := Lim.intro (fun _ => LeO.refl _) (fun r => ⟨fun h => ⟨0, h⟩, fun ⟨_, h⟩ => h⟩)
theorem Lim.ite {α : Type} {c : Prop} [Decidable c] {g f : Nat → Option α} {x y : Option α} (hg : Lim g x) (hf : Lim f y) : Lim (fun k => if c then g k else f k) (if c then x else y) := by
  by_cases h : c
  · simp only [if_pos h]; exact hg
  · simp only [if_neg h]; exact hf
theorem Lim.bind {α β : Type} {g : Nat → Option α} {f : Nat → α → Option β} {x : Option α} {y : α → Option β} (hg : Lim g x) (hf : ∀ a, Lim (fun k => f k a) (y a)) : Lim (fun k => (g k).bind (f k)) (x.bind y) := by
  refine Lim.intro (fun k => LeO.bind (hg.1 k) (fun a => (hf a).1 k)) (fun r => ?_)
  constructor
  · intro h
    obtain ⟨a, ha, hr⟩ := Option.bind_eq_some_iff.1 h
    obtain ⟨k, hk⟩ := hg.iff.1 ha
    obtain ⟨k', hk'⟩ := (hf a).iff.1 hr
    refine ⟨max k k', Option.bind_eq_some_iff.2 ⟨a, at_rounds hg.1 (Nat.le_max_left _ _) hk, ?_⟩⟩
    exact at_rounds (g := fun k => f k a) (hf a).1 (Nat.le_max_right _ _) hk'
  · rintro ⟨k, hk⟩
    obtain ⟨a, ha, hr⟩ := Option.bind_eq_some_iff.1 hk
    exact Option.bind_eq_some_iff.2 ⟨a, hg.iff.2 ⟨k, ha⟩, (hf a).iff.2 ⟨k, hr⟩⟩
theorem Lim.succ {α : Type} {g : Nat → Option α} {x : Option α} (h : Lim g x) : Lim (fun k => g (k + 1)) x := by
  refine Lim.intro (fun k => h.1 (k + 1)) (fun r => ?_)
  rw [h.iff]
  constructor
  · rintro ⟨k, hk⟩; exact ⟨k, h.1 k r hk⟩
  · rintro ⟨k, hk⟩; exact ⟨k + 1, hk⟩
theorem Lim.uniq {α : Type} {g : Nat → Option α} {x y : Option α} (h : Lim g x) (h' : Lim g y) : x = y := h.2.symm.trans h'.2
/-- A loop's equation: one round of it. -/
theorem Lim.round {α : Type} {g : Nat → Option α} {x y : Option α} (h : Lim g x) (h' : Lim (fun k => g (k + 1)) y) : x = y := h.succ.uniq h'
theorem Lim.rounds {α : Type} {g : Nat → Option α} {x : Option α} (h : Lim g x) {r : α} (hx : x = some r) : ∃ k, g k = some r := h.iff.1 hx

end Go.Proofs.Ytelmcjohkifeeaa.Lim

namespace Go.Proofs.Ytelmcjohkifeeaa.PA
open Go.RowKit Go.Proofs.YtelmcjohkifeeaaW.PrintWords Go.Proofs.YtelmcjohkifeeaaW.PrintLast Go.Proofs.YtelmcjohkifeeaaW.PrintMore Go.Proofs.Ytelmcjohkifeeaa.Lim
set_option linter.unusedVariables false
set_option linter.unusedSimpArgs false
noncomputable def laws_markIntS.l0g (y0 : List Int) (y1 : Int) (y2 : Int) : Option (Int × List Int) := lim (fun k => laws_markIntS.l0 k y0 y1 y2)
theorem laws_markIntS.l0L (y0 : List Int) (y1 : Int) (y2 : Int) : Lim (fun k => laws_markIntS.l0 k y0 y1 y2) (laws_markIntS.l0g y0 y1 y2) := Lim.of (fun k => (laws_markIntS.mono_l k) y0 y1 y2)
theorem laws_markIntS.l0e (x0 : List Int) (x1 : Int) (x5 : Int) : laws_markIntS.l0g x0 x1 x5 = (if x5 < (x0.length : Int) then (if 0 ≤ x5 then (laws_markIntS.l0g (x0.set (x5 : Int).toNat x1) (wrap64 (x1 + 1)) (wrap64 (x5 + 1))) else (none)) else (some (x1, x0))) := by
  refine Lim.round (laws_markIntS.l0L x0 x1 x5) ?_
  show Lim (fun k => if x5 < (x0.length : Int) then (if 0 ≤ x5 then (laws_markIntS.l0 k (x0.set (x5 : Int).toNat x1) (wrap64 (x1 + 1)) (wrap64 (x5 + 1))) else (none)) else (some (x1, x0))) _
  repeat' first | (with_reducible exact Lim.const _) | (with_reducible exact laws_markIntS.l0L _ _ _) | (with_reducible refine Lim.ite ?_ ?_) | (with_reducible refine Lim.bind ?_ (fun _ => ?_)) | exact Lim.const _ | refine Lim.ite ?_ ?_ | refine Lim.bind ?_ (fun _ => ?_) | exact laws_markIntS.l0L _ _ _
noncomputable def laws_markIntS.g (l0 : List Int) (a1 : Int) : Option (Int × List Int) := lim (fun k => laws_markIntS.f k l0 a1)
theorem laws_markIntS.L (l0 : List Int) (a1 : Int) : Lim (fun k => laws_markIntS.f k l0 a1) (laws_markIntS.g l0 a1) := Lim.of (fun k => laws_markIntS.mono l0 a1 k)
theorem laws_markIntS.ge (l0 : List Int) (a1 : Int) : laws_markIntS.g l0 a1 = (laws_markIntS.l0g l0 a1 0) := by
  refine Lim.uniq (laws_markIntS.L l0 a1) ?_
  show Lim (fun k => laws_markIntS.l0 k l0 a1 0) _
  repeat' first | (with_reducible exact Lim.const _) | (with_reducible exact laws_markIntS.l0L _ _ _) | (with_reducible refine Lim.ite ?_ ?_) | (with_reducible refine Lim.bind ?_ (fun _ => ?_)) | exact Lim.const _ | refine Lim.ite ?_ ?_ | refine Lim.bind ?_ (fun _ => ?_) | exact laws_markIntS.l0L _ _ _
end Go.Proofs.Ytelmcjohkifeeaa.PA

namespace Go.Proofs.Ytelmcjohkifeeaa.PA
open Go.RowKit Go.Proofs.YtelmcjohkifeeaaW.PrintWords Go.Proofs.YtelmcjohkifeeaaW.PrintLast Go.Proofs.YtelmcjohkifeeaaW.PrintMore Go.Proofs.Ytelmcjohkifeeaa.Lim
set_option linter.unusedVariables false
set_option linter.unusedSimpArgs false
noncomputable def laws_markSketch.g (l0_0 : List Int) (a0_1 : Int) (a1 : Int) : Option (Int × List Int) := lim (fun k => laws_markSketch.f k l0_0 a0_1 a1)
theorem laws_markSketch.L (l0_0 : List Int) (a0_1 : Int) (a1 : Int) : Lim (fun k => laws_markSketch.f k l0_0 a0_1 a1) (laws_markSketch.g l0_0 a0_1 a1) := Lim.of (fun k => laws_markSketch.mono l0_0 a0_1 a1 k)
theorem laws_markSketch.ge (l0_0 : List Int) (a0_1 : Int) (a1 : Int) : laws_markSketch.g l0_0 a0_1 a1 = ((laws_markIntS.g l0_0 a1).bind fun bt441 => (some (bt441.1, bt441.2))) := by
  refine Lim.uniq (laws_markSketch.L l0_0 a0_1 a1) ?_
  show Lim (fun k => (laws_markIntS.f k l0_0 a1).bind fun bt441 => (some (bt441.1, bt441.2))) _
  repeat' first | (with_reducible exact Lim.const _) | (with_reducible exact laws_markIntS.L _ _) | (with_reducible refine Lim.ite ?_ ?_) | (with_reducible refine Lim.bind ?_ (fun _ => ?_)) | exact Lim.const _ | refine Lim.ite ?_ ?_ | refine Lim.bind ?_ (fun _ => ?_) | exact laws_markIntS.L _ _
end Go.Proofs.Ytelmcjohkifeeaa.PA

namespace Go.Proofs.Ytelmcjohkifeeaa.PA
open Go.RowKit Go.Proofs.YtelmcjohkifeeaaW.PrintWords Go.Proofs.YtelmcjohkifeeaaW.PrintLast Go.Proofs.YtelmcjohkifeeaaW.PrintMore Go.Proofs.Ytelmcjohkifeeaa.Lim
set_option linter.unusedVariables false
set_option linter.unusedSimpArgs false
noncomputable def laws_heldIntS.l0g (y0 : List Int) (y1 : Int) (y2 : Int) : Option (Int) := lim (fun k => laws_heldIntS.l0 k y0 y1 y2)
theorem laws_heldIntS.l0L (y0 : List Int) (y1 : Int) (y2 : Int) : Lim (fun k => laws_heldIntS.l0 k y0 y1 y2) (laws_heldIntS.l0g y0 y1 y2) := Lim.of (fun k => (laws_heldIntS.mono_l k) y0 y1 y2)
theorem laws_heldIntS.l0e (x0 : List Int) (x1 : Int) (x5 : Int) : laws_heldIntS.l0g x0 x1 x5 = (if x5 < (x0.length : Int) then (if 0 ≤ x5 then (if (rd x0 x5) = x1 then (laws_heldIntS.l0g x0 (wrap64 (x1 + 1)) (wrap64 (x5 + 1))) else (some (-1))) else (none)) else (some x1)) := by
  refine Lim.round (laws_heldIntS.l0L x0 x1 x5) ?_
  show Lim (fun k => if x5 < (x0.length : Int) then (if 0 ≤ x5 then (if (rd x0 x5) = x1 then (laws_heldIntS.l0 k x0 (wrap64 (x1 + 1)) (wrap64 (x5 + 1))) else (some (-1))) else (none)) else (some x1)) _
  repeat' first | (with_reducible exact Lim.const _) | (with_reducible exact laws_heldIntS.l0L _ _ _) | (with_reducible refine Lim.ite ?_ ?_) | (with_reducible refine Lim.bind ?_ (fun _ => ?_)) | exact Lim.const _ | refine Lim.ite ?_ ?_ | refine Lim.bind ?_ (fun _ => ?_) | exact laws_heldIntS.l0L _ _ _
noncomputable def laws_heldIntS.g (l0 : List Int) (a1 : Int) : Option (Int) := lim (fun k => laws_heldIntS.f k l0 a1)
theorem laws_heldIntS.L (l0 : List Int) (a1 : Int) : Lim (fun k => laws_heldIntS.f k l0 a1) (laws_heldIntS.g l0 a1) := Lim.of (fun k => laws_heldIntS.mono l0 a1 k)
theorem laws_heldIntS.ge (l0 : List Int) (a1 : Int) : laws_heldIntS.g l0 a1 = (laws_heldIntS.l0g l0 a1 0) := by
  refine Lim.uniq (laws_heldIntS.L l0 a1) ?_
  show Lim (fun k => laws_heldIntS.l0 k l0 a1 0) _
  repeat' first | (with_reducible exact Lim.const _) | (with_reducible exact laws_heldIntS.l0L _ _ _) | (with_reducible refine Lim.ite ?_ ?_) | (with_reducible refine Lim.bind ?_ (fun _ => ?_)) | exact Lim.const _ | refine Lim.ite ?_ ?_ | refine Lim.bind ?_ (fun _ => ?_) | exact laws_heldIntS.l0L _ _ _
end Go.Proofs.Ytelmcjohkifeeaa.PA

namespace Go.Proofs.Ytelmcjohkifeeaa.PA
open Go.RowKit Go.Proofs.YtelmcjohkifeeaaW.PrintWords Go.Proofs.YtelmcjohkifeeaaW.PrintLast Go.Proofs.YtelmcjohkifeeaaW.PrintMore Go.Proofs.Ytelmcjohkifeeaa.Lim
set_option linter.unusedVariables false
set_option linter.unusedSimpArgs false
noncomputable def laws_heldSketch.g (l0_0 : List Int) (a0_1 : Int) (a1 : Int) : Option (Int) := lim (fun k => laws_heldSketch.f k l0_0 a0_1 a1)
theorem laws_heldSketch.L (l0_0 : List Int) (a0_1 : Int) (a1 : Int) : Lim (fun k => laws_heldSketch.f k l0_0 a0_1 a1) (laws_heldSketch.g l0_0 a0_1 a1) := Lim.of (fun k => laws_heldSketch.mono l0_0 a0_1 a1 k)
theorem laws_heldSketch.ge (l0_0 : List Int) (a0_1 : Int) (a1 : Int) : laws_heldSketch.g l0_0 a0_1 a1 = ((laws_heldIntS.g l0_0 a1).bind fun t445 => (if t445 < 0 then (some (-1)) else (some t445))) := by
  refine Lim.uniq (laws_heldSketch.L l0_0 a0_1 a1) ?_
  show Lim (fun k => (laws_heldIntS.f k l0_0 a1).bind fun t445 => (if t445 < 0 then (some (-1)) else (some t445))) _
  repeat' first | (with_reducible exact Lim.const _) | (with_reducible exact laws_heldIntS.L _ _) | (with_reducible refine Lim.ite ?_ ?_) | (with_reducible refine Lim.bind ?_ (fun _ => ?_)) | exact Lim.const _ | refine Lim.ite ?_ ?_ | refine Lim.bind ?_ (fun _ => ?_) | exact laws_heldIntS.L _ _
end Go.Proofs.Ytelmcjohkifeeaa.PA

namespace Go.Proofs.Ytelmcjohkifeeaa.PA
open Go.RowKit Go.Proofs.YtelmcjohkifeeaaW.PrintWords Go.Proofs.YtelmcjohkifeeaaW.PrintLast Go.Proofs.YtelmcjohkifeeaaW.PrintMore Go.Proofs.Ytelmcjohkifeeaa.Lim
set_option linter.unusedVariables false
set_option linter.unusedSimpArgs false
noncomputable def laws_toIntS.l0g (y0 : List Int) (y1 : List Int) (y2 : Int) : Option (List Int) := lim (fun k => laws_toIntS.l0 k y0 y1 y2)
theorem laws_toIntS.l0L (y0 : List Int) (y1 : List Int) (y2 : Int) : Lim (fun k => laws_toIntS.l0 k y0 y1 y2) (laws_toIntS.l0g y0 y1 y2) := Lim.of (fun k => (laws_toIntS.mono_l k) y0 y1 y2)
theorem laws_toIntS.l0e (x0 : List Int) (x3 : List Int) (x4 : Int) : laws_toIntS.l0g x0 x3 x4 = (if x4 < (x0.length : Int) then (if 0 ≤ x4 then (if x4 < (x3.length : Int) then (laws_toIntS.l0g x0 (x3.set (x4 : Int).toNat (rd x0 x4)) (wrap64 (x4 + 1))) else (none)) else (none)) else (some x3)) := by
  refine Lim.round (laws_toIntS.l0L x0 x3 x4) ?_
  show Lim (fun k => if x4 < (x0.length : Int) then (if 0 ≤ x4 then (if x4 < (x3.length : Int) then (laws_toIntS.l0 k x0 (x3.set (x4 : Int).toNat (rd x0 x4)) (wrap64 (x4 + 1))) else (none)) else (none)) else (some x3)) _
  repeat' first | (with_reducible exact Lim.const _) | (with_reducible exact laws_toIntS.l0L _ _ _) | (with_reducible refine Lim.ite ?_ ?_) | (with_reducible refine Lim.bind ?_ (fun _ => ?_)) | exact Lim.const _ | refine Lim.ite ?_ ?_ | refine Lim.bind ?_ (fun _ => ?_) | exact laws_toIntS.l0L _ _ _
noncomputable def laws_toIntS.g (l0 : List Int) : Option (List Int) := lim (fun k => laws_toIntS.f k l0)
theorem laws_toIntS.L (l0 : List Int) : Lim (fun k => laws_toIntS.f k l0) (laws_toIntS.g l0) := Lim.of (fun k => laws_toIntS.mono l0 k)
theorem laws_toIntS.ge (l0 : List Int) : laws_toIntS.g l0 = (if 0 ≤ (l0.length : Int) then (if ((l0.length : Int) : Int).toNat ≤ 35184372088832 then (laws_toIntS.l0g l0 (List.replicate ((l0.length : Int) : Int).toNat 0) 0) else (none)) else (none)) := by
  refine Lim.uniq (laws_toIntS.L l0) ?_
  show Lim (fun k => if 0 ≤ (l0.length : Int) then (if ((l0.length : Int) : Int).toNat ≤ 35184372088832 then (laws_toIntS.l0 k l0 (List.replicate ((l0.length : Int) : Int).toNat 0) 0) else (none)) else (none)) _
  repeat' first | (with_reducible exact Lim.const _) | (with_reducible exact laws_toIntS.l0L _ _ _) | (with_reducible refine Lim.ite ?_ ?_) | (with_reducible refine Lim.bind ?_ (fun _ => ?_)) | exact Lim.const _ | refine Lim.ite ?_ ?_ | refine Lim.bind ?_ (fun _ => ?_) | exact laws_toIntS.l0L _ _ _
end Go.Proofs.Ytelmcjohkifeeaa.PA

namespace Go.Proofs.Ytelmcjohkifeeaa.PA
open Go.RowKit Go.Proofs.YtelmcjohkifeeaaW.PrintWords Go.Proofs.YtelmcjohkifeeaaW.PrintLast Go.Proofs.YtelmcjohkifeeaaW.PrintMore Go.Proofs.Ytelmcjohkifeeaa.Lim
set_option linter.unusedVariables false
set_option linter.unusedSimpArgs false
noncomputable def laws_toSketch.g (l0_0 : List Int) (a0_1 : Int) : Option (List Int × Int) := lim (fun k => laws_toSketch.f k l0_0 a0_1)
theorem laws_toSketch.L (l0_0 : List Int) (a0_1 : Int) : Lim (fun k => laws_toSketch.f k l0_0 a0_1) (laws_toSketch.g l0_0 a0_1) := Lim.of (fun k => laws_toSketch.mono l0_0 a0_1 k)
theorem laws_toSketch.ge (l0_0 : List Int) (a0_1 : Int) : laws_toSketch.g l0_0 a0_1 = ((laws_toIntS.g l0_0).bind fun t213 => (some (t213, a0_1))) := by
  refine Lim.uniq (laws_toSketch.L l0_0 a0_1) ?_
  show Lim (fun k => (laws_toIntS.f k l0_0).bind fun t213 => (some (t213, a0_1))) _
  repeat' first | (with_reducible exact Lim.const _) | (with_reducible exact laws_toIntS.L _) | (with_reducible refine Lim.ite ?_ ?_) | (with_reducible refine Lim.bind ?_ (fun _ => ?_)) | exact Lim.const _ | refine Lim.ite ?_ ?_ | refine Lim.bind ?_ (fun _ => ?_) | exact laws_toIntS.L _
end Go.Proofs.Ytelmcjohkifeeaa.PA

namespace Go.Proofs.Ytelmcjohkifeeaa.PA
open Go.RowKit Go.Proofs.YtelmcjohkifeeaaW.PrintWords Go.Proofs.YtelmcjohkifeeaaW.PrintLast Go.Proofs.YtelmcjohkifeeaaW.PrintMore Go.Proofs.Ytelmcjohkifeeaa.Lim
set_option linter.unusedVariables false
set_option linter.unusedSimpArgs false
noncomputable def impl_Hash.l0g (y0 : Int) (y1 : List Int) (y2 : Int) (y3 : Int) : Option (Int) := lim (fun k => impl_Hash.l0 k y0 y1 y2 y3)
theorem impl_Hash.l0L (y0 : Int) (y1 : List Int) (y2 : Int) (y3 : Int) : Lim (fun k => impl_Hash.l0 k y0 y1 y2 y3) (impl_Hash.l0g y0 y1 y2 y3) := Lim.of (fun k => (impl_Hash.mono_l k) y0 y1 y2 y3)
theorem impl_Hash.l0e (x3 : Int) (x6 : List Int) (x7 : Int) (x8 : Int) : impl_Hash.l0g x3 x6 x7 x8 = (if x8 < x7 then (if 0 ≤ x8 then (if x8 < (x6.length : Int) then ((impl_Mod.f (rd x6 x8) 2147483647).bind fun t223 => (impl_Hash.l0g (Int.tmod (wrap64 ((wrap64 ((wrap64 (x3 * 1000003)) + t223)) + 19)) 2147483647) x6 x7 (wrap64 (x8 + 1)))) else (none)) else (none)) else (some x3)) := by
  refine Lim.round (impl_Hash.l0L x3 x6 x7 x8) ?_
  show Lim (fun k => if x8 < x7 then (if 0 ≤ x8 then (if x8 < (x6.length : Int) then ((impl_Mod.f (rd x6 x8) 2147483647).bind fun t223 => (impl_Hash.l0 k (Int.tmod (wrap64 ((wrap64 ((wrap64 (x3 * 1000003)) + t223)) + 19)) 2147483647) x6 x7 (wrap64 (x8 + 1)))) else (none)) else (none)) else (some x3)) _
  repeat' first | (with_reducible exact Lim.const _) | (with_reducible exact impl_Hash.l0L _ _ _ _) | (with_reducible refine Lim.ite ?_ ?_) | (with_reducible refine Lim.bind ?_ (fun _ => ?_)) | exact Lim.const _ | refine Lim.ite ?_ ?_ | refine Lim.bind ?_ (fun _ => ?_) | exact impl_Hash.l0L _ _ _ _
noncomputable def impl_Hash.g (l0 : List Int) : Option (Int) := lim (fun k => impl_Hash.f k l0)
theorem impl_Hash.L (l0 : List Int) : Lim (fun k => impl_Hash.f k l0) (impl_Hash.g l0) := Lim.of (fun k => impl_Hash.mono l0 k)
theorem impl_Hash.ge (l0 : List Int) : impl_Hash.g l0 = (impl_Hash.l0g 7 l0 (l0.length : Int) 0) := by
  refine Lim.uniq (impl_Hash.L l0) ?_
  show Lim (fun k => impl_Hash.l0 k 7 l0 (l0.length : Int) 0) _
  repeat' first | (with_reducible exact Lim.const _) | (with_reducible exact impl_Hash.l0L _ _ _ _) | (with_reducible refine Lim.ite ?_ ?_) | (with_reducible refine Lim.bind ?_ (fun _ => ?_)) | exact Lim.const _ | refine Lim.ite ?_ ?_ | refine Lim.bind ?_ (fun _ => ?_) | exact impl_Hash.l0L _ _ _ _
end Go.Proofs.Ytelmcjohkifeeaa.PA

namespace Go.Proofs.Ytelmcjohkifeeaa.PA
open Go.RowKit Go.Proofs.YtelmcjohkifeeaaW.PrintWords Go.Proofs.YtelmcjohkifeeaaW.PrintLast Go.Proofs.YtelmcjohkifeeaaW.PrintMore Go.Proofs.Ytelmcjohkifeeaa.Lim
set_option linter.unusedVariables false
set_option linter.unusedSimpArgs false
noncomputable def impl_HashText.l0g (y0 : ByteArray) (y1 : List Int) (y2 : Int) (y3 : Int) : Option (Int) := lim (fun k => impl_HashText.l0 k y0 y1 y2 y3)
theorem impl_HashText.l0L (y0 : ByteArray) (y1 : List Int) (y2 : Int) (y3 : Int) : Lim (fun k => impl_HashText.l0 k y0 y1 y2 y3) (impl_HashText.l0g y0 y1 y2 y3) := Lim.of (fun k => (impl_HashText.mono_l k) y0 y1 y2 y3)
theorem impl_HashText.l0e (x1 : ByteArray) (x5 : List Int) (x10 : Int) (x11 : Int) : impl_HashText.l0g x1 x5 x10 x11 = (if x11 < x10 then (if 0 ≤ x11 then (if x11 < (x1.size : Int) then (if x5.length < 17592186044416 then (impl_HashText.l0g x1 (x5 ++ [wrap64 (bt x1 x11)]) x10 (wrap64 (x11 + 1))) else (none)) else (none)) else (none)) else ((impl_Hash.g x5).bind fun t230 => (some t230))) := by
  refine Lim.round (impl_HashText.l0L x1 x5 x10 x11) ?_
  show Lim (fun k => if x11 < x10 then (if 0 ≤ x11 then (if x11 < (x1.size : Int) then (if x5.length < 17592186044416 then (impl_HashText.l0 k x1 (x5 ++ [wrap64 (bt x1 x11)]) x10 (wrap64 (x11 + 1))) else (none)) else (none)) else (none)) else ((impl_Hash.f k x5).bind fun t230 => (some t230))) _
  repeat' first | (with_reducible exact Lim.const _) | (with_reducible exact impl_HashText.l0L _ _ _ _) | (with_reducible exact impl_Hash.L _) | (with_reducible refine Lim.ite ?_ ?_) | (with_reducible refine Lim.bind ?_ (fun _ => ?_)) | exact Lim.const _ | refine Lim.ite ?_ ?_ | refine Lim.bind ?_ (fun _ => ?_) | exact impl_HashText.l0L _ _ _ _ | exact impl_Hash.L _
noncomputable def impl_HashText.g (a0 : Int) (a1 : ByteArray) : Option (Int) := lim (fun k => impl_HashText.f k a0 a1)
theorem impl_HashText.L (a0 : Int) (a1 : ByteArray) : Lim (fun k => impl_HashText.f k a0 a1) (impl_HashText.g a0 a1) := Lim.of (fun k => impl_HashText.mono a0 a1 k)
theorem impl_HashText.ge (a0 : Int) (a1 : ByteArray) : impl_HashText.g a0 a1 = (impl_HashText.l0g a1 (([a0] : List Int)) (a1.size : Int) 0) := by
  refine Lim.uniq (impl_HashText.L a0 a1) ?_
  show Lim (fun k => impl_HashText.l0 k a1 (([a0] : List Int)) (a1.size : Int) 0) _
  repeat' first | (with_reducible exact Lim.const _) | (with_reducible exact impl_HashText.l0L _ _ _ _) | (with_reducible exact impl_Hash.L _) | (with_reducible refine Lim.ite ?_ ?_) | (with_reducible refine Lim.bind ?_ (fun _ => ?_)) | exact Lim.const _ | refine Lim.ite ?_ ?_ | refine Lim.bind ?_ (fun _ => ?_) | exact impl_HashText.l0L _ _ _ _ | exact impl_Hash.L _
end Go.Proofs.Ytelmcjohkifeeaa.PA

namespace Go.Proofs.Ytelmcjohkifeeaa.PA
open Go.RowKit Go.Proofs.YtelmcjohkifeeaaW.PrintWords Go.Proofs.YtelmcjohkifeeaaW.PrintLast Go.Proofs.YtelmcjohkifeeaaW.PrintMore Go.Proofs.Ytelmcjohkifeeaa.Lim
set_option linter.unusedVariables false
set_option linter.unusedSimpArgs false
noncomputable def impl_placeIn.g (a0 : Int) (a1 : ByteArray) : Option (Int) := lim (fun k => impl_placeIn.f k a0 a1)
theorem impl_placeIn.L (a0 : Int) (a1 : ByteArray) : Lim (fun k => impl_placeIn.f k a0 a1) (impl_placeIn.g a0 a1) := Lim.of (fun k => impl_placeIn.mono a0 a1 k)
theorem impl_placeIn.ge (a0 : Int) (a1 : ByteArray) : impl_placeIn.g a0 a1 = ((impl_HashText.g a0 a1).bind fun t231 => (some (wrap64 ((wrap64 (a0 * 16)) + (Int.tmod t231 16))))) := by
  refine Lim.uniq (impl_placeIn.L a0 a1) ?_
  show Lim (fun k => (impl_HashText.f k a0 a1).bind fun t231 => (some (wrap64 ((wrap64 (a0 * 16)) + (Int.tmod t231 16))))) _
  repeat' first | (with_reducible exact Lim.const _) | (with_reducible exact impl_HashText.L _ _) | (with_reducible refine Lim.ite ?_ ?_) | (with_reducible refine Lim.bind ?_ (fun _ => ?_)) | exact Lim.const _ | refine Lim.ite ?_ ?_ | refine Lim.bind ?_ (fun _ => ?_) | exact impl_HashText.L _ _
end Go.Proofs.Ytelmcjohkifeeaa.PA

namespace Go.Proofs.Ytelmcjohkifeeaa.PA
open Go.RowKit Go.Proofs.YtelmcjohkifeeaaW.PrintWords Go.Proofs.YtelmcjohkifeeaaW.PrintLast Go.Proofs.YtelmcjohkifeeaaW.PrintMore Go.Proofs.Ytelmcjohkifeeaa.Lim
set_option linter.unusedVariables false
set_option linter.unusedSimpArgs false
noncomputable def impl_IsSketch.l0g (y0 : List Int) (y1 : Int) (y2 : Int) (y3 : List Int) (y4 : Int) : Option (Bool) := lim (fun k => impl_IsSketch.l0 k y0 y1 y2 y3 y4)
theorem impl_IsSketch.l0L (y0 : List Int) (y1 : Int) (y2 : Int) (y3 : List Int) (y4 : Int) : Lim (fun k => impl_IsSketch.l0 k y0 y1 y2 y3 y4) (impl_IsSketch.l0g y0 y1 y2 y3 y4) := Lim.of (fun k => (impl_IsSketch.mono_l k) y0 y1 y2 y3 y4)
theorem impl_IsSketch.l0e (x6 : List Int) (x7 : Int) (x8 : Int) (x217000 : List Int) (x217001 : Int) : impl_IsSketch.l0g x6 x7 x8 x217000 x217001 = (if x8 < x7 then (if 0 ≤ x8 then (if x8 < (x6.length : Int) then ((impl_inRange.f (rd x6 x8) 0 64).bind fun t218 => (if t218 = true then (impl_IsSketch.l0g x6 x7 (wrap64 (x8 + 1)) x217000 x217001) else (some false))) else (none)) else (none)) else (if (x217000.length : Int) = 0 then ((impl_inRange.f x217001 0 63).bind fun t219 => (some t219)) else (if (x217000.length : Int) = 64 then ((impl_inRange.f x217001 0 63).bind fun t220 => (some t220)) else (some false)))) := by
  refine Lim.round (impl_IsSketch.l0L x6 x7 x8 x217000 x217001) ?_
  show Lim (fun k => if x8 < x7 then (if 0 ≤ x8 then (if x8 < (x6.length : Int) then ((impl_inRange.f (rd x6 x8) 0 64).bind fun t218 => (if t218 = true then (impl_IsSketch.l0 k x6 x7 (wrap64 (x8 + 1)) x217000 x217001) else (some false))) else (none)) else (none)) else (if (x217000.length : Int) = 0 then ((impl_inRange.f x217001 0 63).bind fun t219 => (some t219)) else (if (x217000.length : Int) = 64 then ((impl_inRange.f x217001 0 63).bind fun t220 => (some t220)) else (some false)))) _
  repeat' first | (with_reducible exact Lim.const _) | (with_reducible exact impl_IsSketch.l0L _ _ _ _ _) | (with_reducible refine Lim.ite ?_ ?_) | (with_reducible refine Lim.bind ?_ (fun _ => ?_)) | exact Lim.const _ | refine Lim.ite ?_ ?_ | refine Lim.bind ?_ (fun _ => ?_) | exact impl_IsSketch.l0L _ _ _ _ _
noncomputable def impl_IsSketch.g (l0_0 : List Int) (a0_1 : Int) : Option (Bool) := lim (fun k => impl_IsSketch.f k l0_0 a0_1)
theorem impl_IsSketch.L (l0_0 : List Int) (a0_1 : Int) : Lim (fun k => impl_IsSketch.f k l0_0 a0_1) (impl_IsSketch.g l0_0 a0_1) := Lim.of (fun k => impl_IsSketch.mono l0_0 a0_1 k)
theorem impl_IsSketch.ge (l0_0 : List Int) (a0_1 : Int) : impl_IsSketch.g l0_0 a0_1 = (impl_IsSketch.l0g l0_0 (l0_0.length : Int) 0 l0_0 a0_1) := by
  refine Lim.uniq (impl_IsSketch.L l0_0 a0_1) ?_
  show Lim (fun k => impl_IsSketch.l0 k l0_0 (l0_0.length : Int) 0 l0_0 a0_1) _
  repeat' first | (with_reducible exact Lim.const _) | (with_reducible exact impl_IsSketch.l0L _ _ _ _ _) | (with_reducible refine Lim.ite ?_ ?_) | (with_reducible refine Lim.bind ?_ (fun _ => ?_)) | exact Lim.const _ | refine Lim.ite ?_ ?_ | refine Lim.bind ?_ (fun _ => ?_) | exact impl_IsSketch.l0L _ _ _ _ _
end Go.Proofs.Ytelmcjohkifeeaa.PA

namespace Go.Proofs.Ytelmcjohkifeeaa.PA
open Go.RowKit Go.Proofs.YtelmcjohkifeeaaW.PrintWords Go.Proofs.YtelmcjohkifeeaaW.PrintLast Go.Proofs.YtelmcjohkifeeaaW.PrintMore Go.Proofs.Ytelmcjohkifeeaa.Lim
set_option linter.unusedVariables false
set_option linter.unusedSimpArgs false
noncomputable def impl_TouchKey.j0g (y0 : ByteArray) (y1 : List Int) (y2 : Int) : Option (List Int × Int) := lim (fun k => impl_TouchKey.j0 k y0 y1 y2)
noncomputable def impl_TouchKey.l0g (y0 : ByteArray) (y1 : Int) (y2 : List Int) (y3 : Int) : Option (List Int × Int) := lim (fun k => impl_TouchKey.l0 k y0 y1 y2 y3)
noncomputable def impl_TouchKey.l1g (y0 : Int) (y1 : Int) (y2 : List Int) (y3 : Int) : Option (List Int × Int) := lim (fun k => impl_TouchKey.l1 k y0 y1 y2 y3)
theorem impl_TouchKey.j0L (y0 : ByteArray) (y1 : List Int) (y2 : Int) : Lim (fun k => impl_TouchKey.j0 k y0 y1 y2) (impl_TouchKey.j0g y0 y1 y2) := Lim.of (fun k => (impl_TouchKey.mono_l k).1 y0 y1 y2)
theorem impl_TouchKey.l0L (y0 : ByteArray) (y1 : Int) (y2 : List Int) (y3 : Int) : Lim (fun k => impl_TouchKey.l0 k y0 y1 y2 y3) (impl_TouchKey.l0g y0 y1 y2 y3) := Lim.of (fun k => (impl_TouchKey.mono_l k).2.1 y0 y1 y2 y3)
theorem impl_TouchKey.l1L (y0 : Int) (y1 : Int) (y2 : List Int) (y3 : Int) : Lim (fun k => impl_TouchKey.l1 k y0 y1 y2 y3) (impl_TouchKey.l1g y0 y1 y2 y3) := Lim.of (fun k => (impl_TouchKey.mono_l k).2.2 y0 y1 y2 y3)
theorem impl_TouchKey.j0e (x1 : ByteArray) (x430000 : List Int) (x430001 : Int) : impl_TouchKey.j0g x1 x430000 x430001 = (impl_TouchKey.l0g x1 0 x430000 x430001) := by
  refine Lim.round (impl_TouchKey.j0L x1 x430000 x430001) ?_
  show Lim (fun k => impl_TouchKey.l0 k x1 0 x430000 x430001) _
  repeat' first | (with_reducible exact Lim.const _) | (with_reducible exact impl_TouchKey.j0L _ _ _) | (with_reducible exact impl_TouchKey.l0L _ _ _ _) | (with_reducible exact impl_TouchKey.l1L _ _ _ _) | (with_reducible exact impl_placeIn.L _ _) | (with_reducible exact impl_IsSketch.L _ _) | (with_reducible refine Lim.ite ?_ ?_) | (with_reducible refine Lim.bind ?_ (fun _ => ?_)) | exact Lim.const _ | refine Lim.ite ?_ ?_ | refine Lim.bind ?_ (fun _ => ?_) | exact impl_TouchKey.j0L _ _ _ | exact impl_TouchKey.l0L _ _ _ _ | exact impl_TouchKey.l1L _ _ _ _ | exact impl_placeIn.L _ _ | exact impl_IsSketch.L _ _
theorem impl_TouchKey.l0e (x1 : ByteArray) (x24 : Int) (x430000 : List Int) (x430001 : Int) : impl_TouchKey.l0g x1 x24 x430000 x430001 = (if x24 < 4 then ((impl_placeIn.g x24 x1).bind fun t434 => (if 0 ≤ t434 then (if t434 < (x430000.length : Int) then (impl_TouchKey.l0g x1 (wrap64 (x24 + 1)) (x430000.set (t434 : Int).toNat (wrap64 ((rd x430000 t434) + 1))) x430001) else (none)) else (none))) else (if (wrap64 (x430001 + 1)) = 64 then (impl_TouchKey.l1g (x430000.length : Int) 0 x430000 32) else (some (x430000, wrap64 (x430001 + 1))))) := by
  refine Lim.round (impl_TouchKey.l0L x1 x24 x430000 x430001) ?_
  show Lim (fun k => if x24 < 4 then ((impl_placeIn.f k x24 x1).bind fun t434 => (if 0 ≤ t434 then (if t434 < (x430000.length : Int) then (impl_TouchKey.l0 k x1 (wrap64 (x24 + 1)) (x430000.set (t434 : Int).toNat (wrap64 ((rd x430000 t434) + 1))) x430001) else (none)) else (none))) else (if (wrap64 (x430001 + 1)) = 64 then (impl_TouchKey.l1 k (x430000.length : Int) 0 x430000 32) else (some (x430000, wrap64 (x430001 + 1))))) _
  repeat' first | (with_reducible exact Lim.const _) | (with_reducible exact impl_TouchKey.j0L _ _ _) | (with_reducible exact impl_TouchKey.l0L _ _ _ _) | (with_reducible exact impl_TouchKey.l1L _ _ _ _) | (with_reducible exact impl_placeIn.L _ _) | (with_reducible exact impl_IsSketch.L _ _) | (with_reducible refine Lim.ite ?_ ?_) | (with_reducible refine Lim.bind ?_ (fun _ => ?_)) | exact Lim.const _ | refine Lim.ite ?_ ?_ | refine Lim.bind ?_ (fun _ => ?_) | exact impl_TouchKey.j0L _ _ _ | exact impl_TouchKey.l0L _ _ _ _ | exact impl_TouchKey.l1L _ _ _ _ | exact impl_placeIn.L _ _ | exact impl_IsSketch.L _ _
theorem impl_TouchKey.l1e (x47 : Int) (x48 : Int) (x430000 : List Int) (x430001 : Int) : impl_TouchKey.l1g x47 x48 x430000 x430001 = (if x48 < x47 then (if 0 ≤ x48 then (if x48 < (x430000.length : Int) then (impl_TouchKey.l1g x47 (wrap64 (x48 + 1)) (x430000.set (x48 : Int).toNat (wrap64 (Int.tdiv (rd x430000 x48) 2))) x430001) else (none)) else (none)) else (some (x430000, x430001))) := by
  refine Lim.round (impl_TouchKey.l1L x47 x48 x430000 x430001) ?_
  show Lim (fun k => if x48 < x47 then (if 0 ≤ x48 then (if x48 < (x430000.length : Int) then (impl_TouchKey.l1 k x47 (wrap64 (x48 + 1)) (x430000.set (x48 : Int).toNat (wrap64 (Int.tdiv (rd x430000 x48) 2))) x430001) else (none)) else (none)) else (some (x430000, x430001))) _
  repeat' first | (with_reducible exact Lim.const _) | (with_reducible exact impl_TouchKey.j0L _ _ _) | (with_reducible exact impl_TouchKey.l0L _ _ _ _) | (with_reducible exact impl_TouchKey.l1L _ _ _ _) | (with_reducible exact impl_placeIn.L _ _) | (with_reducible exact impl_IsSketch.L _ _) | (with_reducible refine Lim.ite ?_ ?_) | (with_reducible refine Lim.bind ?_ (fun _ => ?_)) | exact Lim.const _ | refine Lim.ite ?_ ?_ | refine Lim.bind ?_ (fun _ => ?_) | exact impl_TouchKey.j0L _ _ _ | exact impl_TouchKey.l0L _ _ _ _ | exact impl_TouchKey.l1L _ _ _ _ | exact impl_placeIn.L _ _ | exact impl_IsSketch.L _ _
noncomputable def impl_TouchKey.g (l0_0 : List Int) (a0_1 : Int) (a1 : ByteArray) : Option (List Int × Int) := lim (fun k => impl_TouchKey.f k l0_0 a0_1 a1)
theorem impl_TouchKey.L (l0_0 : List Int) (a0_1 : Int) (a1 : ByteArray) : Lim (fun k => impl_TouchKey.f k l0_0 a0_1 a1) (impl_TouchKey.g l0_0 a0_1 a1) := Lim.of (fun k => impl_TouchKey.mono l0_0 a0_1 a1 k)
theorem impl_TouchKey.ge (l0_0 : List Int) (a0_1 : Int) (a1 : ByteArray) : impl_TouchKey.g l0_0 a0_1 a1 = ((slices_Clone_int_int.f l0_0).bind fun t426 => ((impl_IsSketch.g l0_0 a0_1).bind fun t430 => (if t430 = true then (if (t426.length : Int) = 0 then (if 64 ≤ 35184372088832 then (impl_TouchKey.j0g a1 (List.replicate 64 0) a0_1) else (none)) else (impl_TouchKey.j0g a1 t426 a0_1)) else (some (t426, a0_1))))) := by
  refine Lim.uniq (impl_TouchKey.L l0_0 a0_1 a1) ?_
  show Lim (fun k => (slices_Clone_int_int.f l0_0).bind fun t426 => ((impl_IsSketch.f k l0_0 a0_1).bind fun t430 => (if t430 = true then (if (t426.length : Int) = 0 then (if 64 ≤ 35184372088832 then (impl_TouchKey.j0 k a1 (List.replicate 64 0) a0_1) else (none)) else (impl_TouchKey.j0 k a1 t426 a0_1)) else (some (t426, a0_1))))) _
  repeat' first | (with_reducible exact Lim.const _) | (with_reducible exact impl_TouchKey.j0L _ _ _) | (with_reducible exact impl_TouchKey.l0L _ _ _ _) | (with_reducible exact impl_TouchKey.l1L _ _ _ _) | (with_reducible exact impl_placeIn.L _ _) | (with_reducible exact impl_IsSketch.L _ _) | (with_reducible refine Lim.ite ?_ ?_) | (with_reducible refine Lim.bind ?_ (fun _ => ?_)) | exact Lim.const _ | refine Lim.ite ?_ ?_ | refine Lim.bind ?_ (fun _ => ?_) | exact impl_TouchKey.j0L _ _ _ | exact impl_TouchKey.l0L _ _ _ _ | exact impl_TouchKey.l1L _ _ _ _ | exact impl_placeIn.L _ _ | exact impl_IsSketch.L _ _
end Go.Proofs.Ytelmcjohkifeeaa.PA

namespace Go.Proofs.Ytelmcjohkifeeaa.PA
open Go.RowKit Go.Proofs.YtelmcjohkifeeaaW.PrintWords Go.Proofs.YtelmcjohkifeeaaW.PrintLast Go.Proofs.YtelmcjohkifeeaaW.PrintMore Go.Proofs.Ytelmcjohkifeeaa.Lim
set_option linter.unusedVariables false
set_option linter.unusedSimpArgs false
noncomputable def laws_eqIntS.l0g (y0 : List Int) (y1 : List Int) (y2 : Int) : Option (Bool) := lim (fun k => laws_eqIntS.l0 k y0 y1 y2)
theorem laws_eqIntS.l0L (y0 : List Int) (y1 : List Int) (y2 : Int) : Lim (fun k => laws_eqIntS.l0 k y0 y1 y2) (laws_eqIntS.l0g y0 y1 y2) := Lim.of (fun k => (laws_eqIntS.mono_l k) y0 y1 y2)
theorem laws_eqIntS.l0e (x0 : List Int) (x1 : List Int) (x5 : Int) : laws_eqIntS.l0g x0 x1 x5 = (if x5 < (x0.length : Int) then (if 0 ≤ x5 then (if x5 < (x1.length : Int) then (if (rd x0 x5) = (rd x1 x5) then (laws_eqIntS.l0g x0 x1 (wrap64 (x5 + 1))) else (some false)) else (none)) else (none)) else (some true)) := by
  refine Lim.round (laws_eqIntS.l0L x0 x1 x5) ?_
  show Lim (fun k => if x5 < (x0.length : Int) then (if 0 ≤ x5 then (if x5 < (x1.length : Int) then (if (rd x0 x5) = (rd x1 x5) then (laws_eqIntS.l0 k x0 x1 (wrap64 (x5 + 1))) else (some false)) else (none)) else (none)) else (some true)) _
  repeat' first | (with_reducible exact Lim.const _) | (with_reducible exact laws_eqIntS.l0L _ _ _) | (with_reducible refine Lim.ite ?_ ?_) | (with_reducible refine Lim.bind ?_ (fun _ => ?_)) | exact Lim.const _ | refine Lim.ite ?_ ?_ | refine Lim.bind ?_ (fun _ => ?_) | exact laws_eqIntS.l0L _ _ _
noncomputable def laws_eqIntS.g (l0 : List Int) (l1 : List Int) : Option (Bool) := lim (fun k => laws_eqIntS.f k l0 l1)
theorem laws_eqIntS.L (l0 : List Int) (l1 : List Int) : Lim (fun k => laws_eqIntS.f k l0 l1) (laws_eqIntS.g l0 l1) := Lim.of (fun k => laws_eqIntS.mono l0 l1 k)
theorem laws_eqIntS.ge (l0 : List Int) (l1 : List Int) : laws_eqIntS.g l0 l1 = (if (l0.length : Int) = (l1.length : Int) then (laws_eqIntS.l0g l0 l1 0) else (some false)) := by
  refine Lim.uniq (laws_eqIntS.L l0 l1) ?_
  show Lim (fun k => if (l0.length : Int) = (l1.length : Int) then (laws_eqIntS.l0 k l0 l1 0) else (some false)) _
  repeat' first | (with_reducible exact Lim.const _) | (with_reducible exact laws_eqIntS.l0L _ _ _) | (with_reducible refine Lim.ite ?_ ?_) | (with_reducible refine Lim.bind ?_ (fun _ => ?_)) | exact Lim.const _ | refine Lim.ite ?_ ?_ | refine Lim.bind ?_ (fun _ => ?_) | exact laws_eqIntS.l0L _ _ _
end Go.Proofs.Ytelmcjohkifeeaa.PA

namespace Go.Proofs.Ytelmcjohkifeeaa.PA
open Go.RowKit Go.Proofs.YtelmcjohkifeeaaW.PrintWords Go.Proofs.YtelmcjohkifeeaaW.PrintLast Go.Proofs.YtelmcjohkifeeaaW.PrintMore Go.Proofs.Ytelmcjohkifeeaa.Lim
set_option linter.unusedVariables false
set_option linter.unusedSimpArgs false
noncomputable def laws_eqSketch.g (l0_0 : List Int) (a0_1 : Int) (l1_0 : List Int) (a1_1 : Int) : Option (Bool) := lim (fun k => laws_eqSketch.f k l0_0 a0_1 l1_0 a1_1)
theorem laws_eqSketch.L (l0_0 : List Int) (a0_1 : Int) (l1_0 : List Int) (a1_1 : Int) : Lim (fun k => laws_eqSketch.f k l0_0 a0_1 l1_0 a1_1) (laws_eqSketch.g l0_0 a0_1 l1_0 a1_1) := Lim.of (fun k => laws_eqSketch.mono l0_0 a0_1 l1_0 a1_1 k)
theorem laws_eqSketch.ge (l0_0 : List Int) (a0_1 : Int) (l1_0 : List Int) (a1_1 : Int) : laws_eqSketch.g l0_0 a0_1 l1_0 a1_1 = ((laws_eqIntS.g l0_0 l1_0).bind fun t240 => (if t240 = true then (if a0_1 = a1_1 then (some true) else (some false)) else (some false))) := by
  refine Lim.uniq (laws_eqSketch.L l0_0 a0_1 l1_0 a1_1) ?_
  show Lim (fun k => (laws_eqIntS.f k l0_0 l1_0).bind fun t240 => (if t240 = true then (if a0_1 = a1_1 then (some true) else (some false)) else (some false))) _
  repeat' first | (with_reducible exact Lim.const _) | (with_reducible exact laws_eqIntS.L _ _) | (with_reducible refine Lim.ite ?_ ?_) | (with_reducible refine Lim.bind ?_ (fun _ => ?_)) | exact Lim.const _ | refine Lim.ite ?_ ?_ | refine Lim.bind ?_ (fun _ => ?_) | exact laws_eqIntS.L _ _
end Go.Proofs.Ytelmcjohkifeeaa.PA

namespace Go.Proofs.Ytelmcjohkifeeaa.PA
open Go.RowKit Go.Proofs.YtelmcjohkifeeaaW.PrintWords Go.Proofs.YtelmcjohkifeeaaW.PrintLast Go.Proofs.YtelmcjohkifeeaaW.PrintMore Go.Proofs.Ytelmcjohkifeeaa.Lim
set_option linter.unusedVariables false
set_option linter.unusedSimpArgs false
noncomputable def spec_Hash.l0g (y0 : List Int) (y1 : Int) (y2 : Int) : Option (Int) := lim (fun k => spec_Hash.l0 k y0 y1 y2)
theorem spec_Hash.l0L (y0 : List Int) (y1 : Int) (y2 : Int) : Lim (fun k => spec_Hash.l0 k y0 y1 y2) (spec_Hash.l0g y0 y1 y2) := Lim.of (fun k => (spec_Hash.mono_l k) y0 y1 y2)
theorem spec_Hash.l0e (x0 : List Int) (x3 : Int) (x4 : Int) : spec_Hash.l0g x0 x3 x4 = (if x4 < (x0.length : Int) then (if 0 ≤ x4 then ((spec_Mod.f (rd x0 x4) 2147483647).bind fun t192 => (spec_Hash.l0g x0 (Int.tmod (wrap64 ((wrap64 ((wrap64 (x3 * 1000003)) + t192)) + 19)) 2147483647) (wrap64 (x4 + 1)))) else (none)) else (some x3)) := by
  refine Lim.round (spec_Hash.l0L x0 x3 x4) ?_
  show Lim (fun k => if x4 < (x0.length : Int) then (if 0 ≤ x4 then ((spec_Mod.f (rd x0 x4) 2147483647).bind fun t192 => (spec_Hash.l0 k x0 (Int.tmod (wrap64 ((wrap64 ((wrap64 (x3 * 1000003)) + t192)) + 19)) 2147483647) (wrap64 (x4 + 1)))) else (none)) else (some x3)) _
  repeat' first | (with_reducible exact Lim.const _) | (with_reducible exact spec_Hash.l0L _ _ _) | (with_reducible refine Lim.ite ?_ ?_) | (with_reducible refine Lim.bind ?_ (fun _ => ?_)) | exact Lim.const _ | refine Lim.ite ?_ ?_ | refine Lim.bind ?_ (fun _ => ?_) | exact spec_Hash.l0L _ _ _
noncomputable def spec_Hash.g (l0 : List Int) : Option (Int) := lim (fun k => spec_Hash.f k l0)
theorem spec_Hash.L (l0 : List Int) : Lim (fun k => spec_Hash.f k l0) (spec_Hash.g l0) := Lim.of (fun k => spec_Hash.mono l0 k)
theorem spec_Hash.ge (l0 : List Int) : spec_Hash.g l0 = (spec_Hash.l0g l0 7 0) := by
  refine Lim.uniq (spec_Hash.L l0) ?_
  show Lim (fun k => spec_Hash.l0 k l0 7 0) _
  repeat' first | (with_reducible exact Lim.const _) | (with_reducible exact spec_Hash.l0L _ _ _) | (with_reducible refine Lim.ite ?_ ?_) | (with_reducible refine Lim.bind ?_ (fun _ => ?_)) | exact Lim.const _ | refine Lim.ite ?_ ?_ | refine Lim.bind ?_ (fun _ => ?_) | exact spec_Hash.l0L _ _ _
end Go.Proofs.Ytelmcjohkifeeaa.PA

namespace Go.Proofs.Ytelmcjohkifeeaa.PA
open Go.RowKit Go.Proofs.YtelmcjohkifeeaaW.PrintWords Go.Proofs.YtelmcjohkifeeaaW.PrintLast Go.Proofs.YtelmcjohkifeeaaW.PrintMore Go.Proofs.Ytelmcjohkifeeaa.Lim
set_option linter.unusedVariables false
set_option linter.unusedSimpArgs false
noncomputable def spec_HashText.l0g (y0 : ByteArray) (y1 : List Int) (y2 : Int) : Option (Int) := lim (fun k => spec_HashText.l0 k y0 y1 y2)
theorem spec_HashText.l0L (y0 : ByteArray) (y1 : List Int) (y2 : Int) : Lim (fun k => spec_HashText.l0 k y0 y1 y2) (spec_HashText.l0g y0 y1 y2) := Lim.of (fun k => (spec_HashText.mono_l k) y0 y1 y2)
theorem spec_HashText.l0e (x1 : ByteArray) (x5 : List Int) (x6 : Int) : spec_HashText.l0g x1 x5 x6 = (if x6 < (x1.size : Int) then (if 0 ≤ x6 then (if x5.length < 17592186044416 then (spec_HashText.l0g x1 (x5 ++ [wrap64 (bt x1 x6)]) (wrap64 (x6 + 1))) else (none)) else (none)) else ((spec_Hash.g x5).bind fun t199 => (some t199))) := by
  refine Lim.round (spec_HashText.l0L x1 x5 x6) ?_
  show Lim (fun k => if x6 < (x1.size : Int) then (if 0 ≤ x6 then (if x5.length < 17592186044416 then (spec_HashText.l0 k x1 (x5 ++ [wrap64 (bt x1 x6)]) (wrap64 (x6 + 1))) else (none)) else (none)) else ((spec_Hash.f k x5).bind fun t199 => (some t199))) _
  repeat' first | (with_reducible exact Lim.const _) | (with_reducible exact spec_HashText.l0L _ _ _) | (with_reducible exact spec_Hash.L _) | (with_reducible refine Lim.ite ?_ ?_) | (with_reducible refine Lim.bind ?_ (fun _ => ?_)) | exact Lim.const _ | refine Lim.ite ?_ ?_ | refine Lim.bind ?_ (fun _ => ?_) | exact spec_HashText.l0L _ _ _ | exact spec_Hash.L _
noncomputable def spec_HashText.g (a0 : Int) (a1 : ByteArray) : Option (Int) := lim (fun k => spec_HashText.f k a0 a1)
theorem spec_HashText.L (a0 : Int) (a1 : ByteArray) : Lim (fun k => spec_HashText.f k a0 a1) (spec_HashText.g a0 a1) := Lim.of (fun k => spec_HashText.mono a0 a1 k)
theorem spec_HashText.ge (a0 : Int) (a1 : ByteArray) : spec_HashText.g a0 a1 = (spec_HashText.l0g a1 (([a0] : List Int)) 0) := by
  refine Lim.uniq (spec_HashText.L a0 a1) ?_
  show Lim (fun k => spec_HashText.l0 k a1 (([a0] : List Int)) 0) _
  repeat' first | (with_reducible exact Lim.const _) | (with_reducible exact spec_HashText.l0L _ _ _) | (with_reducible exact spec_Hash.L _) | (with_reducible refine Lim.ite ?_ ?_) | (with_reducible refine Lim.bind ?_ (fun _ => ?_)) | exact Lim.const _ | refine Lim.ite ?_ ?_ | refine Lim.bind ?_ (fun _ => ?_) | exact spec_HashText.l0L _ _ _ | exact spec_Hash.L _
end Go.Proofs.Ytelmcjohkifeeaa.PA

namespace Go.Proofs.Ytelmcjohkifeeaa.PA
open Go.RowKit Go.Proofs.YtelmcjohkifeeaaW.PrintWords Go.Proofs.YtelmcjohkifeeaaW.PrintLast Go.Proofs.YtelmcjohkifeeaaW.PrintMore Go.Proofs.Ytelmcjohkifeeaa.Lim
set_option linter.unusedVariables false
set_option linter.unusedSimpArgs false
noncomputable def spec_IsSketch.l0g (y0 : Int) (y1 : List Int) (y2 : Int) : Option (Bool) := lim (fun k => spec_IsSketch.l0 k y0 y1 y2)
theorem spec_IsSketch.l0L (y0 : Int) (y1 : List Int) (y2 : Int) : Lim (fun k => spec_IsSketch.l0 k y0 y1 y2) (spec_IsSketch.l0g y0 y1 y2) := Lim.of (fun k => (spec_IsSketch.mono_l k) y0 y1 y2)
theorem spec_IsSketch.l0e (x3 : Int) (x186000 : List Int) (x186001 : Int) : spec_IsSketch.l0g x3 x186000 x186001 = (if x3 < (x186000.length : Int) then (if 0 ≤ x3 then ((spec_l1In.f (rd x186000 x3) 0 64).bind fun t187 => (if t187 = true then (spec_IsSketch.l0g (wrap64 (x3 + 1)) x186000 x186001) else (some false))) else (none)) else (if (x186000.length : Int) = 0 then ((spec_l1In.f x186001 0 63).bind fun t188 => (some t188)) else (if (x186000.length : Int) = 64 then ((spec_l1In.f x186001 0 63).bind fun t189 => (some t189)) else (some false)))) := by
  refine Lim.round (spec_IsSketch.l0L x3 x186000 x186001) ?_
  show Lim (fun k => if x3 < (x186000.length : Int) then (if 0 ≤ x3 then ((spec_l1In.f (rd x186000 x3) 0 64).bind fun t187 => (if t187 = true then (spec_IsSketch.l0 k (wrap64 (x3 + 1)) x186000 x186001) else (some false))) else (none)) else (if (x186000.length : Int) = 0 then ((spec_l1In.f x186001 0 63).bind fun t188 => (some t188)) else (if (x186000.length : Int) = 64 then ((spec_l1In.f x186001 0 63).bind fun t189 => (some t189)) else (some false)))) _
  repeat' first | (with_reducible exact Lim.const _) | (with_reducible exact spec_IsSketch.l0L _ _ _) | (with_reducible refine Lim.ite ?_ ?_) | (with_reducible refine Lim.bind ?_ (fun _ => ?_)) | exact Lim.const _ | refine Lim.ite ?_ ?_ | refine Lim.bind ?_ (fun _ => ?_) | exact spec_IsSketch.l0L _ _ _
noncomputable def spec_IsSketch.g (l0_0 : List Int) (a0_1 : Int) : Option (Bool) := lim (fun k => spec_IsSketch.f k l0_0 a0_1)
theorem spec_IsSketch.L (l0_0 : List Int) (a0_1 : Int) : Lim (fun k => spec_IsSketch.f k l0_0 a0_1) (spec_IsSketch.g l0_0 a0_1) := Lim.of (fun k => spec_IsSketch.mono l0_0 a0_1 k)
theorem spec_IsSketch.ge (l0_0 : List Int) (a0_1 : Int) : spec_IsSketch.g l0_0 a0_1 = (spec_IsSketch.l0g 0 l0_0 a0_1) := by
  refine Lim.uniq (spec_IsSketch.L l0_0 a0_1) ?_
  show Lim (fun k => spec_IsSketch.l0 k 0 l0_0 a0_1) _
  repeat' first | (with_reducible exact Lim.const _) | (with_reducible exact spec_IsSketch.l0L _ _ _) | (with_reducible refine Lim.ite ?_ ?_) | (with_reducible refine Lim.bind ?_ (fun _ => ?_)) | exact Lim.const _ | refine Lim.ite ?_ ?_ | refine Lim.bind ?_ (fun _ => ?_) | exact spec_IsSketch.l0L _ _ _
end Go.Proofs.Ytelmcjohkifeeaa.PA

namespace Go.Proofs.Ytelmcjohkifeeaa.PA
open Go.RowKit Go.Proofs.YtelmcjohkifeeaaW.PrintWords Go.Proofs.YtelmcjohkifeeaaW.PrintLast Go.Proofs.YtelmcjohkifeeaaW.PrintMore Go.Proofs.Ytelmcjohkifeeaa.Lim
set_option linter.unusedVariables false
set_option linter.unusedSimpArgs false
noncomputable def spec_TouchKey.l0g (y0 : ByteArray) (y1 : Int) (y2 : List Int) (y3 : Int) : Option (List Int × Int) := lim (fun k => spec_TouchKey.l0 k y0 y1 y2 y3)
noncomputable def spec_TouchKey.l1g (y0 : Int) (y1 : List Int) (y2 : Int) : Option (List Int × Int) := lim (fun k => spec_TouchKey.l1 k y0 y1 y2)
theorem spec_TouchKey.l0L (y0 : ByteArray) (y1 : Int) (y2 : List Int) (y3 : Int) : Lim (fun k => spec_TouchKey.l0 k y0 y1 y2 y3) (spec_TouchKey.l0g y0 y1 y2 y3) := Lim.of (fun k => (spec_TouchKey.mono_l k).1 y0 y1 y2 y3)
theorem spec_TouchKey.l1L (y0 : Int) (y1 : List Int) (y2 : Int) : Lim (fun k => spec_TouchKey.l1 k y0 y1 y2) (spec_TouchKey.l1g y0 y1 y2) := Lim.of (fun k => (spec_TouchKey.mono_l k).2 y0 y1 y2)
theorem spec_TouchKey.l0e (x1 : ByteArray) (x6 : Int) (x413000 : List Int) (x413001 : Int) : spec_TouchKey.l0g x1 x6 x413000 x413001 = (if x6 < 4 then ((spec_HashText.g x6 x1).bind fun t413 => (if 0 ≤ (wrap64 ((wrap64 (x6 * 16)) + (Int.tmod t413 16))) then (if (wrap64 ((wrap64 (x6 * 16)) + (Int.tmod t413 16))) < (x413000.length : Int) then (spec_TouchKey.l0g x1 (wrap64 (x6 + 1)) (x413000.set ((wrap64 ((wrap64 (x6 * 16)) + (Int.tmod t413 16))) : Int).toNat (wrap64 ((rd x413000 (wrap64 ((wrap64 (x6 * 16)) + (Int.tmod t413 16)))) + 1))) x413001) else (none)) else (none))) else (if (wrap64 (x413001 + 1)) = 64 then (spec_TouchKey.l1g 0 x413000 32) else (some (x413000, wrap64 (x413001 + 1))))) := by
  refine Lim.round (spec_TouchKey.l0L x1 x6 x413000 x413001) ?_
  show Lim (fun k => if x6 < 4 then ((spec_HashText.f k x6 x1).bind fun t413 => (if 0 ≤ (wrap64 ((wrap64 (x6 * 16)) + (Int.tmod t413 16))) then (if (wrap64 ((wrap64 (x6 * 16)) + (Int.tmod t413 16))) < (x413000.length : Int) then (spec_TouchKey.l0 k x1 (wrap64 (x6 + 1)) (x413000.set ((wrap64 ((wrap64 (x6 * 16)) + (Int.tmod t413 16))) : Int).toNat (wrap64 ((rd x413000 (wrap64 ((wrap64 (x6 * 16)) + (Int.tmod t413 16)))) + 1))) x413001) else (none)) else (none))) else (if (wrap64 (x413001 + 1)) = 64 then (spec_TouchKey.l1 k 0 x413000 32) else (some (x413000, wrap64 (x413001 + 1))))) _
  repeat' first | (with_reducible exact Lim.const _) | (with_reducible exact spec_TouchKey.l0L _ _ _ _) | (with_reducible exact spec_TouchKey.l1L _ _ _) | (with_reducible exact spec_HashText.L _ _) | (with_reducible exact spec_IsSketch.L _ _) | (with_reducible refine Lim.ite ?_ ?_) | (with_reducible refine Lim.bind ?_ (fun _ => ?_)) | exact Lim.const _ | refine Lim.ite ?_ ?_ | refine Lim.bind ?_ (fun _ => ?_) | exact spec_TouchKey.l0L _ _ _ _ | exact spec_TouchKey.l1L _ _ _ | exact spec_HashText.L _ _ | exact spec_IsSketch.L _ _
theorem spec_TouchKey.l1e (x8 : Int) (x413000 : List Int) (x413001 : Int) : spec_TouchKey.l1g x8 x413000 x413001 = (if x8 < (x413000.length : Int) then (if 0 ≤ x8 then (spec_TouchKey.l1g (wrap64 (x8 + 1)) (x413000.set (x8 : Int).toNat (wrap64 (Int.tdiv (rd x413000 x8) 2))) x413001) else (none)) else (some (x413000, x413001))) := by
  refine Lim.round (spec_TouchKey.l1L x8 x413000 x413001) ?_
  show Lim (fun k => if x8 < (x413000.length : Int) then (if 0 ≤ x8 then (spec_TouchKey.l1 k (wrap64 (x8 + 1)) (x413000.set (x8 : Int).toNat (wrap64 (Int.tdiv (rd x413000 x8) 2))) x413001) else (none)) else (some (x413000, x413001))) _
  repeat' first | (with_reducible exact Lim.const _) | (with_reducible exact spec_TouchKey.l0L _ _ _ _) | (with_reducible exact spec_TouchKey.l1L _ _ _) | (with_reducible exact spec_HashText.L _ _) | (with_reducible exact spec_IsSketch.L _ _) | (with_reducible refine Lim.ite ?_ ?_) | (with_reducible refine Lim.bind ?_ (fun _ => ?_)) | exact Lim.const _ | refine Lim.ite ?_ ?_ | refine Lim.bind ?_ (fun _ => ?_) | exact spec_TouchKey.l0L _ _ _ _ | exact spec_TouchKey.l1L _ _ _ | exact spec_HashText.L _ _ | exact spec_IsSketch.L _ _
noncomputable def spec_TouchKey.g (l0_0 : List Int) (a0_1 : Int) (a1 : ByteArray) : Option (List Int × Int) := lim (fun k => spec_TouchKey.f k l0_0 a0_1 a1)
theorem spec_TouchKey.L (l0_0 : List Int) (a0_1 : Int) (a1 : ByteArray) : Lim (fun k => spec_TouchKey.f k l0_0 a0_1 a1) (spec_TouchKey.g l0_0 a0_1 a1) := Lim.of (fun k => spec_TouchKey.mono l0_0 a0_1 a1 k)
theorem spec_TouchKey.ge (l0_0 : List Int) (a0_1 : Int) (a1 : ByteArray) : spec_TouchKey.g l0_0 a0_1 a1 = ((spec_IsSketch.g l0_0 a0_1).bind fun t401 => (if t401 = true then ((spec_l26Copy.f l0_0 a0_1).bind fun bt408 => (spec_TouchKey.l0g a1 0 bt408.1 bt408.2)) else ((some (([] : List Int) : List Int)).bind fun y402 => (if y402.length + l0_0.length < 17592186044416 then (some ((y402 ++ l0_0), a0_1)) else (none))))) := by
  refine Lim.uniq (spec_TouchKey.L l0_0 a0_1 a1) ?_
  show Lim (fun k => (spec_IsSketch.f k l0_0 a0_1).bind fun t401 => (if t401 = true then ((spec_l26Copy.f l0_0 a0_1).bind fun bt408 => (spec_TouchKey.l0 k a1 0 bt408.1 bt408.2)) else ((some (([] : List Int) : List Int)).bind fun y402 => (if y402.length + l0_0.length < 17592186044416 then (some ((y402 ++ l0_0), a0_1)) else (none))))) _
  repeat' first | (with_reducible exact Lim.const _) | (with_reducible exact spec_TouchKey.l0L _ _ _ _) | (with_reducible exact spec_TouchKey.l1L _ _ _) | (with_reducible exact spec_HashText.L _ _) | (with_reducible exact spec_IsSketch.L _ _) | (with_reducible refine Lim.ite ?_ ?_) | (with_reducible refine Lim.bind ?_ (fun _ => ?_)) | exact Lim.const _ | refine Lim.ite ?_ ?_ | refine Lim.bind ?_ (fun _ => ?_) | exact spec_TouchKey.l0L _ _ _ _ | exact spec_TouchKey.l1L _ _ _ | exact spec_HashText.L _ _ | exact spec_IsSketch.L _ _
end Go.Proofs.Ytelmcjohkifeeaa.PA

namespace Go.Proofs.Ytelmcjohkifeeaa.PA
open Go.RowKit Go.Proofs.YtelmcjohkifeeaaW.PrintWords Go.Proofs.YtelmcjohkifeeaaW.PrintLast Go.Proofs.YtelmcjohkifeeaaW.PrintMore Go.Proofs.Ytelmcjohkifeeaa.Lim
set_option linter.unusedVariables false
set_option linter.unusedSimpArgs false
noncomputable def laws_FnExactTouchKey.j0g (y0 : ByteArray) (y1 : Bool) (y2 : List Int) (y3 : Int) (y4 : List Int) (y5 : Int) (y6 : List Int) (y7 : Int) : Option (Bool) := lim (fun k => laws_FnExactTouchKey.j0 k y0 y1 y2 y3 y4 y5 y6 y7)
theorem laws_FnExactTouchKey.j0L (y0 : ByteArray) (y1 : Bool) (y2 : List Int) (y3 : Int) (y4 : List Int) (y5 : Int) (y6 : List Int) (y7 : Int) : Lim (fun k => laws_FnExactTouchKey.j0 k y0 y1 y2 y3 y4 y5 y6 y7) (laws_FnExactTouchKey.j0g y0 y1 y2 y3 y4 y5 y6 y7) := Lim.of (fun k => (laws_FnExactTouchKey.mono_l k) y0 y1 y2 y3 y4 y5 y6 y7)
theorem laws_FnExactTouchKey.j0e (x1 : ByteArray) (x49 : Bool) (x447000 : List Int) (x447001 : Int) (x457000 : List Int) (x457001 : Int) (x467000 : List Int) (x467001 : Int) : laws_FnExactTouchKey.j0g x1 x49 x447000 x447001 x457000 x457001 x467000 x467001 = (if x49 = true then (some false) else ((laws_markSketch.g x467000 x467001 1).bind fun bt476 => ((laws_heldSketch.g bt476.2 x467001 1).bind fun t478 => (if t478 < 0 then (some false) else (if t478 = bt476.1 then ((laws_toSketch.g x447000 x447001).bind fun bt479 => ((impl_TouchKey.g bt479.1 bt479.2 x1).bind fun bt483 => ((laws_eqSketch.g bt483.1 bt483.2 x457000 x457001).bind fun t488 => (if t488 = true then ((laws_heldSketch.g bt476.2 x467001 1).bind fun t489 => (if t489 < 0 then (some false) else (if t489 = bt476.1 then (some true) else (some false)))) else (some false))))) else (some false)))))) := by
  refine Lim.round (laws_FnExactTouchKey.j0L x1 x49 x447000 x447001 x457000 x457001 x467000 x467001) ?_
  show Lim (fun k => if x49 = true then (some false) else ((laws_markSketch.f k x467000 x467001 1).bind fun bt476 => ((laws_heldSketch.f k bt476.2 x467001 1).bind fun t478 => (if t478 < 0 then (some false) else (if t478 = bt476.1 then ((laws_toSketch.f k x447000 x447001).bind fun bt479 => ((impl_TouchKey.f k bt479.1 bt479.2 x1).bind fun bt483 => ((laws_eqSketch.f k bt483.1 bt483.2 x457000 x457001).bind fun t488 => (if t488 = true then ((laws_heldSketch.f k bt476.2 x467001 1).bind fun t489 => (if t489 < 0 then (some false) else (if t489 = bt476.1 then (some true) else (some false)))) else (some false))))) else (some false)))))) _
  repeat' first | (with_reducible exact Lim.const _) | (with_reducible exact laws_FnExactTouchKey.j0L _ _ _ _ _ _ _ _) | (with_reducible exact laws_markSketch.L _ _ _) | (with_reducible exact laws_heldSketch.L _ _ _) | (with_reducible exact laws_toSketch.L _ _) | (with_reducible exact impl_TouchKey.L _ _ _) | (with_reducible exact laws_eqSketch.L _ _ _ _) | (with_reducible exact spec_TouchKey.L _ _ _) | (with_reducible refine Lim.ite ?_ ?_) | (with_reducible refine Lim.bind ?_ (fun _ => ?_)) | exact Lim.const _ | refine Lim.ite ?_ ?_ | refine Lim.bind ?_ (fun _ => ?_) | exact laws_FnExactTouchKey.j0L _ _ _ _ _ _ _ _ | exact laws_markSketch.L _ _ _ | exact laws_heldSketch.L _ _ _ | exact laws_toSketch.L _ _ | exact impl_TouchKey.L _ _ _ | exact laws_eqSketch.L _ _ _ _ | exact spec_TouchKey.L _ _ _
noncomputable def laws_FnExactTouchKey.g (l0_0 : List Int) (a0_1 : Int) (a1 : ByteArray) : Option (Bool) := lim (fun k => laws_FnExactTouchKey.f k l0_0 a0_1 a1)
theorem laws_FnExactTouchKey.L (l0_0 : List Int) (a0_1 : Int) (a1 : ByteArray) : Lim (fun k => laws_FnExactTouchKey.f k l0_0 a0_1 a1) (laws_FnExactTouchKey.g l0_0 a0_1 a1) := Lim.of (fun k => laws_FnExactTouchKey.mono l0_0 a0_1 a1 k)
theorem laws_FnExactTouchKey.ge (l0_0 : List Int) (a0_1 : Int) (a1 : ByteArray) : laws_FnExactTouchKey.g l0_0 a0_1 a1 = (if (a1.size : Int) > 1048576 then (some true) else ((laws_szSketch.f l0_0 a0_1 1048576).bind fun t447 => (if t447 < 0 then (some true) else ((laws_toSketch.g l0_0 a0_1).bind fun bt448 => ((spec_TouchKey.g bt448.1 bt448.2 a1).bind fun bt452 => ((laws_toSketch.g l0_0 a0_1).bind fun bt457 => ((impl_TouchKey.g bt457.1 bt457.2 a1).bind fun bt462 => ((laws_eqSketch.g bt462.1 bt462.2 bt452.1 bt452.2).bind fun t467 => (if t467 = true then ((laws_toSketch.g l0_0 a0_1).bind fun bt468 => ((laws_eqSketch.g bt457.1 bt457.2 bt468.1 bt468.2).bind fun t472 => (if t472 = true then ((laws_markSketch.g bt457.1 bt457.2 1).bind fun bt473 => (if bt473.1 < 0 then (laws_FnExactTouchKey.j0g a1 true l0_0 a0_1 bt452.1 bt452.2 bt462.1 bt462.2) else ((laws_eqSketch.g bt462.1 bt462.2 bt452.1 bt452.2).bind fun t475 => (laws_FnExactTouchKey.j0g a1 (!t475) l0_0 a0_1 bt452.1 bt452.2 bt462.1 bt462.2)))) else (some false)))) else (some false)))))))))) := by
  refine Lim.uniq (laws_FnExactTouchKey.L l0_0 a0_1 a1) ?_
  show Lim (fun k => if (a1.size : Int) > 1048576 then (some true) else ((laws_szSketch.f l0_0 a0_1 1048576).bind fun t447 => (if t447 < 0 then (some true) else ((laws_toSketch.f k l0_0 a0_1).bind fun bt448 => ((spec_TouchKey.f k bt448.1 bt448.2 a1).bind fun bt452 => ((laws_toSketch.f k l0_0 a0_1).bind fun bt457 => ((impl_TouchKey.f k bt457.1 bt457.2 a1).bind fun bt462 => ((laws_eqSketch.f k bt462.1 bt462.2 bt452.1 bt452.2).bind fun t467 => (if t467 = true then ((laws_toSketch.f k l0_0 a0_1).bind fun bt468 => ((laws_eqSketch.f k bt457.1 bt457.2 bt468.1 bt468.2).bind fun t472 => (if t472 = true then ((laws_markSketch.f k bt457.1 bt457.2 1).bind fun bt473 => (if bt473.1 < 0 then (laws_FnExactTouchKey.j0 k a1 true l0_0 a0_1 bt452.1 bt452.2 bt462.1 bt462.2) else ((laws_eqSketch.f k bt462.1 bt462.2 bt452.1 bt452.2).bind fun t475 => (laws_FnExactTouchKey.j0 k a1 (!t475) l0_0 a0_1 bt452.1 bt452.2 bt462.1 bt462.2)))) else (some false)))) else (some false)))))))))) _
  repeat' first | (with_reducible exact Lim.const _) | (with_reducible exact laws_FnExactTouchKey.j0L _ _ _ _ _ _ _ _) | (with_reducible exact laws_markSketch.L _ _ _) | (with_reducible exact laws_heldSketch.L _ _ _) | (with_reducible exact laws_toSketch.L _ _) | (with_reducible exact impl_TouchKey.L _ _ _) | (with_reducible exact laws_eqSketch.L _ _ _ _) | (with_reducible exact spec_TouchKey.L _ _ _) | (with_reducible refine Lim.ite ?_ ?_) | (with_reducible refine Lim.bind ?_ (fun _ => ?_)) | exact Lim.const _ | refine Lim.ite ?_ ?_ | refine Lim.bind ?_ (fun _ => ?_) | exact laws_FnExactTouchKey.j0L _ _ _ _ _ _ _ _ | exact laws_markSketch.L _ _ _ | exact laws_heldSketch.L _ _ _ | exact laws_toSketch.L _ _ | exact impl_TouchKey.L _ _ _ | exact laws_eqSketch.L _ _ _ _ | exact spec_TouchKey.L _ _ _
end Go.Proofs.Ytelmcjohkifeeaa.PA

namespace Go.Proofs.Ytelmcjohkifeeaa.Base
open Go.RowKit Go.Proofs.YtelmcjohkifeeaaW.PrintWords Go.Proofs.YtelmcjohkifeeaaW.PrintLast Go.Proofs.YtelmcjohkifeeaaW.PrintMore Go.Proofs.Ytelmcjohkifeeaa.Lim
set_option linter.unusedVariables false

def Big : Nat := 4611686018427387904
theorem Big_eq : Big = 4611686018427387904 := rfl
/-- Far below the bound of an int. -/
abbrev Sm (n : Nat) : Prop := n ≤ 4611686018427387904

theorem w64 {x : Int} (h0 : -9223372036854775808 ≤ x) (h1 : x ≤ 9223372036854775807) : wrap64 x = x := by
  unfold wrap64
  omega
theorem w64_succ {i n : Nat} (h : i < n) (hn : Sm n) : wrap64 ((i : Int) + 1) = ((i + 1 : Nat) : Int) := by
  rw [w64 (by omega) (by unfold Sm at hn; omega)]
  rfl
theorem down {n : Nat} {C : Nat → Prop} (h0 : C n) (hs : ∀ i, i < n → C (i + 1) → C i) : ∀ i, i ≤ n → C i := by
  intro i hi
  obtain ⟨d, rfl⟩ : ∃ d, n = i + d := ⟨n - i, by omega⟩
  clear hi
  induction d generalizing i with
  | zero => exact h0
  | succ d ih =>
    refine hs i (by omega) (ih (i + 1) ?_ ?_)
    · rw [show i + 1 + d = i + (d + 1) by omega]; exact h0
    · intro j hj hc
      exact hs j (by omega) hc
theorem drop_cons {α : Type} {l : List α} {i : Nat} (h : i < l.length) : l.drop i = l[i] :: l.drop (i + 1) := List.drop_eq_getElem_cons h
theorem getD_at {α : Type} {l : List α} {i : Nat} {d : α} (h : i < l.length) : l.getD i d = l[i] := by
  rw [List.getD_eq_getElem?_getD, List.getElem?_eq_getElem h]
  rfl
theorem nat_lt_len {α : Type} {l : List α} {i : Nat} (h : i < l.length) : (i : Int) < (l.length : Int) := by omega
theorem not_lt_len {α : Type} {l : List α} : ¬ (l.length : Int) < (l.length : Int) := by omega
theorem nat_nonneg (i : Nat) : (0 : Int) ≤ (i : Int) := by omega

/-- A loop over a list, from place i on, with what it carries. -/
theorem loop {α σ R : Type} {l : List α} {L : σ → Int → R} {M : σ → List α → R} (hnil : ∀ s, L s (l.length : Int) = M s [])
    (hcons : ∀ (i : Nat) (x : α) (r : List α), i < l.length → l[i]? = some x → (∀ s, L s ((i + 1 : Nat) : Int) = M s r) → ∀ s, L s (i : Int) = M s (x :: r)) :
    ∀ i, i ≤ l.length → ∀ s, L s (i : Int) = M s (l.drop i) := by
  refine down ?_ ?_
  · intro s
    rw [List.drop_length]
    exact hnil s
  · intro i hi ih s
    rw [drop_cons hi]
    exact hcons i _ _ hi (List.getElem?_eq_getElem hi) ih s
theorem loop0 {α σ R : Type} {l : List α} (L : σ → Int → R) (M : σ → List α → R) (hnil : ∀ s, L s (l.length : Int) = M s [])
    (hcons : ∀ (i : Nat) (x : α) (r : List α), i < l.length → l[i]? = some x → (∀ s, L s ((i + 1 : Nat) : Int) = M s r) → ∀ s, L s (i : Int) = M s (x :: r)) (s : σ) : L s 0 = M s l := by
  have := loop hnil hcons 0 (by omega) s
  simpa using this
/-- .. that carries nothing. -/
theorem loop1 {α R : Type} {l : List α} (L : Int → R) (M : List α → R) (hnil : L (l.length : Int) = M [])
    (hcons : ∀ (i : Nat) (x : α) (r : List α), i < l.length → l[i]? = some x → L ((i + 1 : Nat) : Int) = M r → L (i : Int) = M (x :: r)) : L 0 = M l :=
  loop0 (σ := Unit) (fun _ i => L i) (fun _ r => M r) (fun _ => hnil) (fun i x r hi hx ih _ => hcons i x r hi hx (ih ())) ()
theorem getD_x {α : Type} {l : List α} {i : Nat} {x d : α} (h : l[i]? = some x) : l.getD (i : Int).toNat d = x := by
  rw [Int.toNat_natCast, List.getD_eq_getElem?_getD, h]
  rfl

/-- .. under a condition on what it carries. -/
theorem loopP {α σ R : Type} {l : List α} (L : σ → Int → R) (M : σ → List α → R) (P : σ → Prop) (hnil : ∀ s, P s → L s (l.length : Int) = M s [])
    (hcons : ∀ (i : Nat) (x : α) (r : List α), i < l.length → l[i]? = some x → (∀ s, P s → L s ((i + 1 : Nat) : Int) = M s r) → ∀ s, P s → L s (i : Int) = M s (x :: r)) (s : σ) (hs : P s) : L s 0 = M s l := by
  have key : ∀ i, i ≤ l.length → ∀ s, P s → L s (i : Int) = M s (l.drop i) := by
    refine down ?_ ?_
    · intro s hs
      rw [List.drop_length]
      exact hnil s hs
    · intro i hi ih s hs
      rw [drop_cons hi]
      exact hcons i _ _ hi (List.getElem?_eq_getElem hi) ih s hs
  have := key 0 (by omega) s hs
  simpa using this

/-- What is left of a measure, -1 where it does not reach. -/
def sub (left : Int) (n : Nat) : Int := if (n : Int) ≤ left then left - n else -1
theorem sub_neg {left : Int} {n : Nat} (h : left < (n : Int)) : some (-1) = some (sub left n) := by
  unfold sub
  rw [if_neg (by omega)]
theorem sub_lt {left : Int} {n : Nat} (h : left < (n : Int)) : sub left n < 0 := by
  unfold sub
  rw [if_neg (by omega)]
  omega
theorem sub_nlt {left : Int} {n : Nat} (h0 : 0 ≤ left) (h : ¬ left < (n : Int)) : ¬ sub left n < 0 := by
  unfold sub
  rw [if_pos (by omega)]
  omega
theorem sub_ge {left : Int} {n : Nat} (h : ¬ left < (n : Int)) : sub left n = left - n := by
  unfold sub
  rw [if_pos (by omega)]
theorem sub_add {left : Int} {n m : Nat} (h : ¬ left < (n : Int)) : sub (left - n) m = sub left (n + m) := by
  unfold sub
  by_cases c : (m : Int) ≤ left - n
  · rw [if_pos c, if_pos (by omega)]; omega
  · rw [if_neg c, if_neg (by omega)]
theorem sub_step {left : Int} {n m : Nat} (h : ¬ left < (n : Int)) : some (sub (left - n) m) = some (sub left (n + m)) := by rw [sub_add h]

theorem set_append {α : Type} (xs : List α) (y : α) (z : α) (n : Nat) : (xs ++ y :: List.replicate n z).set xs.length = fun v => xs ++ v :: List.replicate n z := by
  funext v
  rw [List.set_append_right _ _ (Nat.le_refl _)]
  simp
/-- The way that a list is copied: place by place into a made one. -/
theorem copied {α β : Type} (f : α → β) (z : β) (l : List α) (i : Nat) (hi : i < l.length) :
    ((l.take i).map f ++ List.replicate (l.length - i) z).set i (f l[i]) = (l.take (i + 1)).map f ++ List.replicate (l.length - (i + 1)) z := by
  have hlen : ((l.take i).map f).length = i := by simp; omega
  rw [List.set_append_right _ _ (by omega), hlen, Nat.sub_self]
  obtain ⟨m, hm⟩ : ∃ m, l.length - i = m + 1 := ⟨l.length - i - 1, by omega⟩
  rw [hm, show l.length - (i + 1) = m by omega, List.replicate_succ, List.set_cons_zero, List.take_succ_eq_append_getElem hi, List.map_append]
  simp
theorem pure_of {g : Nat → Option Bool} {x : Option Bool} (h : Lim g x) (hx : x = some true) : ∃ k, g k = some true := h.rounds hx

end Go.Proofs.Ytelmcjohkifeeaa.Base

namespace Go.Proofs.Ytelmcjohkifeeaa.PA
open Go.RowKit Go.Proofs.YtelmcjohkifeeaaW.PrintWords Go.Proofs.YtelmcjohkifeeaaW.PrintLast Go.Proofs.YtelmcjohkifeeaaW.PrintMore Go.Proofs.Ytelmcjohkifeeaa.Base Go.Proofs.Ytelmcjohkifeeaa.Lim
set_option linter.unusedVariables false
set_option linter.unusedSimpArgs false

def wtS_Int : List Int → Nat := fun l => l.length
theorem szS_Int (l : List Int) (left : Int) (h : l.length * 8 ≤ 140737488351232 ∧ l.length ≤ maxLen ∧ ∀ y ∈ l, (Lit.int .i64 y).wf = true) (hl : 0 ≤ left) (hm : left ≤ 4611686018427387904) : laws_szIntS.f l left = some (sub left (wtS_Int l)) := by
  obtain ⟨h1, h2, h3⟩ := h
  have hn : Sm l.length := by unfold Sm; omega
  unfold laws_szIntS.f wtS_Int
  rw [w64 (by omega) (by omega)]
  by_cases c : left - (l.length : Int) < 0
  · rw [if_pos c]; exact sub_neg (by omega)
  · rw [if_neg c, sub_ge (by omega)]
theorem toS_Int (l : List Int) (h : l.length * 8 ≤ 140737488351232 ∧ l.length ≤ maxLen ∧ ∀ y ∈ l, (Lit.int .i64 y).wf = true) : laws_toIntS.g l = some (l) := by
  obtain ⟨h1, h2, h3⟩ := h
  have key : ∀ i, i ≤ l.length → laws_toIntS.l0g l ((l.take i).map id ++ List.replicate (l.length - i) 0) (i : Int) = some (l) := by
    refine down ?_ ?_
    · rw [laws_toIntS.l0e, if_neg not_lt_len]
      simp
    · intro i hi ih
      have hb := h3 l[i] (List.getElem_mem hi)
      rw [laws_toIntS.l0e, if_pos (nat_lt_len hi), if_pos (nat_nonneg i), if_pos (by simp; omega), w64_succ hi (by unfold Sm; omega)]
      simp only [rd, Int.toNat_natCast, getD_at hi]
      have e := copied (id : Int → Int) 0 l i hi
      rw [← e] at ih
      exact ih
  rw [laws_toIntS.ge, if_pos (by omega), if_pos (by rw [Int.toNat_natCast]; omega)]
  have := key 0 (by omega)
  simpa using this
theorem eqS_Int (l : List Int) (h : Sm l.length) : laws_eqIntS.g l l = some true := by
  have hn := h
  rw [laws_eqIntS.ge, if_pos rfl]
  refine loop1 (l := l) (fun i => laws_eqIntS.l0g l l i) (fun _ => some true) ?_ ?_
  · rw [laws_eqIntS.l0e, if_neg not_lt_len]
  · intro i x r hi hx ih
    rw [laws_eqIntS.l0e, if_pos (nat_lt_len hi), if_pos (nat_nonneg i), if_pos (nat_lt_len hi), w64_succ hi hn, ih]
    simp
end Go.Proofs.Ytelmcjohkifeeaa.PA

namespace Go.Proofs.Ytelmcjohkifeeaa.PA
open Go.RowKit Go.Proofs.YtelmcjohkifeeaaW.PrintWords Go.Proofs.YtelmcjohkifeeaaW.PrintLast Go.Proofs.YtelmcjohkifeeaaW.PrintMore Go.Proofs.Ytelmcjohkifeeaa.Base Go.Proofs.Ytelmcjohkifeeaa.Lim
set_option linter.unusedVariables false
set_option linter.unusedSimpArgs false

theorem sz_Sketch (a0 : (List Int)) (a1 : Int) (left : Int) (h0 : (a0.length * 8 ≤ 140737488351232 ∧ a0.length ≤ maxLen ∧ ∀ y ∈ a0, (Lit.int .i64 y).wf = true)) (hl : 0 ≤ left) (hm : left ≤ 4611686018427387904) : laws_szSketch.f a0 a1 left = some (sub left (wtS_Int a0)) := by
  unfold laws_szSketch.f
  rw [szS_Int a0 left h0 (by omega) (by omega), Option.bind_some]
  by_cases c0 : left < ((wtS_Int a0 : Nat) : Int)
  · rw [if_pos (sub_lt c0)]; exact sub_neg (by omega)
  rw [if_neg (sub_nlt (by omega) c0), sub_ge c0]
  all_goals (refine congrArg some ?_; first | (rw [sub_ge (by omega)]; done) | (rw [sub_ge (by omega)]; omega))
theorem to_Sketch (a0 : (List Int)) (a1 : Int) (h0 : (a0.length * 8 ≤ 140737488351232 ∧ a0.length ≤ maxLen ∧ ∀ y ∈ a0, (Lit.int .i64 y).wf = true)) : laws_toSketch.g a0 a1 = some (a0, a1) := by
  rw [laws_toSketch.ge]
  simp only [toS_Int a0 h0, Option.bind_some]
theorem eq_Sketch (a0 : (List Int)) (a1 : Int) (h0 : Sm a0.length) : laws_eqSketch.g a0 a1 a0 a1 = some true := by
  rw [laws_eqSketch.ge]
  simp [eqS_Int a0 h0]
end Go.Proofs.Ytelmcjohkifeeaa.PA

namespace Go.Proofs.Ytelmcjohkifeeaa.PA
open Go.RowKit Go.Proofs.YtelmcjohkifeeaaW.PrintWords Go.Proofs.YtelmcjohkifeeaaW.PrintLast Go.Proofs.YtelmcjohkifeeaaW.PrintMore Go.Proofs.Ytelmcjohkifeeaa.Lim
set_option linter.unusedVariables false
set_option linter.unusedSimpArgs false
noncomputable def laws_markText.l0g (y0 : Int) (y1 : ByteArray) : Option (ByteArray) := lim (fun k => laws_markText.l0 k y0 y1)
theorem laws_markText.l0L (y0 : Int) (y1 : ByteArray) : Lim (fun k => laws_markText.l0 k y0 y1) (laws_markText.l0g y0 y1) := Lim.of (fun k => (laws_markText.mono_l k) y0 y1)
theorem laws_markText.l0e (x0 : Int) (x3 : ByteArray) : laws_markText.l0g x0 x3 = (if x0 > 0 then ((some (([(wrap64 (48 + (Int.tmod x0 10))) % 256] : List Int) : List Int)).bind fun y320 => (if (strOfNums y320).size + x3.size ≤ 9223372036854775807 then (laws_markText.l0g (wrap64 (Int.tdiv x0 10)) ((strOfNums y320) ++ x3)) else (none))) else (if 1 + x3.size ≤ 9223372036854775807 then (some ((⟨#[109]⟩ : ByteArray) ++ x3)) else (none))) := by
  refine Lim.round (laws_markText.l0L x0 x3) ?_
  show Lim (fun k => if x0 > 0 then ((some (([(wrap64 (48 + (Int.tmod x0 10))) % 256] : List Int) : List Int)).bind fun y320 => (if (strOfNums y320).size + x3.size ≤ 9223372036854775807 then (laws_markText.l0 k (wrap64 (Int.tdiv x0 10)) ((strOfNums y320) ++ x3)) else (none))) else (if 1 + x3.size ≤ 9223372036854775807 then (some ((⟨#[109]⟩ : ByteArray) ++ x3)) else (none))) _
  repeat' first | (with_reducible exact Lim.const _) | (with_reducible exact laws_markText.l0L _ _) | (with_reducible refine Lim.ite ?_ ?_) | (with_reducible refine Lim.bind ?_ (fun _ => ?_)) | exact Lim.const _ | refine Lim.ite ?_ ?_ | refine Lim.bind ?_ (fun _ => ?_) | exact laws_markText.l0L _ _
noncomputable def laws_markText.g (a0 : Int) : Option (ByteArray) := lim (fun k => laws_markText.f k a0)
theorem laws_markText.L (a0 : Int) : Lim (fun k => laws_markText.f k a0) (laws_markText.g a0) := Lim.of (fun k => laws_markText.mono a0 k)
theorem laws_markText.ge (a0 : Int) : laws_markText.g a0 = (if a0 ≤ 0 then (some (⟨#[109, 48]⟩ : ByteArray)) else (laws_markText.l0g a0 (⟨#[]⟩ : ByteArray))) := by
  refine Lim.uniq (laws_markText.L a0) ?_
  show Lim (fun k => if a0 ≤ 0 then (some (⟨#[109, 48]⟩ : ByteArray)) else (laws_markText.l0 k a0 (⟨#[]⟩ : ByteArray))) _
  repeat' first | (with_reducible exact Lim.const _) | (with_reducible exact laws_markText.l0L _ _) | (with_reducible refine Lim.ite ?_ ?_) | (with_reducible refine Lim.bind ?_ (fun _ => ?_)) | exact Lim.const _ | refine Lim.ite ?_ ?_ | refine Lim.bind ?_ (fun _ => ?_) | exact laws_markText.l0L _ _
end Go.Proofs.Ytelmcjohkifeeaa.PA

namespace Go.Proofs.Ytelmcjohkifeeaa.PA
open Go.RowKit Go.Proofs.YtelmcjohkifeeaaW.PrintWords Go.Proofs.YtelmcjohkifeeaaW.PrintLast Go.Proofs.YtelmcjohkifeeaaW.PrintMore Go.Proofs.Ytelmcjohkifeeaa.Base Go.Proofs.Ytelmcjohkifeeaa.Lim
set_option linter.unusedVariables false
set_option linter.unusedSimpArgs false
theorem digits_tell : ∀ (n : Nat) (x : Int) (s : ByteArray), x < 10 ^ n → s.size + n + 1 ≤ 9223372036854775807 → ∃ r, laws_markText.l0g x s = some r := by
  intro n
  induction n with
  | zero =>
    intro x s hx hs
    rw [laws_markText.l0e, if_neg (by simp at hx; omega), if_pos (by omega)]
    exact ⟨_, rfl⟩
  | succ n ih =>
    intro x s hx hs
    rw [laws_markText.l0e]
    by_cases h0 : x > 0
    · rw [if_pos h0, Option.bind_some]
      have hz : (strOfNums ([(wrap64 (48 + (Int.tmod x 10))) % 256] : List Int)).size = 1 := rfl
      rw [if_pos (by rw [hz]; omega)]
      have hd : Int.tdiv x 10 = x / 10 := Int.tdiv_eq_ediv_of_nonneg (by omega)
      have hw : wrap64 (Int.tdiv x 10) < 10 ^ n := by
        by_cases hb : x ≤ 9223372036854775807
        · rw [w64 (by rw [hd]; omega) (by rw [hd]; omega), hd]
          rw [Int.pow_succ] at hx
          omega
        · unfold wrap64
          rw [hd]
          rw [Int.pow_succ] at hx
          have : x / 10 < 10 ^ n := by omega
          omega
      refine ih _ _ hw ?_
      rw [ByteArray.size_append, hz]
      omega
    · rw [if_neg h0, if_pos (by omega)]
      exact ⟨_, rfl⟩
theorem markText_tells (k : Int) (h : k ≤ 9223372036854775807) : ∃ r, laws_markText.g k = some r := by
  rw [laws_markText.ge]
  split
  · exact ⟨_, rfl⟩
  · refine digits_tell 19 k _ ?_ ?_
    · have : (10 : Int) ^ 19 = 10000000000000000000 := by decide
      omega
    · have : (⟨#[]⟩ : ByteArray).size = 0 := rfl
      omega
noncomputable def mt (k : Int) : ByteArray := (laws_markText.g k).getD ByteArray.empty
theorem markText_eq (k : Int) (h : k ≤ 9223372036854775807) : laws_markText.g k = some (mt k) := by
  obtain ⟨r, hr⟩ := markText_tells k h
  unfold mt
  rw [hr]
  rfl
theorem set_mid {α : Type} (P r : List α) (x v : α) : (P ++ x :: r).set ((P.length : Nat) : Int).toNat v = P ++ v :: r := by
  rw [Int.toNat_natCast, List.set_append_right _ _ (Nat.le_refl _)]
  simp
theorem getD_mid {α : Type} (P r : List α) (x d : α) : (P ++ x :: r).getD ((P.length : Nat) : Int).toNat d = x := by
  rw [Int.toNat_natCast, List.getD_eq_getElem?_getD, List.getElem?_append_right (Nat.le_refl _)]
  simp
theorem mid_lt {α : Type} (P r : List α) (x : α) : ((P.length : Nat) : Int) < (((P ++ x :: r).length : Nat) : Int) := by simp; omega
theorem mid_end {α : Type} (P : List α) : ¬ ((P.length : Nat) : Int) < (((P ++ []).length : Nat) : Int) := by simp
end Go.Proofs.Ytelmcjohkifeeaa.PA

namespace Go.Proofs.Ytelmcjohkifeeaa.PA
open Go.RowKit Go.Proofs.YtelmcjohkifeeaaW.PrintWords Go.Proofs.YtelmcjohkifeeaaW.PrintLast Go.Proofs.YtelmcjohkifeeaaW.PrintMore Go.Proofs.Ytelmcjohkifeeaa.Base Go.Proofs.Ytelmcjohkifeeaa.Lim
set_option linter.unusedVariables false
set_option linter.unusedSimpArgs false
noncomputable def mkS_Int : Int → List Int → List Int
  | _, [] => []
  | k, x :: r => (k) :: mkS_Int (k + 1) r
theorem mkS_Int_len : ∀ (r : List Int) (k : Int), (mkS_Int k r).length = r.length
  | [], k => rfl
  | x :: r, k => by rw [mkS_Int, List.length_cons, List.length_cons, mkS_Int_len r]
theorem mark_IntS_from : ∀ (r P : List Int) (k : Int), 0 ≤ k → k + 1 * r.length ≤ 4611686018427387904 → Sm (P ++ r).length → laws_markIntS.l0g (P ++ r) k (P.length : Int) = some (k + 1 * r.length, P ++ mkS_Int k r)
  | [], P, k, h0, h1, hn => by
    rw [laws_markIntS.l0e, if_neg (mid_end P)]
    simp [mkS_Int]
  | x :: r, P, k, h0, h1, hn => by
    rw [List.length_cons] at h1
    have hp : P.length < (P ++ x :: r).length := by simp
    have ih := mark_IntS_from r (P ++ [(k)]) (k + 1) (by omega) (by omega) (by rw [List.append_assoc]; simpa using hn)
    rw [List.append_assoc, List.length_append, List.length_singleton] at ih
    rw [laws_markIntS.l0e]
    simp only [if_pos (mid_lt P r x), if_pos (nat_nonneg P.length), Option.bind_some, w64 (x := k + 1) (by omega) (by omega), w64_succ hp hn, rd, getD_mid, set_mid]
    refine Eq.trans ih ?_
    rw [List.append_assoc, mkS_Int]
    refine congrArg some ?_
    refine Prod.ext ?_ rfl
    show k + 1 + 1 * (r.length : Int) = k + 1 * (((x :: r).length : Nat) : Int)
    rw [List.length_cons]
    omega
theorem mark_IntS (l : List Int) (k : Int) (h0 : 0 ≤ k) (h1 : k + 1 * l.length ≤ 4611686018427387904) (hn : Sm l.length) : laws_markIntS.g l k = some (k + 1 * l.length, mkS_Int k l) := by
  rw [laws_markIntS.ge]
  exact mark_IntS_from l [] k h0 h1 hn
theorem held_IntS_from : ∀ (r P : List Int) (k : Int), 0 ≤ k → k + 1 * r.length ≤ 4611686018427387904 → Sm (P ++ r).length → laws_heldIntS.l0g (P ++ mkS_Int k r) k (P.length : Int) = some (k + 1 * r.length)
  | [], P, k, h0, h1, hn => by
    rw [mkS_Int, laws_heldIntS.l0e, if_neg (mid_end P)]
    simp
  | x :: r, P, k, h0, h1, hn => by
    rw [List.length_cons] at h1
    have hp : P.length < (P ++ x :: r).length := by simp
    have ih := held_IntS_from r (P ++ [(k)]) (k + 1) (by omega) (by omega) (by rw [List.append_assoc]; simpa using hn)
    rw [List.append_assoc, List.length_append, List.length_singleton] at ih
    rw [laws_heldIntS.l0e, mkS_Int]
    simp only [if_pos (mid_lt P _ _), if_pos (nat_nonneg P.length), Option.bind_some, w64 (x := k + 1) (by omega) (by omega), w64_succ hp hn, rd, getD_mid, if_true]
    refine Eq.trans ih ?_
    refine congrArg some ?_
    rw [List.length_cons]
    omega
theorem held_IntS (l : List Int) (k : Int) (h0 : 0 ≤ k) (h1 : k + 1 * l.length ≤ 4611686018427387904) (hn : Sm l.length) : laws_heldIntS.g (mkS_Int k l) k = some (k + 1 * l.length) := by
  rw [laws_heldIntS.ge]
  exact held_IntS_from l [] k h0 h1 hn
end Go.Proofs.Ytelmcjohkifeeaa.PA

namespace Go.Proofs.Ytelmcjohkifeeaa.PA
open Go.RowKit Go.Proofs.YtelmcjohkifeeaaW.PrintWords Go.Proofs.YtelmcjohkifeeaaW.PrintLast Go.Proofs.YtelmcjohkifeeaaW.PrintMore Go.Proofs.Ytelmcjohkifeeaa.Base Go.Proofs.Ytelmcjohkifeeaa.Lim
set_option linter.unusedVariables false
set_option linter.unusedSimpArgs false
def inR (a b c : Int) : Bool := decide (b ≤ a) && decide (a ≤ c)
theorem l1In_eq (a b c : Int) : spec_l1In.f a b c = some (inR a b c) := by
  unfold spec_l1In.f inR
  by_cases h : b ≤ a <;> simp [h]
theorem inRange_eq (a b c : Int) : impl_inRange.f a b c = some (inR a b c) := by
  unfold impl_inRange.f inR
  by_cases h : b ≤ a <;> simp [h]
theorem inR_iff (a b c : Int) : inR a b c = true ↔ b ≤ a ∧ a ≤ c := by simp [inR]
end Go.Proofs.Ytelmcjohkifeeaa.PA

namespace Go.Proofs.Ytelmcjohkifeeaa.PA
open Go.RowKit Go.Proofs.YtelmcjohkifeeaaW.PrintWords Go.Proofs.YtelmcjohkifeeaaW.PrintLast Go.Proofs.YtelmcjohkifeeaaW.PrintMore Go.Proofs.Ytelmcjohkifeeaa.Base Go.Proofs.Ytelmcjohkifeeaa.Lim
set_option linter.unusedVariables false
set_option linter.unusedSimpArgs false
def Dig (r : Int) : Prop := 0 ≤ r ∧ r < 2147483647
theorem mod_tells (v : Int) : ∃ m, spec_Mod.f v 2147483647 = some m ∧ impl_Mod.f v 2147483647 = some m ∧ Dig m := by
  refine ⟨Int.tmod (wrap64 (Int.tmod v 2147483647 + 2147483647)) 2147483647, ?_, ?_, ?_⟩
  · simp [spec_Mod.f, l1In_eq, inR]
  · simp [impl_Mod.f, inRange_eq, inR]
  · have h1 : -2147483647 < Int.tmod v 2147483647 := by
      have := Int.lt_tmod_of_pos v (b := 2147483647) (by omega)
      omega
    have h2 : Int.tmod v 2147483647 < 2147483647 := Int.tmod_lt_of_pos v (by omega)
    rw [w64 (by omega) (by omega)]
    exact ⟨Int.tmod_nonneg _ (by omega), Int.tmod_lt_of_pos _ (by omega)⟩
theorem fold_dig {d m : Int} (hd : Dig d) (hm : Dig m) : Dig (Int.tmod (wrap64 ((wrap64 ((wrap64 (d * 1000003)) + m)) + 19)) 2147483647) := by
  obtain ⟨d0, d1⟩ := hd
  obtain ⟨m0, m1⟩ := hm
  rw [w64 (x := d * 1000003) (by omega) (by omega), w64 (x := d * 1000003 + m) (by omega) (by omega), w64 (by omega) (by omega)]
  exact ⟨Int.tmod_nonneg _ (by omega), Int.tmod_lt_of_pos _ (by omega)⟩
theorem hash_tells (l : List Int) (hn : Sm l.length) : ∃ r, spec_Hash.g l = some r ∧ impl_Hash.g l = some r ∧ Dig r := by
  have key : ∀ i, i ≤ l.length → ∀ d, Dig d → ∃ r, spec_Hash.l0g l d (i : Int) = some r ∧ impl_Hash.l0g d l (l.length : Int) (i : Int) = some r ∧ Dig r := by
    refine down ?_ ?_
    · intro d hd
      exact ⟨d, by rw [spec_Hash.l0e, if_neg not_lt_len], by rw [impl_Hash.l0e, if_neg not_lt_len], hd⟩
    · intro i hi ih d hd
      obtain ⟨m, h1, h2, hm⟩ := mod_tells (rd l (i : Int))
      obtain ⟨r, e1, e2, hr⟩ := ih _ (fold_dig hd hm)
      refine ⟨r, ?_, ?_, hr⟩
      · rw [spec_Hash.l0e, if_pos (nat_lt_len hi), if_pos (nat_nonneg i), h1, Option.bind_some, w64_succ hi hn]; exact e1
      · rw [impl_Hash.l0e, if_pos (nat_lt_len hi), if_pos (nat_nonneg i), if_pos (nat_lt_len hi), h2, Option.bind_some, w64_succ hi hn]; exact e2
  rw [spec_Hash.ge, impl_Hash.ge]
  exact key 0 (by omega) 7 ⟨by omega, by omega⟩
theorem hashText_tells (a : Int) (s : ByteArray) (hn : s.size ≤ 1099511627776) : ∃ r, spec_HashText.g a s = some r ∧ impl_HashText.g a s = some r ∧ Dig r := by
  have key : ∀ i, i ≤ s.size → ∀ l : List Int, l.length = i + 1 → ∃ r, spec_HashText.l0g s l (i : Int) = some r ∧ impl_HashText.l0g s l (s.size : Int) (i : Int) = some r ∧ Dig r := by
    refine down ?_ ?_
    · intro l hl
      obtain ⟨r, h1, h2, hr⟩ := hash_tells l (by unfold Sm; omega)
      exact ⟨r, by rw [spec_HashText.l0e, if_neg (by omega), h1]; rfl, by rw [impl_HashText.l0e, if_neg (by omega), h2]; rfl, hr⟩
    · intro i hi ih l hl
      obtain ⟨r, e1, e2, hr⟩ := ih (l ++ [wrap64 (bt s (i : Int))]) (by simp [hl])
      refine ⟨r, ?_, ?_, hr⟩
      · rw [spec_HashText.l0e, if_pos (by omega), if_pos (nat_nonneg i), if_pos (by omega), w64_succ hi (by unfold Sm; omega)]; exact e1
      · rw [impl_HashText.l0e, if_pos (by omega), if_pos (nat_nonneg i), if_pos (by omega), if_pos (by omega), w64_succ hi (by unfold Sm; omega)]; exact e2
  rw [spec_HashText.ge, impl_HashText.ge]
  exact key 0 (by omega) [a] rfl
end Go.Proofs.Ytelmcjohkifeeaa.PA

namespace Go.Proofs.Ytelmcjohkifeeaa.PA
open Go.RowKit Go.Proofs.YtelmcjohkifeeaaW.PrintWords Go.Proofs.YtelmcjohkifeeaaW.PrintLast Go.Proofs.YtelmcjohkifeeaaW.PrintMore Go.Proofs.Ytelmcjohkifeeaa.Base Go.Proofs.Ytelmcjohkifeeaa.Lim
set_option linter.unusedVariables false
set_option linter.unusedSimpArgs false
def isSketch (l : List Int) (t : Int) : Bool := l.all (fun n => inR n 0 64) && ((decide (l.length = 0) || decide (l.length = 64)) && inR t 0 63)
theorem spec_IsSketch_eq (l : List Int) (t : Int) (hn : Sm l.length) : spec_IsSketch.g l t = some (isSketch l t) := by
  rw [spec_IsSketch.ge]
  refine loop1 (l := l) (fun i => spec_IsSketch.l0g i l t) (fun r => some (r.all (fun n => inR n 0 64) && ((decide (l.length = 0) || decide (l.length = 64)) && inR t 0 63))) ?_ ?_
  · rw [spec_IsSketch.l0e, if_neg not_lt_len]
    simp only [l1In_eq, Option.bind_some]
    by_cases h0 : l.length = 0
    · simp [h0]
    · by_cases h1 : l.length = 64
      · simp [h1]
      · rw [if_neg (by omega), if_neg (by omega)]; simp [h0, h1]
  · intro i x r hi hx ih
    rw [spec_IsSketch.l0e, if_pos (nat_lt_len hi), if_pos (nat_nonneg i), w64_succ hi hn]
    simp only [rd, getD_x hx, l1In_eq, Option.bind_some, ih]
    cases h : inR x 0 64 <;> simp [h]
theorem impl_IsSketch_eq (l : List Int) (t : Int) (hn : Sm l.length) : impl_IsSketch.g l t = some (isSketch l t) := by
  rw [impl_IsSketch.ge]
  refine loop1 (l := l) (fun i => impl_IsSketch.l0g l (l.length : Int) i l t) (fun r => some (r.all (fun n => inR n 0 64) && ((decide (l.length = 0) || decide (l.length = 64)) && inR t 0 63))) ?_ ?_
  · rw [impl_IsSketch.l0e, if_neg not_lt_len]
    simp only [inRange_eq, Option.bind_some]
    by_cases h0 : l.length = 0
    · simp [h0]
    · by_cases h1 : l.length = 64
      · simp [h1]
      · rw [if_neg (by omega), if_neg (by omega)]; simp [h0, h1]
  · intro i x r hi hx ih
    rw [impl_IsSketch.l0e, if_pos (nat_lt_len hi), if_pos (nat_nonneg i), if_pos (nat_lt_len hi), w64_succ hi hn]
    simp only [rd, getD_x hx, inRange_eq, Option.bind_some, ih]
    cases h : inR x 0 64 <;> simp [h]
end Go.Proofs.Ytelmcjohkifeeaa.PA

namespace Go.Proofs.Ytelmcjohkifeeaa.PA
open Go.RowKit Go.Proofs.YtelmcjohkifeeaaW.PrintWords Go.Proofs.YtelmcjohkifeeaaW.PrintLast Go.Proofs.YtelmcjohkifeeaaW.PrintMore Go.Proofs.Ytelmcjohkifeeaa.Lim
set_option linter.unusedVariables false
set_option linter.unusedSimpArgs false
noncomputable def spec_EstimateKey.j0g (y0 : ByteArray) (y1 : Bool) (y2 : List Int) (y3 : Int) : Option (Int) := lim (fun k => spec_EstimateKey.j0 k y0 y1 y2 y3)
noncomputable def spec_EstimateKey.l0g (y0 : ByteArray) (y1 : Int) (y2 : Int) (y3 : List Int) (y4 : Int) : Option (Int) := lim (fun k => spec_EstimateKey.l0 k y0 y1 y2 y3 y4)
theorem spec_EstimateKey.j0L (y0 : ByteArray) (y1 : Bool) (y2 : List Int) (y3 : Int) : Lim (fun k => spec_EstimateKey.j0 k y0 y1 y2 y3) (spec_EstimateKey.j0g y0 y1 y2 y3) := Lim.of (fun k => (spec_EstimateKey.mono_l k).1 y0 y1 y2 y3)
theorem spec_EstimateKey.l0L (y0 : ByteArray) (y1 : Int) (y2 : Int) (y3 : List Int) (y4 : Int) : Lim (fun k => spec_EstimateKey.l0 k y0 y1 y2 y3 y4) (spec_EstimateKey.l0g y0 y1 y2 y3 y4) := Lim.of (fun k => (spec_EstimateKey.mono_l k).2 y0 y1 y2 y3 y4)
theorem spec_EstimateKey.j0e (x1 : ByteArray) (x15 : Bool) (x201000 : List Int) (x201001 : Int) : spec_EstimateKey.j0g x1 x15 x201000 x201001 = (if x15 = true then (some 0) else (spec_EstimateKey.l0g x1 64 0 x201000 x201001)) := by
  refine Lim.round (spec_EstimateKey.j0L x1 x15 x201000 x201001) ?_
  show Lim (fun k => if x15 = true then (some 0) else (spec_EstimateKey.l0 k x1 64 0 x201000 x201001)) _
  repeat' first | (with_reducible exact Lim.const _) | (with_reducible exact spec_EstimateKey.j0L _ _ _ _) | (with_reducible exact spec_EstimateKey.l0L _ _ _ _ _) | (with_reducible exact spec_HashText.L _ _) | (with_reducible exact spec_IsSketch.L _ _) | (with_reducible refine Lim.ite ?_ ?_) | (with_reducible refine Lim.bind ?_ (fun _ => ?_)) | exact Lim.const _ | refine Lim.ite ?_ ?_ | refine Lim.bind ?_ (fun _ => ?_) | exact spec_EstimateKey.j0L _ _ _ _ | exact spec_EstimateKey.l0L _ _ _ _ _ | exact spec_HashText.L _ _ | exact spec_IsSketch.L _ _
theorem spec_EstimateKey.l0e (x1 : ByteArray) (x5 : Int) (x6 : Int) (x201000 : List Int) (x201001 : Int) : spec_EstimateKey.l0g x1 x5 x6 x201000 x201001 = (if x6 < 4 then ((spec_HashText.g x6 x1).bind fun t202 => (if 0 ≤ (wrap64 ((wrap64 (x6 * 16)) + (Int.tmod t202 16))) then (if (wrap64 ((wrap64 (x6 * 16)) + (Int.tmod t202 16))) < (x201000.length : Int) then ((spec_Min.f x5 (rd x201000 (wrap64 ((wrap64 (x6 * 16)) + (Int.tmod t202 16))))).bind fun t204 => (spec_EstimateKey.l0g x1 t204 (wrap64 (x6 + 1)) x201000 x201001)) else (none)) else (none))) else (some x5)) := by
  refine Lim.round (spec_EstimateKey.l0L x1 x5 x6 x201000 x201001) ?_
  show Lim (fun k => if x6 < 4 then ((spec_HashText.f k x6 x1).bind fun t202 => (if 0 ≤ (wrap64 ((wrap64 (x6 * 16)) + (Int.tmod t202 16))) then (if (wrap64 ((wrap64 (x6 * 16)) + (Int.tmod t202 16))) < (x201000.length : Int) then ((spec_Min.f x5 (rd x201000 (wrap64 ((wrap64 (x6 * 16)) + (Int.tmod t202 16))))).bind fun t204 => (spec_EstimateKey.l0 k x1 t204 (wrap64 (x6 + 1)) x201000 x201001)) else (none)) else (none))) else (some x5)) _
  repeat' first | (with_reducible exact Lim.const _) | (with_reducible exact spec_EstimateKey.j0L _ _ _ _) | (with_reducible exact spec_EstimateKey.l0L _ _ _ _ _) | (with_reducible exact spec_HashText.L _ _) | (with_reducible exact spec_IsSketch.L _ _) | (with_reducible refine Lim.ite ?_ ?_) | (with_reducible refine Lim.bind ?_ (fun _ => ?_)) | exact Lim.const _ | refine Lim.ite ?_ ?_ | refine Lim.bind ?_ (fun _ => ?_) | exact spec_EstimateKey.j0L _ _ _ _ | exact spec_EstimateKey.l0L _ _ _ _ _ | exact spec_HashText.L _ _ | exact spec_IsSketch.L _ _
noncomputable def spec_EstimateKey.g (l0_0 : List Int) (a0_1 : Int) (a1 : ByteArray) : Option (Int) := lim (fun k => spec_EstimateKey.f k l0_0 a0_1 a1)
theorem spec_EstimateKey.L (l0_0 : List Int) (a0_1 : Int) (a1 : ByteArray) : Lim (fun k => spec_EstimateKey.f k l0_0 a0_1 a1) (spec_EstimateKey.g l0_0 a0_1 a1) := Lim.of (fun k => spec_EstimateKey.mono l0_0 a0_1 a1 k)
theorem spec_EstimateKey.ge (l0_0 : List Int) (a0_1 : Int) (a1 : ByteArray) : spec_EstimateKey.g l0_0 a0_1 a1 = ((spec_IsSketch.g l0_0 a0_1).bind fun t201 => (if t201 = true then (spec_EstimateKey.j0g a1 ((l0_0.length : Int) == 0) l0_0 a0_1) else (spec_EstimateKey.j0g a1 true l0_0 a0_1))) := by
  refine Lim.uniq (spec_EstimateKey.L l0_0 a0_1 a1) ?_
  show Lim (fun k => (spec_IsSketch.f k l0_0 a0_1).bind fun t201 => (if t201 = true then (spec_EstimateKey.j0 k a1 ((l0_0.length : Int) == 0) l0_0 a0_1) else (spec_EstimateKey.j0 k a1 true l0_0 a0_1))) _
  repeat' first | (with_reducible exact Lim.const _) | (with_reducible exact spec_EstimateKey.j0L _ _ _ _) | (with_reducible exact spec_EstimateKey.l0L _ _ _ _ _) | (with_reducible exact spec_HashText.L _ _) | (with_reducible exact spec_IsSketch.L _ _) | (with_reducible refine Lim.ite ?_ ?_) | (with_reducible refine Lim.bind ?_ (fun _ => ?_)) | exact Lim.const _ | refine Lim.ite ?_ ?_ | refine Lim.bind ?_ (fun _ => ?_) | exact spec_EstimateKey.j0L _ _ _ _ | exact spec_EstimateKey.l0L _ _ _ _ _ | exact spec_HashText.L _ _ | exact spec_IsSketch.L _ _
end Go.Proofs.Ytelmcjohkifeeaa.PA

namespace Go.Proofs.Ytelmcjohkifeeaa.PA
open Go.RowKit Go.Proofs.YtelmcjohkifeeaaW.PrintWords Go.Proofs.YtelmcjohkifeeaaW.PrintLast Go.Proofs.YtelmcjohkifeeaaW.PrintMore Go.Proofs.Ytelmcjohkifeeaa.Lim
set_option linter.unusedVariables false
set_option linter.unusedSimpArgs false
noncomputable def impl_EstimateKey.j0g (y0 : ByteArray) (y1 : Bool) (y2 : List Int) (y3 : Int) : Option (Int) := lim (fun k => impl_EstimateKey.j0 k y0 y1 y2 y3)
noncomputable def impl_EstimateKey.l0g (y0 : ByteArray) (y1 : Int) (y2 : Int) (y3 : List Int) (y4 : Int) : Option (Int) := lim (fun k => impl_EstimateKey.l0 k y0 y1 y2 y3 y4)
theorem impl_EstimateKey.j0L (y0 : ByteArray) (y1 : Bool) (y2 : List Int) (y3 : Int) : Lim (fun k => impl_EstimateKey.j0 k y0 y1 y2 y3) (impl_EstimateKey.j0g y0 y1 y2 y3) := Lim.of (fun k => (impl_EstimateKey.mono_l k).1 y0 y1 y2 y3)
theorem impl_EstimateKey.l0L (y0 : ByteArray) (y1 : Int) (y2 : Int) (y3 : List Int) (y4 : Int) : Lim (fun k => impl_EstimateKey.l0 k y0 y1 y2 y3 y4) (impl_EstimateKey.l0g y0 y1 y2 y3 y4) := Lim.of (fun k => (impl_EstimateKey.mono_l k).2 y0 y1 y2 y3 y4)
theorem impl_EstimateKey.j0e (x1 : ByteArray) (x15 : Bool) (x233000 : List Int) (x233001 : Int) : impl_EstimateKey.j0g x1 x15 x233000 x233001 = (if x15 = true then (some 0) else (impl_EstimateKey.l0g x1 64 0 x233000 x233001)) := by
  refine Lim.round (impl_EstimateKey.j0L x1 x15 x233000 x233001) ?_
  show Lim (fun k => if x15 = true then (some 0) else (impl_EstimateKey.l0 k x1 64 0 x233000 x233001)) _
  repeat' first | (with_reducible exact Lim.const _) | (with_reducible exact impl_EstimateKey.j0L _ _ _ _) | (with_reducible exact impl_EstimateKey.l0L _ _ _ _ _) | (with_reducible exact impl_placeIn.L _ _) | (with_reducible exact impl_IsSketch.L _ _) | (with_reducible refine Lim.ite ?_ ?_) | (with_reducible refine Lim.bind ?_ (fun _ => ?_)) | exact Lim.const _ | refine Lim.ite ?_ ?_ | refine Lim.bind ?_ (fun _ => ?_) | exact impl_EstimateKey.j0L _ _ _ _ | exact impl_EstimateKey.l0L _ _ _ _ _ | exact impl_placeIn.L _ _ | exact impl_IsSketch.L _ _
theorem impl_EstimateKey.l0e (x1 : ByteArray) (x5 : Int) (x16 : Int) (x233000 : List Int) (x233001 : Int) : impl_EstimateKey.l0g x1 x5 x16 x233000 x233001 = (if x16 < 4 then ((impl_placeIn.g x16 x1).bind fun t234 => (if 0 ≤ t234 then (if t234 < (x233000.length : Int) then (impl_EstimateKey.l0g x1 (mn x5 (rd x233000 t234)) (wrap64 (x16 + 1)) x233000 x233001) else (none)) else (none))) else (some x5)) := by
  refine Lim.round (impl_EstimateKey.l0L x1 x5 x16 x233000 x233001) ?_
  show Lim (fun k => if x16 < 4 then ((impl_placeIn.f k x16 x1).bind fun t234 => (if 0 ≤ t234 then (if t234 < (x233000.length : Int) then (impl_EstimateKey.l0 k x1 (mn x5 (rd x233000 t234)) (wrap64 (x16 + 1)) x233000 x233001) else (none)) else (none))) else (some x5)) _
  repeat' first | (with_reducible exact Lim.const _) | (with_reducible exact impl_EstimateKey.j0L _ _ _ _) | (with_reducible exact impl_EstimateKey.l0L _ _ _ _ _) | (with_reducible exact impl_placeIn.L _ _) | (with_reducible exact impl_IsSketch.L _ _) | (with_reducible refine Lim.ite ?_ ?_) | (with_reducible refine Lim.bind ?_ (fun _ => ?_)) | exact Lim.const _ | refine Lim.ite ?_ ?_ | refine Lim.bind ?_ (fun _ => ?_) | exact impl_EstimateKey.j0L _ _ _ _ | exact impl_EstimateKey.l0L _ _ _ _ _ | exact impl_placeIn.L _ _ | exact impl_IsSketch.L _ _
noncomputable def impl_EstimateKey.g (l0_0 : List Int) (a0_1 : Int) (a1 : ByteArray) : Option (Int) := lim (fun k => impl_EstimateKey.f k l0_0 a0_1 a1)
theorem impl_EstimateKey.L (l0_0 : List Int) (a0_1 : Int) (a1 : ByteArray) : Lim (fun k => impl_EstimateKey.f k l0_0 a0_1 a1) (impl_EstimateKey.g l0_0 a0_1 a1) := Lim.of (fun k => impl_EstimateKey.mono l0_0 a0_1 a1 k)
theorem impl_EstimateKey.ge (l0_0 : List Int) (a0_1 : Int) (a1 : ByteArray) : impl_EstimateKey.g l0_0 a0_1 a1 = ((impl_IsSketch.g l0_0 a0_1).bind fun t233 => (if t233 = true then (impl_EstimateKey.j0g a1 ((l0_0.length : Int) == 0) l0_0 a0_1) else (impl_EstimateKey.j0g a1 true l0_0 a0_1))) := by
  refine Lim.uniq (impl_EstimateKey.L l0_0 a0_1 a1) ?_
  show Lim (fun k => (impl_IsSketch.f k l0_0 a0_1).bind fun t233 => (if t233 = true then (impl_EstimateKey.j0 k a1 ((l0_0.length : Int) == 0) l0_0 a0_1) else (impl_EstimateKey.j0 k a1 true l0_0 a0_1))) _
  repeat' first | (with_reducible exact Lim.const _) | (with_reducible exact impl_EstimateKey.j0L _ _ _ _) | (with_reducible exact impl_EstimateKey.l0L _ _ _ _ _) | (with_reducible exact impl_placeIn.L _ _) | (with_reducible exact impl_IsSketch.L _ _) | (with_reducible refine Lim.ite ?_ ?_) | (with_reducible refine Lim.bind ?_ (fun _ => ?_)) | exact Lim.const _ | refine Lim.ite ?_ ?_ | refine Lim.bind ?_ (fun _ => ?_) | exact impl_EstimateKey.j0L _ _ _ _ | exact impl_EstimateKey.l0L _ _ _ _ _ | exact impl_placeIn.L _ _ | exact impl_IsSketch.L _ _
end Go.Proofs.Ytelmcjohkifeeaa.PA

namespace Go.Proofs.Ytelmcjohkifeeaa.PA
open Go.RowKit Go.Proofs.YtelmcjohkifeeaaW.PrintWords Go.Proofs.YtelmcjohkifeeaaW.PrintLast Go.Proofs.YtelmcjohkifeeaaW.PrintMore Go.Proofs.Ytelmcjohkifeeaa.Base Go.Proofs.Ytelmcjohkifeeaa.Lim
set_option linter.unusedVariables false
set_option linter.unusedSimpArgs false
theorem smin_eq (a b : Int) : spec_Min.f a b = some (mn a b) := by
  unfold spec_Min.f mn
  split <;> rfl
theorem place_tells (row : Int) (h0 : 0 ≤ row) (h1 : row < 4) (s : ByteArray) (hs : s.size ≤ 1099511627776) : ∃ h p, spec_HashText.g row s = some h ∧ wrap64 ((wrap64 (row * 16)) + (Int.tmod h 16)) = p ∧ impl_placeIn.g row s = some p ∧ 16 * row ≤ p ∧ p < 16 * row + 16 := by
  obtain ⟨h, e1, e2, hd, _⟩ := hashText_tells row s hs
  have b0 := Int.tmod_nonneg 16 hd
  have b1 : Int.tmod h 16 < 16 := Int.tmod_lt_of_pos _ (by omega)
  have e : wrap64 ((wrap64 (row * 16)) + (Int.tmod h 16)) = row * 16 + Int.tmod h 16 := by rw [w64 (x := row * 16) (by omega) (by omega), w64 (by omega) (by omega)]
  refine ⟨h, _, e1, rfl, ?_, by rw [e]; omega, by rw [e]; omega⟩
  rw [impl_placeIn.ge, e2]
  rfl
theorem estimate_tells (l : List Int) (t : Int) (s : ByteArray) (hn : Sm l.length) (hs : s.size ≤ 1099511627776) : ∃ r, spec_EstimateKey.g l t s = some r ∧ impl_EstimateKey.g l t s = some r := by
  rw [spec_EstimateKey.ge, impl_EstimateKey.ge, spec_IsSketch_eq _ _ hn, impl_IsSketch_eq _ _ hn, Option.bind_some, Option.bind_some]
  by_cases hk : isSketch l t = true
  · rw [if_pos hk, if_pos hk, spec_EstimateKey.j0e, impl_EstimateKey.j0e]
    by_cases h0 : l.length = 0
    · exact ⟨0, by rw [if_pos (by simp [h0])], by rw [if_pos (by simp [h0])]⟩
    · have h64 : l.length = 64 := by
        unfold isSketch at hk
        simp at hk
        have := hk.2.1
        rcases this with h | h
        · exact absurd (by rw [h]; rfl) h0
        · exact h
      rw [if_neg (by simp; intro e; exact h0 (by rw [e]; rfl)), if_neg (by simp; intro e; exact h0 (by rw [e]; rfl))]
      have key : ∀ i : Nat, i ≤ 4 → ∀ m, ∃ r, spec_EstimateKey.l0g s m (i : Int) l t = some r ∧ impl_EstimateKey.l0g s m (i : Int) l t = some r := by
        refine down ?_ ?_
        · intro m
          exact ⟨m, by rw [spec_EstimateKey.l0e, if_neg (by omega)], by rw [impl_EstimateKey.l0e, if_neg (by omega)]⟩
        · intro i hi ih m
          obtain ⟨h, p, e1, ep, e2, b0, b1⟩ := place_tells (i : Int) (by omega) (by omega) s hs
          obtain ⟨r, r1, r2⟩ := ih (mn m (rd l p))
          refine ⟨r, ?_, ?_⟩
          · rw [spec_EstimateKey.l0e, if_pos (by omega), e1, Option.bind_some, ep, if_pos (by omega), if_pos (by omega), smin_eq, Option.bind_some, w64_succ hi (by unfold Sm; omega)]; exact r1
          · rw [impl_EstimateKey.l0e, if_pos (by omega), e2, Option.bind_some, if_pos (by omega), if_pos (by omega), w64_succ hi (by unfold Sm; omega)]; exact r2
      exact key 0 (by omega) 64
  · rw [if_neg hk, if_neg hk, spec_EstimateKey.j0e, impl_EstimateKey.j0e, if_pos rfl, if_pos rfl]
    exact ⟨0, rfl, rfl⟩
end Go.Proofs.Ytelmcjohkifeeaa.PA

namespace Go.Proofs.Ytelmcjohkifeeaa.PA
open Go.RowKit Go.Proofs.YtelmcjohkifeeaaW.PrintWords Go.Proofs.YtelmcjohkifeeaaW.PrintLast Go.Proofs.YtelmcjohkifeeaaW.PrintMore Go.Proofs.Ytelmcjohkifeeaa.Base Go.Proofs.Ytelmcjohkifeeaa.Lim
set_option linter.unusedVariables false
set_option linter.unusedSimpArgs false
theorem clone_int (l : List Int) (h : l.length < 17592186044416) : slices_Clone_int_int.f l = some l := by
  simp [slices_Clone_int_int.f, h]
theorem halve_tells (t : Int) : ∀ j : Nat, j ≤ 64 → ∀ l : List Int, l.length = 64 → ∃ l', spec_TouchKey.l1g (j : Int) l t = some (l', t) ∧ impl_TouchKey.l1g 64 (j : Int) l t = some (l', t) ∧ l'.length = 64 := by
  refine down ?_ ?_
  · intro l hl
    exact ⟨l, by rw [spec_TouchKey.l1e, if_neg (by omega)], by rw [impl_TouchKey.l1e, if_neg (by omega)], hl⟩
  · intro j hj ih l hl
    obtain ⟨l', e1, e2, h⟩ := ih (l.set ((j : Nat) : Int).toNat (wrap64 (Int.tdiv (rd l (j : Int)) 2))) (by rw [List.length_set]; exact hl)
    refine ⟨l', ?_, ?_, h⟩
    · rw [spec_TouchKey.l1e, if_pos (by omega), if_pos (by omega), w64_succ hj (by unfold Sm; omega)]; exact e1
    · rw [impl_TouchKey.l1e, if_pos (by omega), if_pos (by omega), if_pos (by omega), w64_succ hj (by unfold Sm; omega)]; exact e2
theorem rows_tell (t : Int) (s : ByteArray) (hs : s.size ≤ 1099511627776) : ∀ i : Nat, i ≤ 4 → ∀ l : List Int, l.length = 64 → ∃ l' t', spec_TouchKey.l0g s (i : Int) l t = some (l', t') ∧ impl_TouchKey.l0g s (i : Int) l t = some (l', t') ∧ l'.length = 64 := by
  refine down ?_ ?_
  · intro l hl
    have f1 := spec_TouchKey.l0e s ((4 : Nat) : Int) l t
    have f2 := impl_TouchKey.l0e s ((4 : Nat) : Int) l t
    rw [if_neg (show ¬ ((4 : Nat) : Int) < 4 by omega)] at f1 f2
    rw [f1, f2]
    by_cases ht : wrap64 (t + 1) = 64
    · rw [if_pos ht, if_pos ht, hl]
      obtain ⟨l', e1, e2, h⟩ := halve_tells 32 0 (by omega) l hl
      exact ⟨l', 32, e1, e2, h⟩
    · rw [if_neg ht, if_neg ht]
      exact ⟨l, _, rfl, rfl, hl⟩
  · intro i hi ih l hl
    obtain ⟨h, p, e1, ep, e2, b0, b1⟩ := place_tells (i : Int) (by omega) (by omega) s hs
    obtain ⟨l', t', r1, r2, hl'⟩ := ih (l.set (p : Int).toNat (wrap64 ((rd l p) + 1))) (by rw [List.length_set]; exact hl)
    refine ⟨l', t', ?_, ?_, hl'⟩
    · rw [spec_TouchKey.l0e, if_pos (by omega), e1, Option.bind_some, ep, if_pos (by omega), if_pos (by omega), w64_succ hi (by unfold Sm; omega)]; exact r1
    · rw [impl_TouchKey.l0e, if_pos (by omega), e2, Option.bind_some, if_pos (by omega), if_pos (by omega), w64_succ hi (by unfold Sm; omega)]; exact r2
theorem touch_tells (l : List Int) (t : Int) (s : ByteArray) (hn : l.length < 17592186044416) (hs : s.size ≤ 1099511627776) : ∃ l' t', spec_TouchKey.g l t s = some (l', t') ∧ impl_TouchKey.g l t s = some (l', t') ∧ l'.length ≤ l.length + 64 := by
  have hm : Sm l.length := by unfold Sm; omega
  rw [spec_TouchKey.ge, impl_TouchKey.ge, spec_IsSketch_eq _ _ hm, impl_IsSketch_eq _ _ hm, clone_int l hn]
  simp only [Option.bind_some]
  by_cases hk : isSketch l t = true
  · rw [if_pos hk, if_pos hk]
    by_cases h0 : l.length = 0
    · have e : spec_l26Copy.f l t = some (List.replicate 64 0, t) := by
        have hz := List.eq_nil_of_length_eq_zero h0
        simp [spec_l26Copy.f, hz]
      rw [e, Option.bind_some, if_pos (by omega), if_pos (by omega), impl_TouchKey.j0e]
      obtain ⟨l', t', e1, e2, h⟩ := rows_tell t s hs 0 (by omega) (List.replicate 64 0) (by simp)
      exact ⟨l', t', e1, e2, by omega⟩
    · have h64 : l.length = 64 := by
        unfold isSketch at hk
        simp at hk
        rcases hk.2.1 with h | h
        · exact absurd (by rw [h]; rfl) h0
        · exact h
      have e : spec_l26Copy.f l t = some (l, t) := by
        simp [spec_l26Copy.f, h64]
        intro he; exact absurd (by rw [he]; rfl) h0
      rw [e, Option.bind_some, if_neg (by omega), impl_TouchKey.j0e]
      obtain ⟨l', t', e1, e2, h⟩ := rows_tell t s hs 0 (by omega) l h64
      exact ⟨l', t', e1, e2, by omega⟩
  · rw [if_neg hk, if_neg hk]
    refine ⟨l, t, ?_, rfl, by omega⟩
    simp [hn]
end Go.Proofs.Ytelmcjohkifeeaa.PA
