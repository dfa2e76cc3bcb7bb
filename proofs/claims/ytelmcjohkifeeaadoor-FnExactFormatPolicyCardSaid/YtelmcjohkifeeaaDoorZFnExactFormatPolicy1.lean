/- Laws about the functions that FnExactFormatPolicy reaches. Conditions: bounds on sizes. -/
import Derived.Test.YtelmcjohkifeeaaDoorWMore
import Derived.Lib.ItoaLen
import Derived.Test.YtelmcjohkifeeaaDoorZFnExactFormatPolicy0
namespace Go.Proofs.YtelmcjohkifeeaaDoor.Lim
open Go.RowKit Go.Proofs.YtelmcjohkifeeaaDoorW.PrintWords Go.Proofs.YtelmcjohkifeeaaDoorW.PrintLast Go.Proofs.YtelmcjohkifeeaaDoorW.PrintMore
set_option linter.unusedVariables false

def Mono {α : Type} (g : Nat → Option α) : Prop := ∀ k, LeO (g k) (g (k + 1))
open Classical in
noncomputable def lim {α : Type} (g : Nat → Option α) : Option α := if h : ∃ r, ∃ k, g k = some r then some (Classical.choose h) else none

theorem Mono.uniq {α : Type} {g : Nat → Option α} (hg : Mono g) {k k' : Nat} {r r' : α} (h : g k = some r) (h' : g k' = some r') : r = r' := by
  have h1 := at_rounds hg (Nat.le_max_left k k') h
  have h2 := at_rounds hg (Nat.le_max_right k k') h'
  exact Option.some.inj (h1.symm.trans h2)

theorem lim_some {α : Type} {g : Nat → Option α} (hg : Mono g) {r : α} : lim g = some r ↔ ∃ k, g k = some r := by
  unfold lim
  constructor
  · intro h
    split at h
    · rename_i he
      obtain ⟨k, hk⟩ := Classical.choose_spec he
      cases h
      exact ⟨k, hk⟩
    · cases h
  · rintro ⟨k, hk⟩
    have he : ∃ r, ∃ k, g k = some r := ⟨r, k, hk⟩
    rw [dif_pos he]
    obtain ⟨k', hk'⟩ := Classical.choose_spec he
    exact congrArg some (hg.uniq hk' hk)

/-- With enough rounds g comes to x; more rounds tell the same. -/
def Lim {α : Type} (g : Nat → Option α) (x : Option α) : Prop := Mono g ∧ lim g = x

theorem Lim.of {α : Type} {g : Nat → Option α} (h : ∀ k, LeO (g k) (g (k + 1))) : Lim g (lim g) := ⟨h, rfl⟩
theorem Lim.intro {α : Type} {g : Nat → Option α} {x : Option α} (hg : Mono g) (h : ∀ r, x = some r ↔ ∃ k, g k = some r) : Lim g x := by
  refine ⟨hg, ?_⟩
  cases hx : x with
  | some r => exact (lim_some hg).2 ((h r).1 hx)
  | none =>
    cases hl : lim g with
    | none => rfl
    | some r =>
      have := (h r).2 ((lim_some hg).1 hl)
      rw [hx] at this
      cases this
theorem Lim.iff {α : Type} {g : Nat → Option α} {x : Option α} (h : Lim g x) {r : α} : x = some r ↔ ∃ k, g k = some r := by
  rw [← h.2]
  exact lim_some h.1
theorem Lim.const {α : Type} (x : Option α) : Lim (fun _ => x) x := Lim.intro (fun _ => LeO.refl _) (fun r => ⟨fun h => ⟨0, h⟩, fun ⟨_, h⟩ => h⟩)
theorem Lim.ite {α : Type} {c : Prop} [Decidable c] {g f : Nat → Option α} {x y : Option α} (hg : Lim g x) (hf : Lim f y) : Lim (fun k => if c then g k else f k) (if c then x else y) := by
  by_cases h : c
  · simp only [if_pos h]; exact hg
  · simp only [if_neg h]; exact hf
theorem Lim.bind {α β : Type} {g : Nat → Option α} {f : Nat → α → Option β} {x : Option α} {y : α → Option β} (hg : Lim g x) (hf : ∀ a, Lim (fun k => f k a) (y a)) : Lim (fun k => (g k).bind (f k)) (x.bind y) := by
  refine Lim.intro (fun k => LeO.bind (hg.1 k) (fun a => (hf a).1 k)) (fun r => ?_)
  constructor
  · intro h
    obtain ⟨a, ha, hr⟩ := Option.bind_eq_some_iff.1 h
    obtain ⟨k, hk⟩ := hg.iff.1 ha
    obtain ⟨k', hk'⟩ := (hf a).iff.1 hr
    refine ⟨max k k', Option.bind_eq_some_iff.2 ⟨a, at_rounds hg.1 (Nat.le_max_left _ _) hk, ?_⟩⟩
    exact at_rounds (g := fun k => f k a) (hf a).1 (Nat.le_max_right _ _) hk'
  · rintro ⟨k, hk⟩
    obtain ⟨a, ha, hr⟩ := Option.bind_eq_some_iff.1 hk
    exact Option.bind_eq_some_iff.2 ⟨a, hg.iff.2 ⟨k, ha⟩, (hf a).iff.2 ⟨k, hr⟩⟩
theorem Lim.succ {α : Type} {g : Nat → Option α} {x : Option α} (h : Lim g x) : Lim (fun k => g (k + 1)) x := by
  refine Lim.intro (fun k => h.1 (k + 1)) (fun r => ?_)
  rw [h.iff]
  constructor
  · rintro ⟨k, hk⟩; exact ⟨k, h.1 k r hk⟩
  · rintro ⟨k, hk⟩; exact ⟨k + 1, hk⟩
theorem Lim.uniq {α : Type} {g : Nat → Option α} {x y : Option α} (h : Lim g x) (h' : Lim g y) : x = y := h.2.symm.trans h'.2
/-- A loop's equation: one round of it. -/
theorem Lim.round {α : Type} {g : Nat → Option α} {x y : Option α} (h : Lim g x) (h' : Lim (fun k => g (k + 1)) y) : x = y := h.succ.uniq h'
theorem Lim.rounds {α : Type} {g : Nat → Option α} {x : Option α} (h : Lim g x) {r : α} (hx : x = some r) : ∃ k, g k = some r := h.iff.1 hx

end Go.Proofs.YtelmcjohkifeeaaDoor.Lim

namespace Go.Proofs.YtelmcjohkifeeaaDoor.Base
open Go.RowKit Go.Proofs.YtelmcjohkifeeaaDoorW.PrintWords Go.Proofs.YtelmcjohkifeeaaDoorW.PrintLast Go.Proofs.YtelmcjohkifeeaaDoorW.PrintMore Go.Proofs.YtelmcjohkifeeaaDoor.Lim
set_option linter.unusedVariables false

def Big : Nat := 4611686018427387904
theorem Big_eq : Big = 4611686018427387904 := rfl
/-- Far below the bound of an int. -/
abbrev Sm (n : Nat) : Prop := n ≤ 4611686018427387904

theorem w64 {x : Int} (h0 : -9223372036854775808 ≤ x) (h1 : x ≤ 9223372036854775807) : wrap64 x = x := by
  unfold wrap64
  omega
theorem w64_succ {i n : Nat} (h : i < n) (hn : Sm n) : wrap64 ((i : Int) + 1) = ((i + 1 : Nat) : Int) := by
  rw [w64 (by omega) (by unfold Sm at hn; omega)]
  rfl
theorem down {n : Nat} {C : Nat → Prop} (h0 : C n) (hs : ∀ i, i < n → C (i + 1) → C i) : ∀ i, i ≤ n → C i := by
  intro i hi
  obtain ⟨d, rfl⟩ : ∃ d, n = i + d := ⟨n - i, by omega⟩
  clear hi
  induction d generalizing i with
  | zero => exact h0
  | succ d ih =>
    refine hs i (by omega) (ih (i + 1) ?_ ?_)
    · rw [show i + 1 + d = i + (d + 1) by omega]; exact h0
    · intro j hj hc
      exact hs j (by omega) hc
theorem drop_cons {α : Type} {l : List α} {i : Nat} (h : i < l.length) : l.drop i = l[i] :: l.drop (i + 1) := List.drop_eq_getElem_cons h
theorem getD_at {α : Type} {l : List α} {i : Nat} {d : α} (h : i < l.length) : l.getD i d = l[i] := by
  rw [List.getD_eq_getElem?_getD, List.getElem?_eq_getElem h]
  rfl
theorem nat_lt_len {α : Type} {l : List α} {i : Nat} (h : i < l.length) : (i : Int) < (l.length : Int) := by omega
theorem not_lt_len {α : Type} {l : List α} : ¬ (l.length : Int) < (l.length : Int) := by omega
theorem nat_nonneg (i : Nat) : (0 : Int) ≤ (i : Int) := by omega

/-- A loop over a list, from place i on, with what it carries. -/
theorem loop {α σ R : Type} {l : List α} {L : σ → Int → R} {M : σ → List α → R} (hnil : ∀ s, L s (l.length : Int) = M s [])
    (hcons : ∀ (i : Nat) (x : α) (r : List α), i < l.length → l[i]? = some x → (∀ s, L s ((i + 1 : Nat) : Int) = M s r) → ∀ s, L s (i : Int) = M s (x :: r)) :
    ∀ i, i ≤ l.length → ∀ s, L s (i : Int) = M s (l.drop i) := by
  refine down ?_ ?_
  · intro s
    rw [List.drop_length]
    exact hnil s
  · intro i hi ih s
    rw [drop_cons hi]
    exact hcons i _ _ hi (List.getElem?_eq_getElem hi) ih s
theorem loop0 {α σ R : Type} {l : List α} (L : σ → Int → R) (M : σ → List α → R) (hnil : ∀ s, L s (l.length : Int) = M s [])
    (hcons : ∀ (i : Nat) (x : α) (r : List α), i < l.length → l[i]? = some x → (∀ s, L s ((i + 1 : Nat) : Int) = M s r) → ∀ s, L s (i : Int) = M s (x :: r)) (s : σ) : L s 0 = M s l := by
  have := loop hnil hcons 0 (by omega) s
  simpa using this
/-- .. that carries nothing. -/
theorem loop1 {α R : Type} {l : List α} (L : Int → R) (M : List α → R) (hnil : L (l.length : Int) = M [])
    (hcons : ∀ (i : Nat) (x : α) (r : List α), i < l.length → l[i]? = some x → L ((i + 1 : Nat) : Int) = M r → L (i : Int) = M (x :: r)) : L 0 = M l :=
  loop0 (σ := Unit) (fun _ i => L i) (fun _ r => M r) (fun _ => hnil) (fun i x r hi hx ih _ => hcons i x r hi hx (ih ())) ()
theorem getD_x {α : Type} {l : List α} {i : Nat} {x d : α} (h : l[i]? = some x) : l.getD (i : Int).toNat d = x := by
  rw [Int.toNat_natCast, List.getD_eq_getElem?_getD, h]
  rfl

/-- .. under a condition on what it carries. -/
theorem loopP {α σ R : Type} {l : List α} (L : σ → Int → R) (M : σ → List α → R) (P : σ → Prop) (hnil : ∀ s, P s → L s (l.length : Int) = M s [])
    (hcons : ∀ (i : Nat) (x : α) (r : List α), i < l.length → l[i]? = some x → (∀ s, P s → L s ((i + 1 : Nat) : Int) = M s r) → ∀ s, P s → L s (i : Int) = M s (x :: r)) (s : σ) (hs : P s) : L s 0 = M s l := by
  have key : ∀ i, i ≤ l.length → ∀ s, P s → L s (i : Int) = M s (l.drop i) := by
    refine down ?_ ?_
    · intro s hs
      rw [List.drop_length]
      exact hnil s hs
    · intro i hi ih s hs
      rw [drop_cons hi]
      exact hcons i _ _ hi (List.getElem?_eq_getElem hi) ih s hs
  have := key 0 (by omega) s hs
  simpa using this

/-- What is left of a measure, -1 where it does not reach. -/
def sub (left : Int) (n : Nat) : Int := if (n : Int) ≤ left then left - n else -1
theorem sub_neg {left : Int} {n : Nat} (h : left < (n : Int)) : some (-1) = some (sub left n) := by
  unfold sub
  rw [if_neg (by omega)]
theorem sub_lt {left : Int} {n : Nat} (h : left < (n : Int)) : sub left n < 0 := by
  unfold sub
  rw [if_neg (by omega)]
  omega
theorem sub_nlt {left : Int} {n : Nat} (h0 : 0 ≤ left) (h : ¬ left < (n : Int)) : ¬ sub left n < 0 := by
  unfold sub
  rw [if_pos (by omega)]
  omega
theorem sub_ge {left : Int} {n : Nat} (h : ¬ left < (n : Int)) : sub left n = left - n := by
  unfold sub
  rw [if_pos (by omega)]
theorem sub_add {left : Int} {n m : Nat} (h : ¬ left < (n : Int)) : sub (left - n) m = sub left (n + m) := by
  unfold sub
  by_cases c : (m : Int) ≤ left - n
  · rw [if_pos c, if_pos (by omega)]; omega
  · rw [if_neg c, if_neg (by omega)]
theorem sub_step {left : Int} {n m : Nat} (h : ¬ left < (n : Int)) : some (sub (left - n) m) = some (sub left (n + m)) := by rw [sub_add h]

theorem set_append {α : Type} (xs : List α) (y : α) (z : α) (n : Nat) : (xs ++ y :: List.replicate n z).set xs.length = fun v => xs ++ v :: List.replicate n z := by
  funext v
  rw [List.set_append_right _ _ (Nat.le_refl _)]
  simp
/-- The way that a list is copied: place by place into a made one. -/
theorem copied {α β : Type} (f : α → β) (z : β) (l : List α) (i : Nat) (hi : i < l.length) :
    ((l.take i).map f ++ List.replicate (l.length - i) z).set i (f l[i]) = (l.take (i + 1)).map f ++ List.replicate (l.length - (i + 1)) z := by
  have hlen : ((l.take i).map f).length = i := by simp; omega
  rw [List.set_append_right _ _ (by omega), hlen, Nat.sub_self]
  obtain ⟨m, hm⟩ : ∃ m, l.length - i = m + 1 := ⟨l.length - i - 1, by omega⟩
  rw [hm, show l.length - (i + 1) = m by omega, List.replicate_succ, List.set_cons_zero, List.take_succ_eq_append_getElem hi, List.map_append]
  simp
theorem pure_of {g : Nat → Option Bool} {x : Option Bool} (h : Lim g x) (hx : x = some true) : ∃ k, g k = some true := h.rounds hx

end Go.Proofs.YtelmcjohkifeeaaDoor.Base

namespace Go.Proofs.YtelmcjohkifeeaaDoor.PA
open Go.RowKit Go.Proofs.YtelmcjohkifeeaaDoorW.PrintWords Go.Proofs.YtelmcjohkifeeaaDoorW.PrintLast Go.Proofs.YtelmcjohkifeeaaDoorW.PrintMore Go.Proofs.YtelmcjohkifeeaaDoor.Lim
set_option linter.unusedVariables false
set_option linter.unusedSimpArgs false
noncomputable def laws_szRuleS.l0g (y0 : List (S31)) (y1 : Int) (y2 : Int) : Option (Int) := lim (fun k => laws_szRuleS.l0 k y0 y1 y2)
theorem laws_szRuleS.l0L (y0 : List (S31)) (y1 : Int) (y2 : Int) : Lim (fun k => laws_szRuleS.l0 k y0 y1 y2) (laws_szRuleS.l0g y0 y1 y2) := Lim.of (fun k => (laws_szRuleS.mono_l k) y0 y1 y2)
theorem laws_szRuleS.l0e (x0 : List (S31)) (x1 : Int) (x5 : Int) : laws_szRuleS.l0g x0 x1 x5 = (if x5 < (x0.length : Int) then (if 0 ≤ x5 then ((laws_szRule.f ((rd_T31 x0 x5).f0) ((rd_T31 x0 x5).f1) ((rd_T31 x0 x5).f2) x1).bind fun t103 => (if t103 < 0 then (some (-1)) else (laws_szRuleS.l0g x0 t103 (wrap64 (x5 + 1))))) else (none)) else (some x1)) := by
  refine Lim.round (laws_szRuleS.l0L x0 x1 x5) ?_
  show Lim (fun k => if x5 < (x0.length : Int) then (if 0 ≤ x5 then ((laws_szRule.f ((rd_T31 x0 x5).f0) ((rd_T31 x0 x5).f1) ((rd_T31 x0 x5).f2) x1).bind fun t103 => (if t103 < 0 then (some (-1)) else (laws_szRuleS.l0 k x0 t103 (wrap64 (x5 + 1))))) else (none)) else (some x1)) _
  repeat' first | (with_reducible exact Lim.const _) | (with_reducible exact laws_szRuleS.l0L _ _ _) | (with_reducible refine Lim.ite ?_ ?_) | (with_reducible refine Lim.bind ?_ (fun _ => ?_)) | exact Lim.const _ | refine Lim.ite ?_ ?_ | refine Lim.bind ?_ (fun _ => ?_) | exact laws_szRuleS.l0L _ _ _
noncomputable def laws_szRuleS.g (l0 : List (S31)) (a1 : Int) : Option (Int) := lim (fun k => laws_szRuleS.f k l0 a1)
theorem laws_szRuleS.L (l0 : List (S31)) (a1 : Int) : Lim (fun k => laws_szRuleS.f k l0 a1) (laws_szRuleS.g l0 a1) := Lim.of (fun k => laws_szRuleS.mono l0 a1 k)
theorem laws_szRuleS.ge (l0 : List (S31)) (a1 : Int) : laws_szRuleS.g l0 a1 = (if (wrap64 (a1 - (l0.length : Int))) < 0 then (some (-1)) else (laws_szRuleS.l0g l0 (wrap64 (a1 - (l0.length : Int))) 0)) := by
  refine Lim.uniq (laws_szRuleS.L l0 a1) ?_
  show Lim (fun k => if (wrap64 (a1 - (l0.length : Int))) < 0 then (some (-1)) else (laws_szRuleS.l0 k l0 (wrap64 (a1 - (l0.length : Int))) 0)) _
  repeat' first | (with_reducible exact Lim.const _) | (with_reducible exact laws_szRuleS.l0L _ _ _) | (with_reducible refine Lim.ite ?_ ?_) | (with_reducible refine Lim.bind ?_ (fun _ => ?_)) | exact Lim.const _ | refine Lim.ite ?_ ?_ | refine Lim.bind ?_ (fun _ => ?_) | exact laws_szRuleS.l0L _ _ _
end Go.Proofs.YtelmcjohkifeeaaDoor.PA

namespace Go.Proofs.YtelmcjohkifeeaaDoor.PA
open Go.RowKit Go.Proofs.YtelmcjohkifeeaaDoorW.PrintWords Go.Proofs.YtelmcjohkifeeaaDoorW.PrintLast Go.Proofs.YtelmcjohkifeeaaDoorW.PrintMore Go.Proofs.YtelmcjohkifeeaaDoor.Lim
set_option linter.unusedVariables false
set_option linter.unusedSimpArgs false
noncomputable def laws_toRuleS.l0g (y0 : List (S31)) (y1 : List (S34)) (y2 : Int) : Option ((List (S34))) := lim (fun k => laws_toRuleS.l0 k y0 y1 y2)
theorem laws_toRuleS.l0L (y0 : List (S31)) (y1 : List (S34)) (y2 : Int) : Lim (fun k => laws_toRuleS.l0 k y0 y1 y2) (laws_toRuleS.l0g y0 y1 y2) := Lim.of (fun k => (laws_toRuleS.mono_l k) y0 y1 y2)
theorem laws_toRuleS.l0e (x0 : List (S31)) (x3 : List (S34)) (x4 : Int) : laws_toRuleS.l0g x0 x3 x4 = (if x4 < (x0.length : Int) then (if 0 ≤ x4 then ((laws_toRule.f ((rd_T31 x0 x4).f0) ((rd_T31 x0 x4).f1) ((rd_T31 x0 x4).f2)).bind fun bt127 => (if x4 < (x3.length : Int) then (laws_toRuleS.l0g x0 (x3.set (x4 : Int).toNat (⟨bt127.1, bt127.2.1, bt127.2.2⟩ : S34)) (wrap64 (x4 + 1))) else (none))) else (none)) else (some x3)) := by
  refine Lim.round (laws_toRuleS.l0L x0 x3 x4) ?_
  show Lim (fun k => if x4 < (x0.length : Int) then (if 0 ≤ x4 then ((laws_toRule.f ((rd_T31 x0 x4).f0) ((rd_T31 x0 x4).f1) ((rd_T31 x0 x4).f2)).bind fun bt127 => (if x4 < (x3.length : Int) then (laws_toRuleS.l0 k x0 (x3.set (x4 : Int).toNat (⟨bt127.1, bt127.2.1, bt127.2.2⟩ : S34)) (wrap64 (x4 + 1))) else (none))) else (none)) else (some x3)) _
  repeat' first | (with_reducible exact Lim.const _) | (with_reducible exact laws_toRuleS.l0L _ _ _) | (with_reducible refine Lim.ite ?_ ?_) | (with_reducible refine Lim.bind ?_ (fun _ => ?_)) | exact Lim.const _ | refine Lim.ite ?_ ?_ | refine Lim.bind ?_ (fun _ => ?_) | exact laws_toRuleS.l0L _ _ _
noncomputable def laws_toRuleS.g (l0 : List (S31)) : Option ((List (S34))) := lim (fun k => laws_toRuleS.f k l0)
theorem laws_toRuleS.L (l0 : List (S31)) : Lim (fun k => laws_toRuleS.f k l0) (laws_toRuleS.g l0) := Lim.of (fun k => laws_toRuleS.mono l0 k)
theorem laws_toRuleS.ge (l0 : List (S31)) : laws_toRuleS.g l0 = (if 0 ≤ (l0.length : Int) then (if ((l0.length : Int) : Int).toNat ≤ 8796093022208 then (laws_toRuleS.l0g l0 (List.replicate ((l0.length : Int) : Int).toNat z34) 0) else (none)) else (none)) := by
  refine Lim.uniq (laws_toRuleS.L l0) ?_
  show Lim (fun k => if 0 ≤ (l0.length : Int) then (if ((l0.length : Int) : Int).toNat ≤ 8796093022208 then (laws_toRuleS.l0 k l0 (List.replicate ((l0.length : Int) : Int).toNat z34) 0) else (none)) else (none)) _
  repeat' first | (with_reducible exact Lim.const _) | (with_reducible exact laws_toRuleS.l0L _ _ _) | (with_reducible refine Lim.ite ?_ ?_) | (with_reducible refine Lim.bind ?_ (fun _ => ?_)) | exact Lim.const _ | refine Lim.ite ?_ ?_ | refine Lim.bind ?_ (fun _ => ?_) | exact laws_toRuleS.l0L _ _ _
end Go.Proofs.YtelmcjohkifeeaaDoor.PA

namespace Go.Proofs.YtelmcjohkifeeaaDoor.PA
open Go.RowKit Go.Proofs.YtelmcjohkifeeaaDoorW.PrintWords Go.Proofs.YtelmcjohkifeeaaDoorW.PrintLast Go.Proofs.YtelmcjohkifeeaaDoorW.PrintMore Go.Proofs.YtelmcjohkifeeaaDoor.Lim
set_option linter.unusedVariables false
set_option linter.unusedSimpArgs false
noncomputable def laws_eqRuleS.l0g (y0 : List (S34)) (y1 : List (S34)) (y2 : Int) : Option (Bool) := lim (fun k => laws_eqRuleS.l0 k y0 y1 y2)
theorem laws_eqRuleS.l0L (y0 : List (S34)) (y1 : List (S34)) (y2 : Int) : Lim (fun k => laws_eqRuleS.l0 k y0 y1 y2) (laws_eqRuleS.l0g y0 y1 y2) := Lim.of (fun k => (laws_eqRuleS.mono_l k) y0 y1 y2)
theorem laws_eqRuleS.l0e (x0 : List (S34)) (x1 : List (S34)) (x5 : Int) : laws_eqRuleS.l0g x0 x1 x5 = (if x5 < (x0.length : Int) then (if 0 ≤ x5 then (if x5 < (x1.length : Int) then ((laws_eqRule.f ((rd_T34 x0 x5).f0) ((rd_T34 x0 x5).f1) ((rd_T34 x0 x5).f2) ((rd_T34 x1 x5).f0) ((rd_T34 x1 x5).f1) ((rd_T34 x1 x5).f2)).bind fun t159 => (if t159 = true then (laws_eqRuleS.l0g x0 x1 (wrap64 (x5 + 1))) else (some false))) else (none)) else (none)) else (some true)) := by
  refine Lim.round (laws_eqRuleS.l0L x0 x1 x5) ?_
  show Lim (fun k => if x5 < (x0.length : Int) then (if 0 ≤ x5 then (if x5 < (x1.length : Int) then ((laws_eqRule.f ((rd_T34 x0 x5).f0) ((rd_T34 x0 x5).f1) ((rd_T34 x0 x5).f2) ((rd_T34 x1 x5).f0) ((rd_T34 x1 x5).f1) ((rd_T34 x1 x5).f2)).bind fun t159 => (if t159 = true then (laws_eqRuleS.l0 k x0 x1 (wrap64 (x5 + 1))) else (some false))) else (none)) else (none)) else (some true)) _
  repeat' first | (with_reducible exact Lim.const _) | (with_reducible exact laws_eqRuleS.l0L _ _ _) | (with_reducible refine Lim.ite ?_ ?_) | (with_reducible refine Lim.bind ?_ (fun _ => ?_)) | exact Lim.const _ | refine Lim.ite ?_ ?_ | refine Lim.bind ?_ (fun _ => ?_) | exact laws_eqRuleS.l0L _ _ _
noncomputable def laws_eqRuleS.g (l0 : List (S34)) (l1 : List (S34)) : Option (Bool) := lim (fun k => laws_eqRuleS.f k l0 l1)
theorem laws_eqRuleS.L (l0 : List (S34)) (l1 : List (S34)) : Lim (fun k => laws_eqRuleS.f k l0 l1) (laws_eqRuleS.g l0 l1) := Lim.of (fun k => laws_eqRuleS.mono l0 l1 k)
theorem laws_eqRuleS.ge (l0 : List (S34)) (l1 : List (S34)) : laws_eqRuleS.g l0 l1 = (if (l0.length : Int) = (l1.length : Int) then (laws_eqRuleS.l0g l0 l1 0) else (some false)) := by
  refine Lim.uniq (laws_eqRuleS.L l0 l1) ?_
  show Lim (fun k => if (l0.length : Int) = (l1.length : Int) then (laws_eqRuleS.l0 k l0 l1 0) else (some false)) _
  repeat' first | (with_reducible exact Lim.const _) | (with_reducible exact laws_eqRuleS.l0L _ _ _) | (with_reducible refine Lim.ite ?_ ?_) | (with_reducible refine Lim.bind ?_ (fun _ => ?_)) | exact Lim.const _ | refine Lim.ite ?_ ?_ | refine Lim.bind ?_ (fun _ => ?_) | exact laws_eqRuleS.l0L _ _ _
end Go.Proofs.YtelmcjohkifeeaaDoor.PA

namespace Go.Proofs.YtelmcjohkifeeaaDoor.PA
open Go.RowKit Go.Proofs.YtelmcjohkifeeaaDoorW.PrintWords Go.Proofs.YtelmcjohkifeeaaDoorW.PrintLast Go.Proofs.YtelmcjohkifeeaaDoorW.PrintMore Go.Proofs.YtelmcjohkifeeaaDoor.Base Go.Proofs.YtelmcjohkifeeaaDoor.Lim
set_option linter.unusedVariables false
set_option linter.unusedSimpArgs false

def Bd31 (x : S31) : Prop := (Lit.int .i64 x.f0).wf = true ∧ x.f1.size ≤ 140737488351232 ∧ (Lit.int .i64 x.f2).wf = true
def wt_Rule (x : S31) : Nat := x.f1.size
def conv_Rule (x : S31) : S34 := ⟨x.f0, x.f1, x.f2⟩
theorem sz_Rule (a0 : Int) (a1 : ByteArray) (a2 : Int) (left : Int) (h1 : a1.size ≤ 140737488351232) (hl : 0 ≤ left) (hm : left ≤ 4611686018427387904) : laws_szRule.f a0 a1 a2 left = some (sub left (a1.size)) := by
  unfold laws_szRule.f
  rw [w64 (x := left - (a1.size : Int)) (by omega) (by omega)]
  by_cases c0 : left - (a1.size : Int) < 0
  · rw [if_pos c0]; exact sub_neg (by omega)
  rw [if_neg c0]
  all_goals (refine congrArg some ?_; first | (rw [sub_ge (by omega)]; done) | (rw [sub_ge (by omega)]; omega))
theorem to_Rule (a0 : Int) (a1 : ByteArray) (a2 : Int)  : laws_toRule.f a0 a1 a2 = some (a0, a1, a2) := by
  rfl
theorem eq_Rule (a0 : Int) (a1 : ByteArray) (a2 : Int)  : laws_eqRule.f a0 a1 a2 a0 a1 a2 = some true := by
  unfold laws_eqRule.f
  simp
def wtS_Rule : List S31 → Nat := fun l => l.length + (l.map wt_Rule).sum
theorem szS_Rule (l : List S31) (left : Int) (h : l.length * 32 ≤ 140737488351232 ∧ l.length ≤ maxLen ∧ ∀ y ∈ l, Bd31 y) (hl : 0 ≤ left) (hm : left ≤ 4611686018427387904) : laws_szRuleS.g l left = some (sub left (wtS_Rule l)) := by
  obtain ⟨h1, h2, h3⟩ := h
  have hn : Sm l.length := by unfold Sm; omega
  rw [laws_szRuleS.ge, w64 (by omega) (by omega)]
  unfold wtS_Rule
  by_cases c : left - (l.length : Int) < 0
  · rw [if_pos c]; exact sub_neg (by omega)
  rw [if_neg c]
  have key := loopP (l := l) (fun s i => laws_szRuleS.l0g l s i) (fun s r => some (sub s ((r.map wt_Rule).sum))) (fun s => 0 ≤ s ∧ s ≤ 4611686018427387904) ?_ ?_ (left - (l.length : Int)) ⟨by omega, by omega⟩
  · rw [key, sub_add (by omega)]
  · rintro s ⟨hs0, hs1⟩
    rw [laws_szRuleS.l0e, if_neg not_lt_len]
    simp [sub, hs0]
  · rintro i x r hi hx ih s ⟨hs0, hs1⟩
    have hb := h3 x (List.mem_of_getElem? hx)
    rw [laws_szRuleS.l0e, if_pos (nat_lt_len hi), if_pos (nat_nonneg i), w64_succ hi hn]
    simp only [rd_T31, getD_x hx]
    rw [sz_Rule x.f0 x.f1 x.f2 s hb.2.1 hs0 hs1, Option.bind_some]
    rw [List.map_cons, List.sum_cons]
    show (if sub s (wt_Rule x) < 0 then some (-1) else laws_szRuleS.l0g l (sub s (wt_Rule x)) _) = _
    by_cases c2 : s < ((wt_Rule x : Nat) : Int)
    · rw [if_pos (sub_lt c2)]; exact sub_neg (by omega)
    rw [if_neg (sub_nlt hs0 c2), sub_ge c2, ih _ ⟨by omega, by omega⟩]; exact sub_step (by omega)
theorem toS_Rule (l : List S31) (h : l.length * 32 ≤ 140737488351232 ∧ l.length ≤ maxLen ∧ ∀ y ∈ l, Bd31 y) : laws_toRuleS.g l = some (l.map conv_Rule) := by
  obtain ⟨h1, h2, h3⟩ := h
  have key : ∀ i, i ≤ l.length → laws_toRuleS.l0g l ((l.take i).map conv_Rule ++ List.replicate (l.length - i) z34) (i : Int) = some (l.map conv_Rule) := by
    refine down ?_ ?_
    · rw [laws_toRuleS.l0e, if_neg not_lt_len]
      simp
    · intro i hi ih
      have hb := h3 l[i] (List.getElem_mem hi)
      rw [laws_toRuleS.l0e, if_pos (nat_lt_len hi), if_pos (nat_nonneg i)]
      simp only [rd_T31, Int.toNat_natCast, getD_at hi]
      rw [to_Rule l[i].f0 l[i].f1 l[i].f2 , Option.bind_some, if_pos (by simp; omega), w64_succ hi (by unfold Sm; omega)]
      have e := copied conv_Rule z34 l i hi
      rw [← e] at ih
      exact ih
  rw [laws_toRuleS.ge, if_pos (by omega), if_pos (by rw [Int.toNat_natCast]; omega)]
  have := key 0 (by omega)
  simpa using this
theorem eqS_Rule (l : List S34) (h : Sm l.length) : laws_eqRuleS.g l l = some true := by
  have hn := h
  rw [laws_eqRuleS.ge, if_pos rfl]
  refine loop1 (l := l) (fun i => laws_eqRuleS.l0g l l i) (fun _ => some true) ?_ ?_
  · rw [laws_eqRuleS.l0e, if_neg not_lt_len]
  · intro i x r hi hx ih
    rw [laws_eqRuleS.l0e, if_pos (nat_lt_len hi), if_pos (nat_nonneg i), if_pos (nat_lt_len hi), w64_succ hi hn, ih]
    simp only [rd_T34, getD_x hx]
    rw [eq_Rule x.f0 x.f1 x.f2 , Option.bind_some, if_pos rfl]
end Go.Proofs.YtelmcjohkifeeaaDoor.PA

namespace Go.Proofs.YtelmcjohkifeeaaDoor.PA
open Go.RowKit Go.Proofs.YtelmcjohkifeeaaDoorW.PrintWords Go.Proofs.YtelmcjohkifeeaaDoorW.PrintLast Go.Proofs.YtelmcjohkifeeaaDoorW.PrintMore Go.Proofs.YtelmcjohkifeeaaDoor.Lim
set_option linter.unusedVariables false
set_option linter.unusedSimpArgs false
noncomputable def spec_FormatInt.l0g (y0 : Int) (y1 : ByteArray) (y2 : Int) : Option (ByteArray) := lim (fun k => spec_FormatInt.l0 k y0 y1 y2)
theorem spec_FormatInt.l0L (y0 : Int) (y1 : ByteArray) (y2 : Int) : Lim (fun k => spec_FormatInt.l0 k y0 y1 y2) (spec_FormatInt.l0g y0 y1 y2) := Lim.of (fun k => (spec_FormatInt.mono_l k) y0 y1 y2)
theorem spec_FormatInt.l0e (x0 : Int) (x3 : ByteArray) (x4 : Int) : spec_FormatInt.l0g x0 x3 x4 = (if x4 = 0 then (if x0 < 0 then (if 1 + x3.size ≤ 9223372036854775807 then (some ((⟨#[45]⟩ : ByteArray) ++ x3)) else (none)) else (some x3)) else (if (Int.tmod x4 10) < 0 then ((some (([(wrap64 (48 + (wrap64 (-(Int.tmod x4 10))))) % 256] : List Int) : List Int)).bind fun y105 => (if (strOfNums y105).size + x3.size ≤ 9223372036854775807 then (spec_FormatInt.l0g x0 ((strOfNums y105) ++ x3) (wrap64 (Int.tdiv x4 10))) else (none))) else ((some (([(wrap64 (48 + (Int.tmod x4 10))) % 256] : List Int) : List Int)).bind fun y108 => (if (strOfNums y108).size + x3.size ≤ 9223372036854775807 then (spec_FormatInt.l0g x0 ((strOfNums y108) ++ x3) (wrap64 (Int.tdiv x4 10))) else (none))))) := by
  refine Lim.round (spec_FormatInt.l0L x0 x3 x4) ?_
  show Lim (fun k => if x4 = 0 then (if x0 < 0 then (if 1 + x3.size ≤ 9223372036854775807 then (some ((⟨#[45]⟩ : ByteArray) ++ x3)) else (none)) else (some x3)) else (if (Int.tmod x4 10) < 0 then ((some (([(wrap64 (48 + (wrap64 (-(Int.tmod x4 10))))) % 256] : List Int) : List Int)).bind fun y105 => (if (strOfNums y105).size + x3.size ≤ 9223372036854775807 then (spec_FormatInt.l0 k x0 ((strOfNums y105) ++ x3) (wrap64 (Int.tdiv x4 10))) else (none))) else ((some (([(wrap64 (48 + (Int.tmod x4 10))) % 256] : List Int) : List Int)).bind fun y108 => (if (strOfNums y108).size + x3.size ≤ 9223372036854775807 then (spec_FormatInt.l0 k x0 ((strOfNums y108) ++ x3) (wrap64 (Int.tdiv x4 10))) else (none))))) _
  repeat' first | (with_reducible exact Lim.const _) | (with_reducible exact spec_FormatInt.l0L _ _ _) | (with_reducible refine Lim.ite ?_ ?_) | (with_reducible refine Lim.bind ?_ (fun _ => ?_)) | exact Lim.const _ | refine Lim.ite ?_ ?_ | refine Lim.bind ?_ (fun _ => ?_) | exact spec_FormatInt.l0L _ _ _
noncomputable def spec_FormatInt.g (a0 : Int) : Option (ByteArray) := lim (fun k => spec_FormatInt.f k a0)
theorem spec_FormatInt.L (a0 : Int) : Lim (fun k => spec_FormatInt.f k a0) (spec_FormatInt.g a0) := Lim.of (fun k => spec_FormatInt.mono a0 k)
theorem spec_FormatInt.ge (a0 : Int) : spec_FormatInt.g a0 = (if a0 = 0 then (some (⟨#[48]⟩ : ByteArray)) else (spec_FormatInt.l0g a0 (⟨#[]⟩ : ByteArray) a0)) := by
  refine Lim.uniq (spec_FormatInt.L a0) ?_
  show Lim (fun k => if a0 = 0 then (some (⟨#[48]⟩ : ByteArray)) else (spec_FormatInt.l0 k a0 (⟨#[]⟩ : ByteArray) a0)) _
  repeat' first | (with_reducible exact Lim.const _) | (with_reducible exact spec_FormatInt.l0L _ _ _) | (with_reducible refine Lim.ite ?_ ?_) | (with_reducible refine Lim.bind ?_ (fun _ => ?_)) | exact Lim.const _ | refine Lim.ite ?_ ?_ | refine Lim.bind ?_ (fun _ => ?_) | exact spec_FormatInt.l0L _ _ _
end Go.Proofs.YtelmcjohkifeeaaDoor.PA

namespace Go.Proofs.YtelmcjohkifeeaaDoor.PA
open Go.RowKit Go.Proofs.YtelmcjohkifeeaaDoorW.PrintWords Go.Proofs.YtelmcjohkifeeaaDoorW.PrintLast Go.Proofs.YtelmcjohkifeeaaDoorW.PrintMore Go.Proofs.YtelmcjohkifeeaaDoor.Lim
set_option linter.unusedVariables false
set_option linter.unusedSimpArgs false
noncomputable def spec_FormatPolicy.l0g (y0 : List (S34)) (y1 : ByteArray) (y2 : Int) : Option (ByteArray) := lim (fun k => spec_FormatPolicy.l0 k y0 y1 y2)
theorem spec_FormatPolicy.l0L (y0 : List (S34)) (y1 : ByteArray) (y2 : Int) : Lim (fun k => spec_FormatPolicy.l0 k y0 y1 y2) (spec_FormatPolicy.l0g y0 y1 y2) := Lim.of (fun k => (spec_FormatPolicy.mono_l k) y0 y1 y2)
theorem spec_FormatPolicy.l0e (x0 : List (S34)) (x3 : ByteArray) (x4 : Int) : spec_FormatPolicy.l0g x0 x3 x4 = (if x4 < (x0.length : Int) then (if 0 ≤ x4 then ((spec_l1Word.f (([(⟨#[]⟩ : ByteArray), (⟨#[112, 97, 115, 115]⟩ : ByteArray), (⟨#[99, 97, 112]⟩ : ByteArray), (⟨#[100, 101, 110, 121]⟩ : ByteArray)] : List ByteArray)) ((rd_T34 x0 x4).f0)).bind fun t115 => (if x3.size + t115.size ≤ 9223372036854775807 then (if (x3 ++ t115).size + 1 ≤ 9223372036854775807 then (if ((x3 ++ t115) ++ (⟨#[32]⟩ : ByteArray)).size + ((rd_T34 x0 x4).f1).size ≤ 9223372036854775807 then (if ((rd_T34 x0 x4).f0) = 2 then (if (((x3 ++ t115) ++ (⟨#[32]⟩ : ByteArray)) ++ ((rd_T34 x0 x4).f1)).size + 1 ≤ 9223372036854775807 then ((spec_FormatInt.g ((rd_T34 x0 x4).f2)).bind fun t119 => (if ((((x3 ++ t115) ++ (⟨#[32]⟩ : ByteArray)) ++ ((rd_T34 x0 x4).f1)) ++ (⟨#[32]⟩ : ByteArray)).size + t119.size ≤ 9223372036854775807 then (if (((((x3 ++ t115) ++ (⟨#[32]⟩ : ByteArray)) ++ ((rd_T34 x0 x4).f1)) ++ (⟨#[32]⟩ : ByteArray)) ++ t119).size + 1 ≤ 9223372036854775807 then (spec_FormatPolicy.l0g x0 ((((((x3 ++ t115) ++ (⟨#[32]⟩ : ByteArray)) ++ ((rd_T34 x0 x4).f1)) ++ (⟨#[32]⟩ : ByteArray)) ++ t119) ++ (⟨#[10]⟩ : ByteArray)) (wrap64 (x4 + 1))) else (none)) else (none))) else (none)) else (if (((x3 ++ t115) ++ (⟨#[32]⟩ : ByteArray)) ++ ((rd_T34 x0 x4).f1)).size + 1 ≤ 9223372036854775807 then (spec_FormatPolicy.l0g x0 ((((x3 ++ t115) ++ (⟨#[32]⟩ : ByteArray)) ++ ((rd_T34 x0 x4).f1)) ++ (⟨#[10]⟩ : ByteArray)) (wrap64 (x4 + 1))) else (none))) else (none)) else (none)) else (none))) else (none)) else (some x3)) := by
  refine Lim.round (spec_FormatPolicy.l0L x0 x3 x4) ?_
  show Lim (fun k => if x4 < (x0.length : Int) then (if 0 ≤ x4 then ((spec_l1Word.f (([(⟨#[]⟩ : ByteArray), (⟨#[112, 97, 115, 115]⟩ : ByteArray), (⟨#[99, 97, 112]⟩ : ByteArray), (⟨#[100, 101, 110, 121]⟩ : ByteArray)] : List ByteArray)) ((rd_T34 x0 x4).f0)).bind fun t115 => (if x3.size + t115.size ≤ 9223372036854775807 then (if (x3 ++ t115).size + 1 ≤ 9223372036854775807 then (if ((x3 ++ t115) ++ (⟨#[32]⟩ : ByteArray)).size + ((rd_T34 x0 x4).f1).size ≤ 9223372036854775807 then (if ((rd_T34 x0 x4).f0) = 2 then (if (((x3 ++ t115) ++ (⟨#[32]⟩ : ByteArray)) ++ ((rd_T34 x0 x4).f1)).size + 1 ≤ 9223372036854775807 then ((spec_FormatInt.f k ((rd_T34 x0 x4).f2)).bind fun t119 => (if ((((x3 ++ t115) ++ (⟨#[32]⟩ : ByteArray)) ++ ((rd_T34 x0 x4).f1)) ++ (⟨#[32]⟩ : ByteArray)).size + t119.size ≤ 9223372036854775807 then (if (((((x3 ++ t115) ++ (⟨#[32]⟩ : ByteArray)) ++ ((rd_T34 x0 x4).f1)) ++ (⟨#[32]⟩ : ByteArray)) ++ t119).size + 1 ≤ 9223372036854775807 then (spec_FormatPolicy.l0 k x0 ((((((x3 ++ t115) ++ (⟨#[32]⟩ : ByteArray)) ++ ((rd_T34 x0 x4).f1)) ++ (⟨#[32]⟩ : ByteArray)) ++ t119) ++ (⟨#[10]⟩ : ByteArray)) (wrap64 (x4 + 1))) else (none)) else (none))) else (none)) else (if (((x3 ++ t115) ++ (⟨#[32]⟩ : ByteArray)) ++ ((rd_T34 x0 x4).f1)).size + 1 ≤ 9223372036854775807 then (spec_FormatPolicy.l0 k x0 ((((x3 ++ t115) ++ (⟨#[32]⟩ : ByteArray)) ++ ((rd_T34 x0 x4).f1)) ++ (⟨#[10]⟩ : ByteArray)) (wrap64 (x4 + 1))) else (none))) else (none)) else (none)) else (none))) else (none)) else (some x3)) _
  repeat' first | (with_reducible exact Lim.const _) | (with_reducible exact spec_FormatPolicy.l0L _ _ _) | (with_reducible exact spec_FormatInt.L _) | (with_reducible refine Lim.ite ?_ ?_) | (with_reducible refine Lim.bind ?_ (fun _ => ?_)) | exact Lim.const _ | refine Lim.ite ?_ ?_ | refine Lim.bind ?_ (fun _ => ?_) | exact spec_FormatPolicy.l0L _ _ _ | exact spec_FormatInt.L _
noncomputable def spec_FormatPolicy.g (l0 : List (S34)) : Option (ByteArray) := lim (fun k => spec_FormatPolicy.f k l0)
theorem spec_FormatPolicy.L (l0 : List (S34)) : Lim (fun k => spec_FormatPolicy.f k l0) (spec_FormatPolicy.g l0) := Lim.of (fun k => spec_FormatPolicy.mono l0 k)
theorem spec_FormatPolicy.ge (l0 : List (S34)) : spec_FormatPolicy.g l0 = (spec_FormatPolicy.l0g l0 (⟨#[]⟩ : ByteArray) 0) := by
  refine Lim.uniq (spec_FormatPolicy.L l0) ?_
  show Lim (fun k => spec_FormatPolicy.l0 k l0 (⟨#[]⟩ : ByteArray) 0) _
  repeat' first | (with_reducible exact Lim.const _) | (with_reducible exact spec_FormatPolicy.l0L _ _ _) | (with_reducible exact spec_FormatInt.L _) | (with_reducible refine Lim.ite ?_ ?_) | (with_reducible refine Lim.bind ?_ (fun _ => ?_)) | exact Lim.const _ | refine Lim.ite ?_ ?_ | refine Lim.bind ?_ (fun _ => ?_) | exact spec_FormatPolicy.l0L _ _ _ | exact spec_FormatInt.L _
end Go.Proofs.YtelmcjohkifeeaaDoor.PA

namespace Go.Proofs.YtelmcjohkifeeaaDoor.PA
open Go.RowKit Go.Proofs.YtelmcjohkifeeaaDoorW.PrintWords Go.Proofs.YtelmcjohkifeeaaDoorW.PrintLast Go.Proofs.YtelmcjohkifeeaaDoorW.PrintMore Go.Proofs.YtelmcjohkifeeaaDoor.Lim
set_option linter.unusedVariables false
set_option linter.unusedSimpArgs false
noncomputable def impl_FormatPolicy.l0g (y0 : ByteArray) (y1 : List (S34)) (y2 : Int) (y3 : Int) : Option (ByteArray) := lim (fun k => impl_FormatPolicy.l0 k y0 y1 y2 y3)
theorem impl_FormatPolicy.l0L (y0 : ByteArray) (y1 : List (S34)) (y2 : Int) (y3 : Int) : Lim (fun k => impl_FormatPolicy.l0 k y0 y1 y2 y3) (impl_FormatPolicy.l0g y0 y1 y2 y3) := Lim.of (fun k => (impl_FormatPolicy.mono_l k) y0 y1 y2 y3)
theorem impl_FormatPolicy.l0e (x3 : ByteArray) (x6 : List (S34)) (x7 : Int) (x8 : Int) : impl_FormatPolicy.l0g x3 x6 x7 x8 = (if x8 < x7 then (if 0 ≤ x8 then (if x8 < (x6.length : Int) then ((impl_actionWord.f ((rd_T34 x6 x8).f0)).bind fun t153 => (if t153.size + 1 ≤ 9223372036854775807 then (if (t153 ++ (⟨#[32]⟩ : ByteArray)).size + ((rd_T34 x6 x8).f1).size ≤ 9223372036854775807 then (if x3.size + ((t153 ++ (⟨#[32]⟩ : ByteArray)) ++ ((rd_T34 x6 x8).f1)).size ≤ 9223372036854775807 then (if ((rd_T34 x6 x8).f0) = 2 then ((impl_FormatInt.f ((rd_T34 x6 x8).f2)).bind fun t154 => (if 1 + t154.size ≤ 9223372036854775807 then (if (x3 ++ ((t153 ++ (⟨#[32]⟩ : ByteArray)) ++ ((rd_T34 x6 x8).f1))).size + ((⟨#[32]⟩ : ByteArray) ++ t154).size ≤ 9223372036854775807 then (if ((x3 ++ ((t153 ++ (⟨#[32]⟩ : ByteArray)) ++ ((rd_T34 x6 x8).f1))) ++ ((⟨#[32]⟩ : ByteArray) ++ t154)).size + 1 ≤ 9223372036854775807 then (impl_FormatPolicy.l0g (((x3 ++ ((t153 ++ (⟨#[32]⟩ : ByteArray)) ++ ((rd_T34 x6 x8).f1))) ++ ((⟨#[32]⟩ : ByteArray) ++ t154)) ++ (⟨#[10]⟩ : ByteArray)) x6 x7 (wrap64 (x8 + 1))) else (none)) else (none)) else (none))) else (if (x3 ++ ((t153 ++ (⟨#[32]⟩ : ByteArray)) ++ ((rd_T34 x6 x8).f1))).size + 1 ≤ 9223372036854775807 then (impl_FormatPolicy.l0g ((x3 ++ ((t153 ++ (⟨#[32]⟩ : ByteArray)) ++ ((rd_T34 x6 x8).f1))) ++ (⟨#[10]⟩ : ByteArray)) x6 x7 (wrap64 (x8 + 1))) else (none))) else (none)) else (none)) else (none))) else (none)) else (none)) else (some x3)) := by
  refine Lim.round (impl_FormatPolicy.l0L x3 x6 x7 x8) ?_
  show Lim (fun k => if x8 < x7 then (if 0 ≤ x8 then (if x8 < (x6.length : Int) then ((impl_actionWord.f ((rd_T34 x6 x8).f0)).bind fun t153 => (if t153.size + 1 ≤ 9223372036854775807 then (if (t153 ++ (⟨#[32]⟩ : ByteArray)).size + ((rd_T34 x6 x8).f1).size ≤ 9223372036854775807 then (if x3.size + ((t153 ++ (⟨#[32]⟩ : ByteArray)) ++ ((rd_T34 x6 x8).f1)).size ≤ 9223372036854775807 then (if ((rd_T34 x6 x8).f0) = 2 then ((impl_FormatInt.f ((rd_T34 x6 x8).f2)).bind fun t154 => (if 1 + t154.size ≤ 9223372036854775807 then (if (x3 ++ ((t153 ++ (⟨#[32]⟩ : ByteArray)) ++ ((rd_T34 x6 x8).f1))).size + ((⟨#[32]⟩ : ByteArray) ++ t154).size ≤ 9223372036854775807 then (if ((x3 ++ ((t153 ++ (⟨#[32]⟩ : ByteArray)) ++ ((rd_T34 x6 x8).f1))) ++ ((⟨#[32]⟩ : ByteArray) ++ t154)).size + 1 ≤ 9223372036854775807 then (impl_FormatPolicy.l0 k (((x3 ++ ((t153 ++ (⟨#[32]⟩ : ByteArray)) ++ ((rd_T34 x6 x8).f1))) ++ ((⟨#[32]⟩ : ByteArray) ++ t154)) ++ (⟨#[10]⟩ : ByteArray)) x6 x7 (wrap64 (x8 + 1))) else (none)) else (none)) else (none))) else (if (x3 ++ ((t153 ++ (⟨#[32]⟩ : ByteArray)) ++ ((rd_T34 x6 x8).f1))).size + 1 ≤ 9223372036854775807 then (impl_FormatPolicy.l0 k ((x3 ++ ((t153 ++ (⟨#[32]⟩ : ByteArray)) ++ ((rd_T34 x6 x8).f1))) ++ (⟨#[10]⟩ : ByteArray)) x6 x7 (wrap64 (x8 + 1))) else (none))) else (none)) else (none)) else (none))) else (none)) else (none)) else (some x3)) _
  repeat' first | (with_reducible exact Lim.const _) | (with_reducible exact impl_FormatPolicy.l0L _ _ _ _) | (with_reducible refine Lim.ite ?_ ?_) | (with_reducible refine Lim.bind ?_ (fun _ => ?_)) | exact Lim.const _ | refine Lim.ite ?_ ?_ | refine Lim.bind ?_ (fun _ => ?_) | exact impl_FormatPolicy.l0L _ _ _ _
noncomputable def impl_FormatPolicy.g (l0 : List (S34)) : Option (ByteArray) := lim (fun k => impl_FormatPolicy.f k l0)
theorem impl_FormatPolicy.L (l0 : List (S34)) : Lim (fun k => impl_FormatPolicy.f k l0) (impl_FormatPolicy.g l0) := Lim.of (fun k => impl_FormatPolicy.mono l0 k)
theorem impl_FormatPolicy.ge (l0 : List (S34)) : impl_FormatPolicy.g l0 = (impl_FormatPolicy.l0g (⟨#[]⟩ : ByteArray) l0 (l0.length : Int) 0) := by
  refine Lim.uniq (impl_FormatPolicy.L l0) ?_
  show Lim (fun k => impl_FormatPolicy.l0 k (⟨#[]⟩ : ByteArray) l0 (l0.length : Int) 0) _
  repeat' first | (with_reducible exact Lim.const _) | (with_reducible exact impl_FormatPolicy.l0L _ _ _ _) | (with_reducible refine Lim.ite ?_ ?_) | (with_reducible refine Lim.bind ?_ (fun _ => ?_)) | exact Lim.const _ | refine Lim.ite ?_ ?_ | refine Lim.bind ?_ (fun _ => ?_) | exact impl_FormatPolicy.l0L _ _ _ _
end Go.Proofs.YtelmcjohkifeeaaDoor.PA

namespace Go.Proofs.YtelmcjohkifeeaaDoor.PA
open Go.RowKit Go.Proofs.YtelmcjohkifeeaaDoorW.PrintWords Go.Proofs.YtelmcjohkifeeaaDoorW.PrintLast Go.Proofs.YtelmcjohkifeeaaDoorW.PrintMore Go.Proofs.YtelmcjohkifeeaaDoor.Lim
set_option linter.unusedVariables false
set_option linter.unusedSimpArgs false
noncomputable def laws_FnExactFormatPolicy.g (l0 : List (S31)) : Option (Bool) := lim (fun k => laws_FnExactFormatPolicy.f k l0)
theorem laws_FnExactFormatPolicy.L (l0 : List (S31)) : Lim (fun k => laws_FnExactFormatPolicy.f k l0) (laws_FnExactFormatPolicy.g l0) := Lim.of (fun k => laws_FnExactFormatPolicy.mono l0 k)
theorem laws_FnExactFormatPolicy.ge (l0 : List (S31)) : laws_FnExactFormatPolicy.g l0 = ((laws_szRuleS.g l0 1048576).bind fun t160 => (if t160 < 0 then (some true) else ((laws_toRuleS.g l0).bind fun t161 => ((spec_FormatPolicy.g t161).bind fun t164 => ((laws_toRuleS.g l0).bind fun t165 => ((impl_FormatPolicy.g t165).bind fun t168 => (if t168.toList = t164.toList then ((laws_toRuleS.g l0).bind fun t169 => ((laws_eqRuleS.g t165 t169).bind fun t172 => (if t172 = true then (some true) else (some false)))) else (some false)))))))) := by
  refine Lim.uniq (laws_FnExactFormatPolicy.L l0) ?_
  show Lim (fun k => (laws_szRuleS.f k l0 1048576).bind fun t160 => (if t160 < 0 then (some true) else ((laws_toRuleS.f k l0).bind fun t161 => ((spec_FormatPolicy.f k t161).bind fun t164 => ((laws_toRuleS.f k l0).bind fun t165 => ((impl_FormatPolicy.f k t165).bind fun t168 => (if t168.toList = t164.toList then ((laws_toRuleS.f k l0).bind fun t169 => ((laws_eqRuleS.f k t165 t169).bind fun t172 => (if t172 = true then (some true) else (some false)))) else (some false)))))))) _
  repeat' first | (with_reducible exact Lim.const _) | (with_reducible exact laws_szRuleS.L _ _) | (with_reducible exact laws_toRuleS.L _) | (with_reducible exact spec_FormatPolicy.L _) | (with_reducible exact impl_FormatPolicy.L _) | (with_reducible exact laws_eqRuleS.L _ _) | (with_reducible refine Lim.ite ?_ ?_) | (with_reducible refine Lim.bind ?_ (fun _ => ?_)) | exact Lim.const _ | refine Lim.ite ?_ ?_ | refine Lim.bind ?_ (fun _ => ?_) | exact laws_szRuleS.L _ _ | exact laws_toRuleS.L _ | exact spec_FormatPolicy.L _ | exact impl_FormatPolicy.L _ | exact laws_eqRuleS.L _ _
end Go.Proofs.YtelmcjohkifeeaaDoor.PA

namespace Go.Proofs.YtelmcjohkifeeaaDoor.PA
open Go.RowKit Go.Proofs.YtelmcjohkifeeaaDoorW.PrintWords Go.Proofs.YtelmcjohkifeeaaDoorW.PrintLast Go.Proofs.YtelmcjohkifeeaaDoorW.PrintMore Go.Proofs.YtelmcjohkifeeaaDoor.Base Go.Proofs.YtelmcjohkifeeaaDoor.Lim
set_option linter.unusedVariables false
set_option linter.unusedSimpArgs false
/-- The digits of a number, none of 0. -/
def digs (m : Nat) : List UInt8 := if m = 0 then [] else Lib.decDigits m
theorem digs_step {m : Nat} (h : m ≠ 0) : digs m = digs (m / 10) ++ [UInt8.ofNat (48 + m % 10)] := by
  unfold digs
  rw [if_neg h, Lib.decDigits]
  by_cases c : m < 10
  · rw [dif_pos c, if_pos (by omega), show m % 10 = m by omega]; rfl
  · rw [dif_neg c, if_neg (by omega)]
theorem digs_len (m : Nat) (h : m < 18446744073709551616) : (digs m).length ≤ 20 := by
  unfold digs
  split
  · simp
  · rw [Lib.decDigits_length]; exact Lib.nDigits_le20 m h
def itoaB (n : Int) : ByteArray := ⟨(Lib.itoa n).toArray⟩
theorem itoaB_size (n : Int) (h0 : -9223372036854775808 ≤ n) (h1 : n ≤ 9223372036854775807) : (itoaB n).size ≤ 21 := by
  have := Lib.itoa_length_le n h0 h1
  show (Lib.itoa n).toArray.size ≤ 21
  rw [List.size_toArray]; exact this
theorem impl_FormatInt_eq (n : Int) (h0 : -9223372036854775808 ≤ n) (h1 : n ≤ 9223372036854775807) : impl_FormatInt.f n = some (itoaB n) := by
  unfold impl_FormatInt.f strconv_Itoa.f itoaB
  rw [if_pos h0, if_pos h1, Option.bind_some]
theorem one_digit (m : Nat) (s : List UInt8) : strOfNums [(48 + ((m % 10 : Nat) : Int)) % 256] ++ (⟨s.toArray⟩ : ByteArray) = ⟨(UInt8.ofNat (48 + m % 10) :: s).toArray⟩ := by
  have hd : m % 10 = 0 ∨ m % 10 = 1 ∨ m % 10 = 2 ∨ m % 10 = 3 ∨ m % 10 = 4 ∨ m % 10 = 5 ∨ m % 10 = 6 ∨ m % 10 = 7 ∨ m % 10 = 8 ∨ m % 10 = 9 := by omega
  have e : strOfNums [(48 + ((m % 10 : Nat) : Int)) % 256] = ⟨#[UInt8.ofNat (48 + m % 10)]⟩ := by
    rcases hd with h | h | h | h | h | h | h | h | h | h <;> rw [h] <;> rfl
  rw [e]
  apply ByteArray.ext
  simp [ByteArray.data_append]
theorem spec_fi_loop (n : Int) : ∀ (m : Nat), m ≤ 9223372036854775808 → ∀ (x : Int), (x = (m : Int) ∧ m ≤ 9223372036854775807 ∨ x = -(m : Int)) → ∀ (s : List UInt8), s.length + (digs m).length ≤ 100 →
    spec_FormatInt.l0g n ⟨s.toArray⟩ x = some (if n < 0 then ⟨(45 :: (digs m ++ s)).toArray⟩ else ⟨(digs m ++ s).toArray⟩) := by
  intro m
  induction m using Nat.strongRecOn with
  | ind m ih =>
    intro hm x hx s hs
    rw [spec_FormatInt.l0e]
    by_cases h0 : m = 0
    · have hx0 : x = 0 := by omega
      have hd : digs m = [] := by rw [h0]; rfl
      rw [if_pos hx0, hd]
      have hz : (⟨s.toArray⟩ : ByteArray).size = s.length := by show s.toArray.size = _; simp
      by_cases c : n < 0
      · rw [if_pos c, if_pos c, if_pos (by rw [hz]; omega)]
        congr 1
      · rw [if_neg c, if_neg c]; rfl
    · have hx0 : x ≠ 0 := by omega
      rw [if_neg hx0]
      have hst := digs_step h0
      have hl : (digs m).length = (digs (m / 10)).length + 1 := by rw [hst]; simp
      have hz : (⟨s.toArray⟩ : ByteArray).size = s.length := by show s.toArray.size = _; simp
      have hz1 : ∀ z : Int, (strOfNums [z]).size = 1 := fun z => rfl
      have fin : ∀ y : Int, (y = ((m / 10 : Nat) : Int) ∧ m / 10 ≤ 9223372036854775807 ∨ y = -((m / 10 : Nat) : Int)) →
          spec_FormatInt.l0g n (strOfNums [(48 + ((m % 10 : Nat) : Int)) % 256] ++ ⟨s.toArray⟩) y = some (if n < 0 then ⟨(45 :: (digs m ++ s)).toArray⟩ else ⟨(digs m ++ s).toArray⟩) := by
        intro y hy
        rw [one_digit, ih (m / 10) (by omega) (by omega) y hy _ (by simp; omega), hst]
        simp
      rcases hx with ⟨rfl, hx⟩ | rfl
      · have e1 : Int.tmod (m : Int) 10 = ((m % 10 : Nat) : Int) := by rw [Int.tmod_eq_emod_of_nonneg (by omega)]; omega
        have e2 : Int.tdiv (m : Int) 10 = ((m / 10 : Nat) : Int) := by rw [Int.tdiv_eq_ediv_of_nonneg (by omega)]; omega
        rw [e1, e2, if_neg (by omega), Option.bind_some, hz1, hz, if_pos (by omega), w64 (x := 48 + ((m % 10 : Nat) : Int)) (by omega) (by omega), w64 (x := ((m / 10 : Nat) : Int)) (by omega) (by omega)]
        exact fin _ (.inl ⟨rfl, by omega⟩)
      · have e1 : Int.tmod (-(m : Int)) 10 = -((m % 10 : Nat) : Int) := by rw [Int.neg_tmod, Int.tmod_eq_emod_of_nonneg (by omega)]; omega
        have e2 : Int.tdiv (-(m : Int)) 10 = -((m / 10 : Nat) : Int) := by rw [Int.neg_tdiv, Int.tdiv_eq_ediv_of_nonneg (by omega)]; omega
        rw [e1, e2]
        by_cases c : m % 10 = 0
        · rw [if_neg (by omega), Option.bind_some, hz1, hz, if_pos (by omega), show (48 + -((m % 10 : Nat) : Int)) = 48 + ((m % 10 : Nat) : Int) by omega, w64 (x := 48 + ((m % 10 : Nat) : Int)) (by omega) (by omega), w64 (x := -((m / 10 : Nat) : Int)) (by omega) (by omega)]
          exact fin _ (.inr rfl)
        · rw [if_pos (by omega), Option.bind_some, hz1, hz, if_pos (by omega), show -(-((m % 10 : Nat) : Int)) = ((m % 10 : Nat) : Int) by omega, w64 (x := ((m % 10 : Nat) : Int)) (by omega) (by omega), w64 (x := 48 + ((m % 10 : Nat) : Int)) (by omega) (by omega), w64 (x := -((m / 10 : Nat) : Int)) (by omega) (by omega)]
          exact fin _ (.inr rfl)
theorem spec_FormatInt_eq (n : Int) (h0 : -9223372036854775808 ≤ n) (h1 : n ≤ 9223372036854775807) : spec_FormatInt.g n = some (itoaB n) := by
  rw [spec_FormatInt.ge]
  by_cases hz : n = 0
  · subst hz
    rw [if_pos rfl]
    have : Lib.itoa 0 = [48] := by
      unfold Lib.itoa
      rw [if_neg (by omega)]
      show Lib.decDigits 0 = _
      rw [Lib.decDigits]; rfl
    unfold itoaB
    rw [this]
  · rw [if_neg hz]
    have hd : digs n.natAbs = Lib.decDigits n.natAbs := by unfold digs; rw [if_neg (by omega)]
    have := spec_fi_loop n n.natAbs (by omega) n (by omega) [] (by have := digs_len n.natAbs (by omega); simp; omega)
    rw [show (⟨#[]⟩ : ByteArray) = ⟨([] : List UInt8).toArray⟩ from rfl, this, List.append_nil, hd]
    unfold itoaB Lib.itoa
    by_cases c : n < 0
    · rw [if_pos c, if_pos c]
    · rw [if_neg c, if_neg c, show n.natAbs = n.toNat by omega]
end Go.Proofs.YtelmcjohkifeeaaDoor.PA

namespace Go.Proofs.YtelmcjohkifeeaaDoor.PA
open Go.RowKit Go.Proofs.YtelmcjohkifeeaaDoorW.PrintWords Go.Proofs.YtelmcjohkifeeaaDoorW.PrintLast Go.Proofs.YtelmcjohkifeeaaDoorW.PrintMore Go.Proofs.YtelmcjohkifeeaaDoor.Base Go.Proofs.YtelmcjohkifeeaaDoor.Lim
set_option linter.unusedVariables false
set_option linter.unusedSimpArgs false
def word (a : Int) : ByteArray := if a = 1 then ⟨#[112, 97, 115, 115]⟩ else (if a = 2 then ⟨#[99, 97, 112]⟩ else (if a = 3 then ⟨#[100, 101, 110, 121]⟩ else ⟨#[]⟩))
theorem word_size (a : Int) : (word a).size ≤ 4 := by
  unfold word
  split
  · decide
  · split
    · decide
    · split <;> decide
theorem actionWord_eq (a : Int) : impl_actionWord.f a = some (word a) := by
  unfold impl_actionWord.f word
  split
  · rfl
  · split
    · rfl
    · split <;> rfl
theorem l1Word_eq (a : Int) : spec_l1Word.f ([⟨#[]⟩, ⟨#[112, 97, 115, 115]⟩, ⟨#[99, 97, 112]⟩, ⟨#[100, 101, 110, 121]⟩] : List ByteArray) a = some (word a) := by
  unfold spec_l1Word.f
  show (if a < 0 then some _ else if a ≥ 4 then _ else if 0 ≤ a then (if a < 4 then _ else none) else none) = _
  by_cases h : a < 0
  · rw [if_pos h]; unfold word; rw [if_neg (by omega), if_neg (by omega), if_neg (by omega)]
  · rw [if_neg h]
    by_cases h4 : a ≥ 4
    · rw [if_pos h4]; unfold word; rw [if_neg (by omega), if_neg (by omega), if_neg (by omega)]
    · rw [if_neg h4, if_pos (by omega), if_pos (by omega)]
      have : a = 0 ∨ a = 1 ∨ a = 2 ∨ a = 3 := by omega
      rcases this with rfl | rfl | rfl | rfl <;> rfl
theorem rdR (l : List S34) (i : Nat) : rd_T34 l (i : Int) = l.getD i z34 := by
  unfold rd_T34
  rw [Int.toNat_natCast]
/-- A rule's line behind what stands. -/
def lineOn (s : ByteArray) (x : S34) : ByteArray := if x.f0 = 2 then (((((s ++ word x.f0) ++ ⟨#[32]⟩) ++ x.f1) ++ ⟨#[32]⟩) ++ itoaB x.f2) ++ ⟨#[10]⟩ else (((s ++ word x.f0) ++ ⟨#[32]⟩) ++ x.f1) ++ ⟨#[10]⟩
def need (l : List S34) : Nat := (l.map (fun x => x.f1.size + 40)).sum
def Ok64 (x : S34) : Prop := -9223372036854775808 ≤ x.f2 ∧ x.f2 ≤ 9223372036854775807
theorem sz1 (b : UInt8) : (⟨#[b]⟩ : ByteArray).size = 1 := rfl
theorem lineOn_size (s : ByteArray) (x : S34) (h : Ok64 x) : (lineOn s x).size ≤ s.size + (x.f1.size + 40) := by
  have := word_size x.f0; have := itoaB_size x.f2 h.1 h.2
  unfold lineOn
  split <;> simp only [ByteArray.size_append, sz1] <;> omega
theorem spec_FormatPolicy_eq (l : List S34) (hl : Sm l.length) (h64 : ∀ x ∈ l, Ok64 x) (hn : need l ≤ 1099511627776) : spec_FormatPolicy.g l = some (l.foldl lineOn ⟨#[]⟩) := by
  have key : ∀ i, i ≤ l.length → ∀ s : ByteArray, s.size + need (l.drop i) ≤ 1099511627776 → spec_FormatPolicy.l0g l s (i : Int) = some ((l.drop i).foldl lineOn s) := by
    refine down ?_ ?_
    · intro s _
      rw [spec_FormatPolicy.l0e, if_neg not_lt_len, List.drop_length]
      rfl
    · intro i hi ih s hs
      have hx : l[i] ∈ l := List.getElem_mem hi
      have hw := word_size (l[i]).f0; have hz := itoaB_size (l[i]).f2 (h64 _ hx).1 (h64 _ hx).2
      rw [drop_cons hi] at hs ⊢
      have hs' : s.size + ((l[i]).f1.size + 40 + need (l.drop (i + 1))) ≤ 1099511627776 := hs
      have hnx := ih (lineOn s l[i]) (by have := lineOn_size s l[i] (h64 _ hx); omega)
      rw [spec_FormatPolicy.l0e, if_pos (nat_lt_len hi), if_pos (nat_nonneg i), rdR, getD_at hi, l1Word_eq, Option.bind_some, w64_succ hi hl, List.foldl_cons]
      simp only [ByteArray.size_append, sz1]
      rw [if_pos (by omega), if_pos (by omega), if_pos (by omega)]
      by_cases c : (l[i]).f0 = 2
      · rw [if_pos c, if_pos (by omega), spec_FormatInt_eq _ (h64 _ hx).1 (h64 _ hx).2, Option.bind_some, if_pos (by omega), if_pos (by omega), ← hnx]
        unfold lineOn
        rw [if_pos c]
      · rw [if_neg c, if_pos (by omega), ← hnx]
        unfold lineOn
        rw [if_neg c]
  rw [spec_FormatPolicy.ge]
  have := key 0 (by omega) ⟨#[]⟩ (by rw [List.drop_zero, show (⟨#[]⟩ : ByteArray).size = 0 from rfl, Nat.zero_add]; exact hn)
  simpa using this
theorem impl_FormatPolicy_eq (l : List S34) (hl : Sm l.length) (h64 : ∀ x ∈ l, Ok64 x) (hn : need l ≤ 1099511627776) : impl_FormatPolicy.g l = some (l.foldl lineOn ⟨#[]⟩) := by
  have key : ∀ i, i ≤ l.length → ∀ s : ByteArray, s.size + need (l.drop i) ≤ 1099511627776 → impl_FormatPolicy.l0g s l (l.length : Int) (i : Int) = some ((l.drop i).foldl lineOn s) := by
    refine down ?_ ?_
    · intro s _
      rw [impl_FormatPolicy.l0e, if_neg not_lt_len, List.drop_length]
      rfl
    · intro i hi ih s hs
      have hx : l[i] ∈ l := List.getElem_mem hi
      have hw := word_size (l[i]).f0; have hz := itoaB_size (l[i]).f2 (h64 _ hx).1 (h64 _ hx).2
      rw [drop_cons hi] at hs ⊢
      have hs' : s.size + ((l[i]).f1.size + 40 + need (l.drop (i + 1))) ≤ 1099511627776 := hs
      have hnx := ih (lineOn s l[i]) (by have := lineOn_size s l[i] (h64 _ hx); omega)
      rw [impl_FormatPolicy.l0e, if_pos (nat_lt_len hi), if_pos (nat_nonneg i), if_pos (nat_lt_len hi), rdR, getD_at hi, actionWord_eq, Option.bind_some, w64_succ hi hl, List.foldl_cons]
      simp only [ByteArray.size_append, sz1]
      rw [if_pos (by omega), if_pos (by omega), if_pos (by omega)]
      by_cases c : (l[i]).f0 = 2
      · rw [if_pos c, impl_FormatInt_eq _ (h64 _ hx).1 (h64 _ hx).2, Option.bind_some, if_pos (by omega), if_pos (by omega), if_pos (by omega), ← hnx]
        unfold lineOn
        rw [if_pos c]
        simp only [ByteArray.append_assoc]
      · rw [if_neg c, if_pos (by omega), ← hnx]
        unfold lineOn
        rw [if_neg c]
        simp only [ByteArray.append_assoc]
  rw [impl_FormatPolicy.ge]
  have := key 0 (by omega) ⟨#[]⟩ (by rw [List.drop_zero, show (⟨#[]⟩ : ByteArray).size = 0 from rfl, Nat.zero_add]; exact hn)
  simpa using this
end Go.Proofs.YtelmcjohkifeeaaDoor.PA
