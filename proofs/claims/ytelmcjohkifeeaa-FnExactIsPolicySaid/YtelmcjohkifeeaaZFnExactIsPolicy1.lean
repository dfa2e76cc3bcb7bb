/- Laws about the functions that FnExactIsPolicy reaches. Conditions: bounds on sizes. -/
import Derived.Test.YtelmcjohkifeeaaWMore
import Derived.Test.YtelmcjohkifeeaaZFnExactIsPolicy0
namespace Go.Proofs.Ytelmcjohkifeeaa.Lim
open Go.RowKit Go.Proofs.YtelmcjohkifeeaaW.PrintWords Go.Proofs.YtelmcjohkifeeaaW.PrintLast Go.Proofs.YtelmcjohkifeeaaW.PrintMore
set_option linter.unusedVariables false

def Mono {α : Type} (g : Nat → Option α) : Prop := ∀ k, LeO (g k) (g (k + 1))
open Classical in
noncomputable def lim {α : Type} (g : Nat → Option α) : Option α := if h : ∃ r, ∃ k, g k = some r then some (Classical.choose h) else none

theorem Mono.uniq {α : Type} {g : Nat → Option α} (hg : Mono g) {k k' : Nat} {r r' : α} (h : g k = some r) (h' : g k' = some r') : r = r' := by
  have h1 := at_rounds hg (Nat.le_max_left k k') h
  have h2 := at_rounds hg (Nat.le_max_right k k') h'
  exact Option.some.inj (h1.symm.trans h2)

theorem lim_some {α : Type} {g : Nat → Option α} (hg : Mono g) {r : α} : lim g = some r ↔ ∃ k, g k = some r := by
  unfold lim
  constructor
  · intro h
    split at h
    · rename_i he
      obtain ⟨k, hk⟩ := Classical.choose_spec he
      cases h
      exact ⟨k, hk⟩
    · cases h
  · rintro ⟨k, hk⟩
    have he : ∃ r, ∃ k, g k = some r := ⟨r, k, hk⟩
    rw [dif_pos he]
    obtain ⟨k', hk'⟩ := Classical.choose_spec he
    exact congrArg some (hg.uniq hk' hk)

/-- With enough rounds g comes to x; more rounds tell the same. -/
def Lim {α : Type} (g : Nat → Option α) (x : Option α) : Prop := Mono g ∧ lim g = x

theorem Lim.of {α : Type} {g : Nat → Option α} (h : ∀ k, LeO (g k) (g (k + 1))) : Lim g (lim g) := ⟨h, rfl⟩
theorem Lim.intro {α : Type} {g : Nat → Option α} {x : Option α} (hg : Mono g) (h : ∀ r, x = some r ↔ ∃ k, g k = some r) : Lim g x := by
  refine ⟨hg, ?_⟩
  cases hx : x with
  | some r => exact (lim_some hg).2 ((h r).1 hx)
  | none =>
    cases hl : lim g with
    | none => rfl
    | some r =>
      have := (h r).2 ((lim_some hg).1 hl)
      rw [hx] at this
      cases this
theorem Lim.iff {α : Type} {g : Nat → Option α} {x : Option α} (h : Lim g x) {r : α} : x = some r ↔ ∃ k, g k = some r := by
  rw [← h.2]
  exact lim_some h.1
theorem Lim.const {α : Type} (x : Option α) : Lim (fun _ => x) x := Lim.intro (fun _ => LeO.refl _) (fun r => ⟨fun h => ⟨0, h⟩, fun ⟨_, h⟩ => h⟩)
theorem Lim.ite {α : Type} {c : Prop} [Decidable c] {g f : Nat → Option α} {x y : Option α} (hg : Lim g x) (hf : Lim f y) : Lim (fun k => if c then g k else f k) (if c then x else y) := by
  by_cases h : c
  · simp only [if_pos h]; exact hg
  · simp only [if_neg h]; exact hf
theorem Lim.bind {α β : Type} {g : Nat → Option α} {f : Nat → α → Option β} {x : Option α} {y : α → Option β} (hg : Lim g x) (hf : ∀ a, Lim (fun k => f k a) (y a)) : Lim (fun k => (g k).bind (f k)) (x.bind y) := by
  refine Lim.intro (fun k => LeO.bind (hg.1 k) (fun a => (hf a).1 k)) (fun r => ?_)
  constructor
  · intro h
    obtain ⟨a, ha, hr⟩ := Option.bind_eq_some_iff.1 h
    obtain ⟨k, hk⟩ := hg.iff.1 ha
    obtain ⟨k', hk'⟩ := (hf a).iff.1 hr
    refine ⟨max k k', Option.bind_eq_some_iff.2 ⟨a, at_rounds hg.1 (Nat.le_max_left _ _) hk, ?_⟩⟩
    exact at_rounds (g := fun k => f k a) (hf a).1 (Nat.le_max_right _ _) hk'
  · rintro ⟨k, hk⟩
    obtain ⟨a, ha, hr⟩ := Option.bind_eq_some_iff.1 hk
    exact Option.bind_eq_some_iff.2 ⟨a, hg.iff.2 ⟨k, ha⟩, (hf a).iff.2 ⟨k, hr⟩⟩
theorem Lim.succ {α : Type} {g : Nat → Option α} {x : Option α} (h : Lim g x) : Lim (fun k => g (k + 1)) x := by
  refine Lim.intro (fun k => h.1 (k + 1)) (fun r => ?_)
  rw [h.iff]
  constructor
  · rintro ⟨k, hk⟩; exact ⟨k, h.1 k r hk⟩
  · rintro ⟨k, hk⟩; exact ⟨k + 1, hk⟩
theorem Lim.uniq {α : Type} {g : Nat → Option α} {x y : Option α} (h : Lim g x) (h' : Lim g y) : x = y := h.2.symm.trans h'.2
/-- A loop's equation: one round of it. -/
theorem Lim.round {α : Type} {g : Nat → Option α} {x y : Option α} (h : Lim g x) (h' : Lim (fun k => g (k + 1)) y) : x = y := h.succ.uniq h'
theorem Lim.rounds {α : Type} {g : Nat → Option α} {x : Option α} (h : Lim g x) {r : α} (hx : x = some r) : ∃ k, g k = some r := h.iff.1 hx

end Go.Proofs.Ytelmcjohkifeeaa.Lim

namespace Go.Proofs.Ytelmcjohkifeeaa.Base
open Go.RowKit Go.Proofs.YtelmcjohkifeeaaW.PrintWords Go.Proofs.YtelmcjohkifeeaaW.PrintLast Go.Proofs.YtelmcjohkifeeaaW.PrintMore Go.Proofs.Ytelmcjohkifeeaa.Lim
set_option linter.unusedVariables false

def Big : Nat := 4611686018427387904
theorem Big_eq : Big = 4611686018427387904 := rfl
/-- Far below the bound of an int. -/
abbrev Sm (n : Nat) : Prop := n ≤ 4611686018427387904

theorem w64 {x : Int} (h0 : -9223372036854775808 ≤ x) (h1 : x ≤ 9223372036854775807) : wrap64 x = x := by
  unfold wrap64
  omega
theorem w64_succ {i n : Nat} (h : i < n) (hn : Sm n) : wrap64 ((i : Int) + 1) = ((i + 1 : Nat) : Int) := by
  rw [w64 (by omega) (by unfold Sm at hn; omega)]
  rfl
theorem down {n : Nat} {C : Nat → Prop} (h0 : C n) (hs : ∀ i, i < n → C (i + 1) → C i) : ∀ i, i ≤ n → C i := by
  intro i hi
  obtain ⟨d, rfl⟩ : ∃ d, n = i + d := ⟨n - i, by omega⟩
  clear hi
  induction d generalizing i with
  | zero => exact h0
  | succ d ih =>
    refine hs i (by omega) (ih (i + 1) ?_ ?_)
    · rw [show i + 1 + d = i + (d + 1) by omega]; exact h0
    · intro j hj hc
      exact hs j (by omega) hc
theorem drop_cons {α : Type} {l : List α} {i : Nat} (h : i < l.length) : l.drop i = l[i] :: l.drop (i + 1) := List.drop_eq_getElem_cons h
theorem getD_at {α : Type} {l : List α} {i : Nat} {d : α} (h : i < l.length) : l.getD i d = l[i] := by
  rw [List.getD_eq_getElem?_getD, List.getElem?_eq_getElem h]
  rfl
theorem nat_lt_len {α : Type} {l : List α} {i : Nat} (h : i < l.length) : (i : Int) < (l.length : Int) := by omega
theorem not_lt_len {α : Type} {l : List α} : ¬ (l.length : Int) < (l.length : Int) := by omega
theorem nat_nonneg (i : Nat) : (0 : Int) ≤ (i : Int) := by omega

/-- A loop over a list, from place i on, with what it carries. -/
theorem loop {α σ R : Type} {l : List α} {L : σ → Int → R} {M : σ → List α → R} (hnil : ∀ s, L s (l.length : Int) = M s [])
    (hcons : ∀ (i : Nat) (x : α) (r : List α), i < l.length → l[i]? = some x → (∀ s, L s ((i + 1 : Nat) : Int) = M s r) → ∀ s, L s (i : Int) = M s (x :: r)) :
    ∀ i, i ≤ l.length → ∀ s, L s (i : Int) = M s (l.drop i) := by
  refine down ?_ ?_
  · intro s
    rw [List.drop_length]
    exact hnil s
  · intro i hi ih s
    rw [drop_cons hi]
    exact hcons i _ _ hi (List.getElem?_eq_getElem hi) ih s
theorem loop0 {α σ R : Type} {l : List α} (L : σ → Int → R) (M : σ → List α → R) (hnil : ∀ s, L s (l.length : Int) = M s [])
    (hcons : ∀ (i : Nat) (x : α) (r : List α), i < l.length → l[i]? = some x → (∀ s, L s ((i + 1 : Nat) : Int) = M s r) → ∀ s, L s (i : Int) = M s (x :: r)) (s : σ) : L s 0 = M s l := by
  have := loop hnil hcons 0 (by omega) s
  simpa using this
/-- .. that carries nothing. -/
theorem loop1 {α R : Type} {l : List α} (L : Int → R) (M : List α → R) (hnil : L (l.length : Int) = M [])
    (hcons : ∀ (i : Nat) (x : α) (r : List α), i < l.length → l[i]? = some x → L ((i + 1 : Nat) : Int) = M r → L (i : Int) = M (x :: r)) : L 0 = M l :=
  loop0 (σ := Unit) (fun _ i => L i) (fun _ r => M r) (fun _ => hnil) (fun i x r hi hx ih _ => hcons i x r hi hx (ih ())) ()
theorem getD_x {α : Type} {l : List α} {i : Nat} {x d : α} (h : l[i]? = some x) : l.getD (i : Int).toNat d = x := by
  rw [Int.toNat_natCast, List.getD_eq_getElem?_getD, h]
  rfl

/-- .. under a condition on what it carries. -/
theorem loopP {α σ R : Type} {l : List α} (L : σ → Int → R) (M : σ → List α → R) (P : σ → Prop) (hnil : ∀ s, P s → L s (l.length : Int) = M s [])
    (hcons : ∀ (i : Nat) (x : α) (r : List α), i < l.length → l[i]? = some x → (∀ s, P s → L s ((i + 1 : Nat) : Int) = M s r) → ∀ s, P s → L s (i : Int) = M s (x :: r)) (s : σ) (hs : P s) : L s 0 = M s l := by
  have key : ∀ i, i ≤ l.length → ∀ s, P s → L s (i : Int) = M s (l.drop i) := by
    refine down ?_ ?_
    · intro s hs
      rw [List.drop_length]
      exact hnil s hs
    · intro i hi ih s hs
      rw [drop_cons hi]
      exact hcons i _ _ hi (List.getElem?_eq_getElem hi) ih s hs
  have := key 0 (by omega) s hs
  simpa using this

/-- What is left of a measure, -1 where it does not reach. -/
def sub (left : Int) (n : Nat) : Int := if (n : Int) ≤ left then left - n else -1
theorem sub_neg {left : Int} {n : Nat} (h : left < (n : Int)) : some (-1) = some (sub left n) := by
  unfold sub
  rw [if_neg (by omega)]
theorem sub_lt {left : Int} {n : Nat} (h : left < (n : Int)) : sub left n < 0 := by
  unfold sub
  rw [if_neg (by omega)]
  omega
theorem sub_nlt {left : Int} {n : Nat} (h0 : 0 ≤ left) (h : ¬ left < (n : Int)) : ¬ sub left n < 0 := by
  unfold sub
  rw [if_pos (by omega)]
  omega
theorem sub_ge {left : Int} {n : Nat} (h : ¬ left < (n : Int)) : sub left n = left - n := by
  unfold sub
  rw [if_pos (by omega)]
theorem sub_add {left : Int} {n m : Nat} (h : ¬ left < (n : Int)) : sub (left - n) m = sub left (n + m) := by
  unfold sub
  by_cases c : (m : Int) ≤ left - n
  · rw [if_pos c, if_pos (by omega)]; omega
  · rw [if_neg c, if_neg (by omega)]
theorem sub_step {left : Int} {n m : Nat} (h : ¬ left < (n : Int)) : some (sub (left - n) m) = some (sub left (n + m)) := by rw [sub_add h]

theorem set_append {α : Type} (xs : List α) (y : α) (z : α) (n : Nat) : (xs ++ y :: List.replicate n z).set xs.length = fun v => xs ++ v :: List.replicate n z := by
  funext v
  rw [List.set_append_right _ _ (Nat.le_refl _)]
  simp
/-- The way that a list is copied: place by place into a made one. -/
theorem copied {α β : Type} (f : α → β) (z : β) (l : List α) (i : Nat) (hi : i < l.length) :
    ((l.take i).map f ++ List.replicate (l.length - i) z).set i (f l[i]) = (l.take (i + 1)).map f ++ List.replicate (l.length - (i + 1)) z := by
  have hlen : ((l.take i).map f).length = i := by simp; omega
  rw [List.set_append_right _ _ (by omega), hlen, Nat.sub_self]
  obtain ⟨m, hm⟩ : ∃ m, l.length - i = m + 1 := ⟨l.length - i - 1, by omega⟩
  rw [hm, show l.length - (i + 1) = m by omega, List.replicate_succ, List.set_cons_zero, List.take_succ_eq_append_getElem hi, List.map_append]
  simp
theorem pure_of {g : Nat → Option Bool} {x : Option Bool} (h : Lim g x) (hx : x = some true) : ∃ k, g k = some true := h.rounds hx

end Go.Proofs.Ytelmcjohkifeeaa.Base

namespace Go.Proofs.Ytelmcjohkifeeaa.PA
open Go.RowKit Go.Proofs.YtelmcjohkifeeaaW.PrintWords Go.Proofs.YtelmcjohkifeeaaW.PrintLast Go.Proofs.YtelmcjohkifeeaaW.PrintMore Go.Proofs.Ytelmcjohkifeeaa.Lim
set_option linter.unusedVariables false
set_option linter.unusedSimpArgs false
noncomputable def laws_szRuleS.l0g (y0 : List (S101)) (y1 : Int) (y2 : Int) : Option (Int) := lim (fun k => laws_szRuleS.l0 k y0 y1 y2)
theorem laws_szRuleS.l0L (y0 : List (S101)) (y1 : Int) (y2 : Int) : Lim (fun k => laws_szRuleS.l0 k y0 y1 y2) (laws_szRuleS.l0g y0 y1 y2) := Lim.of (fun k => (laws_szRuleS.mono_l k) y0 y1 y2)
theorem laws_szRuleS.l0e (x0 : List (S101)) (x1 : Int) (x5 : Int) : laws_szRuleS.l0g x0 x1 x5 = (if x5 < (x0.length : Int) then (if 0 ≤ x5 then ((laws_szRule.f ((rd_T101 x0 x5).f0) ((rd_T101 x0 x5).f1) ((rd_T101 x0 x5).f2) x1).bind fun t149 => (if t149 < 0 then (some (-1)) else (laws_szRuleS.l0g x0 t149 (wrap64 (x5 + 1))))) else (none)) else (some x1)) := by
  refine Lim.round (laws_szRuleS.l0L x0 x1 x5) ?_
  show Lim (fun k => if x5 < (x0.length : Int) then (if 0 ≤ x5 then ((laws_szRule.f ((rd_T101 x0 x5).f0) ((rd_T101 x0 x5).f1) ((rd_T101 x0 x5).f2) x1).bind fun t149 => (if t149 < 0 then (some (-1)) else (laws_szRuleS.l0 k x0 t149 (wrap64 (x5 + 1))))) else (none)) else (some x1)) _
  repeat' first | (with_reducible exact Lim.const _) | (with_reducible exact laws_szRuleS.l0L _ _ _) | (with_reducible refine Lim.ite ?_ ?_) | (with_reducible refine Lim.bind ?_ (fun _ => ?_)) | exact Lim.const _ | refine Lim.ite ?_ ?_ | refine Lim.bind ?_ (fun _ => ?_) | exact laws_szRuleS.l0L _ _ _
noncomputable def laws_szRuleS.g (l0 : List (S101)) (a1 : Int) : Option (Int) := lim (fun k => laws_szRuleS.f k l0 a1)
theorem laws_szRuleS.L (l0 : List (S101)) (a1 : Int) : Lim (fun k => laws_szRuleS.f k l0 a1) (laws_szRuleS.g l0 a1) := Lim.of (fun k => laws_szRuleS.mono l0 a1 k)
theorem laws_szRuleS.ge (l0 : List (S101)) (a1 : Int) : laws_szRuleS.g l0 a1 = (if (wrap64 (a1 - (l0.length : Int))) < 0 then (some (-1)) else (laws_szRuleS.l0g l0 (wrap64 (a1 - (l0.length : Int))) 0)) := by
  refine Lim.uniq (laws_szRuleS.L l0 a1) ?_
  show Lim (fun k => if (wrap64 (a1 - (l0.length : Int))) < 0 then (some (-1)) else (laws_szRuleS.l0 k l0 (wrap64 (a1 - (l0.length : Int))) 0)) _
  repeat' first | (with_reducible exact Lim.const _) | (with_reducible exact laws_szRuleS.l0L _ _ _) | (with_reducible refine Lim.ite ?_ ?_) | (with_reducible refine Lim.bind ?_ (fun _ => ?_)) | exact Lim.const _ | refine Lim.ite ?_ ?_ | refine Lim.bind ?_ (fun _ => ?_) | exact laws_szRuleS.l0L _ _ _
end Go.Proofs.Ytelmcjohkifeeaa.PA

namespace Go.Proofs.Ytelmcjohkifeeaa.PA
open Go.RowKit Go.Proofs.YtelmcjohkifeeaaW.PrintWords Go.Proofs.YtelmcjohkifeeaaW.PrintLast Go.Proofs.YtelmcjohkifeeaaW.PrintMore Go.Proofs.Ytelmcjohkifeeaa.Lim
set_option linter.unusedVariables false
set_option linter.unusedSimpArgs false
noncomputable def laws_toRuleS.l0g (y0 : List (S101)) (y1 : List (S102)) (y2 : Int) : Option ((List (S102))) := lim (fun k => laws_toRuleS.l0 k y0 y1 y2)
theorem laws_toRuleS.l0L (y0 : List (S101)) (y1 : List (S102)) (y2 : Int) : Lim (fun k => laws_toRuleS.l0 k y0 y1 y2) (laws_toRuleS.l0g y0 y1 y2) := Lim.of (fun k => (laws_toRuleS.mono_l k) y0 y1 y2)
theorem laws_toRuleS.l0e (x0 : List (S101)) (x3 : List (S102)) (x4 : Int) : laws_toRuleS.l0g x0 x3 x4 = (if x4 < (x0.length : Int) then (if 0 ≤ x4 then ((laws_toRule.f ((rd_T101 x0 x4).f0) ((rd_T101 x0 x4).f1) ((rd_T101 x0 x4).f2)).bind fun bt166 => (if x4 < (x3.length : Int) then (laws_toRuleS.l0g x0 (x3.set (x4 : Int).toNat (⟨bt166.1, bt166.2.1, bt166.2.2⟩ : S102)) (wrap64 (x4 + 1))) else (none))) else (none)) else (some x3)) := by
  refine Lim.round (laws_toRuleS.l0L x0 x3 x4) ?_
  show Lim (fun k => if x4 < (x0.length : Int) then (if 0 ≤ x4 then ((laws_toRule.f ((rd_T101 x0 x4).f0) ((rd_T101 x0 x4).f1) ((rd_T101 x0 x4).f2)).bind fun bt166 => (if x4 < (x3.length : Int) then (laws_toRuleS.l0 k x0 (x3.set (x4 : Int).toNat (⟨bt166.1, bt166.2.1, bt166.2.2⟩ : S102)) (wrap64 (x4 + 1))) else (none))) else (none)) else (some x3)) _
  repeat' first | (with_reducible exact Lim.const _) | (with_reducible exact laws_toRuleS.l0L _ _ _) | (with_reducible refine Lim.ite ?_ ?_) | (with_reducible refine Lim.bind ?_ (fun _ => ?_)) | exact Lim.const _ | refine Lim.ite ?_ ?_ | refine Lim.bind ?_ (fun _ => ?_) | exact laws_toRuleS.l0L _ _ _
noncomputable def laws_toRuleS.g (l0 : List (S101)) : Option ((List (S102))) := lim (fun k => laws_toRuleS.f k l0)
theorem laws_toRuleS.L (l0 : List (S101)) : Lim (fun k => laws_toRuleS.f k l0) (laws_toRuleS.g l0) := Lim.of (fun k => laws_toRuleS.mono l0 k)
theorem laws_toRuleS.ge (l0 : List (S101)) : laws_toRuleS.g l0 = (if 0 ≤ (l0.length : Int) then (if ((l0.length : Int) : Int).toNat ≤ 8796093022208 then (laws_toRuleS.l0g l0 (List.replicate ((l0.length : Int) : Int).toNat z102) 0) else (none)) else (none)) := by
  refine Lim.uniq (laws_toRuleS.L l0) ?_
  show Lim (fun k => if 0 ≤ (l0.length : Int) then (if ((l0.length : Int) : Int).toNat ≤ 8796093022208 then (laws_toRuleS.l0 k l0 (List.replicate ((l0.length : Int) : Int).toNat z102) 0) else (none)) else (none)) _
  repeat' first | (with_reducible exact Lim.const _) | (with_reducible exact laws_toRuleS.l0L _ _ _) | (with_reducible refine Lim.ite ?_ ?_) | (with_reducible refine Lim.bind ?_ (fun _ => ?_)) | exact Lim.const _ | refine Lim.ite ?_ ?_ | refine Lim.bind ?_ (fun _ => ?_) | exact laws_toRuleS.l0L _ _ _
end Go.Proofs.Ytelmcjohkifeeaa.PA

namespace Go.Proofs.Ytelmcjohkifeeaa.PA
open Go.RowKit Go.Proofs.YtelmcjohkifeeaaW.PrintWords Go.Proofs.YtelmcjohkifeeaaW.PrintLast Go.Proofs.YtelmcjohkifeeaaW.PrintMore Go.Proofs.Ytelmcjohkifeeaa.Lim
set_option linter.unusedVariables false
set_option linter.unusedSimpArgs false
noncomputable def laws_eqRuleS.l0g (y0 : List (S102)) (y1 : List (S102)) (y2 : Int) : Option (Bool) := lim (fun k => laws_eqRuleS.l0 k y0 y1 y2)
theorem laws_eqRuleS.l0L (y0 : List (S102)) (y1 : List (S102)) (y2 : Int) : Lim (fun k => laws_eqRuleS.l0 k y0 y1 y2) (laws_eqRuleS.l0g y0 y1 y2) := Lim.of (fun k => (laws_eqRuleS.mono_l k) y0 y1 y2)
theorem laws_eqRuleS.l0e (x0 : List (S102)) (x1 : List (S102)) (x5 : Int) : laws_eqRuleS.l0g x0 x1 x5 = (if x5 < (x0.length : Int) then (if 0 ≤ x5 then (if x5 < (x1.length : Int) then ((laws_eqRule.f ((rd_T102 x0 x5).f0) ((rd_T102 x0 x5).f1) ((rd_T102 x0 x5).f2) ((rd_T102 x1 x5).f0) ((rd_T102 x1 x5).f1) ((rd_T102 x1 x5).f2)).bind fun t185 => (if t185 = true then (laws_eqRuleS.l0g x0 x1 (wrap64 (x5 + 1))) else (some false))) else (none)) else (none)) else (some true)) := by
  refine Lim.round (laws_eqRuleS.l0L x0 x1 x5) ?_
  show Lim (fun k => if x5 < (x0.length : Int) then (if 0 ≤ x5 then (if x5 < (x1.length : Int) then ((laws_eqRule.f ((rd_T102 x0 x5).f0) ((rd_T102 x0 x5).f1) ((rd_T102 x0 x5).f2) ((rd_T102 x1 x5).f0) ((rd_T102 x1 x5).f1) ((rd_T102 x1 x5).f2)).bind fun t185 => (if t185 = true then (laws_eqRuleS.l0 k x0 x1 (wrap64 (x5 + 1))) else (some false))) else (none)) else (none)) else (some true)) _
  repeat' first | (with_reducible exact Lim.const _) | (with_reducible exact laws_eqRuleS.l0L _ _ _) | (with_reducible refine Lim.ite ?_ ?_) | (with_reducible refine Lim.bind ?_ (fun _ => ?_)) | exact Lim.const _ | refine Lim.ite ?_ ?_ | refine Lim.bind ?_ (fun _ => ?_) | exact laws_eqRuleS.l0L _ _ _
noncomputable def laws_eqRuleS.g (l0 : List (S102)) (l1 : List (S102)) : Option (Bool) := lim (fun k => laws_eqRuleS.f k l0 l1)
theorem laws_eqRuleS.L (l0 : List (S102)) (l1 : List (S102)) : Lim (fun k => laws_eqRuleS.f k l0 l1) (laws_eqRuleS.g l0 l1) := Lim.of (fun k => laws_eqRuleS.mono l0 l1 k)
theorem laws_eqRuleS.ge (l0 : List (S102)) (l1 : List (S102)) : laws_eqRuleS.g l0 l1 = (if (l0.length : Int) = (l1.length : Int) then (laws_eqRuleS.l0g l0 l1 0) else (some false)) := by
  refine Lim.uniq (laws_eqRuleS.L l0 l1) ?_
  show Lim (fun k => if (l0.length : Int) = (l1.length : Int) then (laws_eqRuleS.l0 k l0 l1 0) else (some false)) _
  repeat' first | (with_reducible exact Lim.const _) | (with_reducible exact laws_eqRuleS.l0L _ _ _) | (with_reducible refine Lim.ite ?_ ?_) | (with_reducible refine Lim.bind ?_ (fun _ => ?_)) | exact Lim.const _ | refine Lim.ite ?_ ?_ | refine Lim.bind ?_ (fun _ => ?_) | exact laws_eqRuleS.l0L _ _ _
end Go.Proofs.Ytelmcjohkifeeaa.PA

namespace Go.Proofs.Ytelmcjohkifeeaa.PA
open Go.RowKit Go.Proofs.YtelmcjohkifeeaaW.PrintWords Go.Proofs.YtelmcjohkifeeaaW.PrintLast Go.Proofs.YtelmcjohkifeeaaW.PrintMore Go.Proofs.Ytelmcjohkifeeaa.Base Go.Proofs.Ytelmcjohkifeeaa.Lim
set_option linter.unusedVariables false
set_option linter.unusedSimpArgs false

def Bd101 (x : S101) : Prop := (Lit.int .i64 x.f0).wf = true ∧ x.f1.size ≤ 140737488351232 ∧ (Lit.int .i64 x.f2).wf = true
def wt_Rule (x : S101) : Nat := x.f1.size
def conv_Rule (x : S101) : S102 := ⟨x.f0, x.f1, x.f2⟩
theorem sz_Rule (a0 : Int) (a1 : ByteArray) (a2 : Int) (left : Int) (h1 : a1.size ≤ 140737488351232) (hl : 0 ≤ left) (hm : left ≤ 4611686018427387904) : laws_szRule.f a0 a1 a2 left = some (sub left (a1.size)) := by
  unfold laws_szRule.f
  rw [w64 (x := left - (a1.size : Int)) (by omega) (by omega)]
  by_cases c0 : left - (a1.size : Int) < 0
  · rw [if_pos c0]; exact sub_neg (by omega)
  rw [if_neg c0]
  all_goals (refine congrArg some ?_; first | (rw [sub_ge (by omega)]; done) | (rw [sub_ge (by omega)]; omega))
theorem to_Rule (a0 : Int) (a1 : ByteArray) (a2 : Int)  : laws_toRule.f a0 a1 a2 = some (a0, a1, a2) := by
  rfl
theorem eq_Rule (a0 : Int) (a1 : ByteArray) (a2 : Int)  : laws_eqRule.f a0 a1 a2 a0 a1 a2 = some true := by
  unfold laws_eqRule.f
  simp
def wtS_Rule : List S101 → Nat := fun l => l.length + (l.map wt_Rule).sum
theorem szS_Rule (l : List S101) (left : Int) (h : l.length * 32 ≤ 140737488351232 ∧ l.length ≤ maxLen ∧ ∀ y ∈ l, Bd101 y) (hl : 0 ≤ left) (hm : left ≤ 4611686018427387904) : laws_szRuleS.g l left = some (sub left (wtS_Rule l)) := by
  obtain ⟨h1, h2, h3⟩ := h
  have hn : Sm l.length := by unfold Sm; omega
  rw [laws_szRuleS.ge, w64 (by omega) (by omega)]
  unfold wtS_Rule
  by_cases c : left - (l.length : Int) < 0
  · rw [if_pos c]; exact sub_neg (by omega)
  rw [if_neg c]
  have key := loopP (l := l) (fun s i => laws_szRuleS.l0g l s i) (fun s r => some (sub s ((r.map wt_Rule).sum))) (fun s => 0 ≤ s ∧ s ≤ 4611686018427387904) ?_ ?_ (left - (l.length : Int)) ⟨by omega, by omega⟩
  · rw [key, sub_add (by omega)]
  · rintro s ⟨hs0, hs1⟩
    rw [laws_szRuleS.l0e, if_neg not_lt_len]
    simp [sub, hs0]
  · rintro i x r hi hx ih s ⟨hs0, hs1⟩
    have hb := h3 x (List.mem_of_getElem? hx)
    rw [laws_szRuleS.l0e, if_pos (nat_lt_len hi), if_pos (nat_nonneg i), w64_succ hi hn]
    simp only [rd_T101, getD_x hx]
    rw [sz_Rule x.f0 x.f1 x.f2 s hb.2.1 hs0 hs1, Option.bind_some]
    rw [List.map_cons, List.sum_cons]
    show (if sub s (wt_Rule x) < 0 then some (-1) else laws_szRuleS.l0g l (sub s (wt_Rule x)) _) = _
    by_cases c2 : s < ((wt_Rule x : Nat) : Int)
    · rw [if_pos (sub_lt c2)]; exact sub_neg (by omega)
    rw [if_neg (sub_nlt hs0 c2), sub_ge c2, ih _ ⟨by omega, by omega⟩]; exact sub_step (by omega)
theorem toS_Rule (l : List S101) (h : l.length * 32 ≤ 140737488351232 ∧ l.length ≤ maxLen ∧ ∀ y ∈ l, Bd101 y) : laws_toRuleS.g l = some (l.map conv_Rule) := by
  obtain ⟨h1, h2, h3⟩ := h
  have key : ∀ i, i ≤ l.length → laws_toRuleS.l0g l ((l.take i).map conv_Rule ++ List.replicate (l.length - i) z102) (i : Int) = some (l.map conv_Rule) := by
    refine down ?_ ?_
    · rw [laws_toRuleS.l0e, if_neg not_lt_len]
      simp
    · intro i hi ih
      have hb := h3 l[i] (List.getElem_mem hi)
      rw [laws_toRuleS.l0e, if_pos (nat_lt_len hi), if_pos (nat_nonneg i)]
      simp only [rd_T101, Int.toNat_natCast, getD_at hi]
      rw [to_Rule l[i].f0 l[i].f1 l[i].f2 , Option.bind_some, if_pos (by simp; omega), w64_succ hi (by unfold Sm; omega)]
      have e := copied conv_Rule z102 l i hi
      rw [← e] at ih
      exact ih
  rw [laws_toRuleS.ge, if_pos (by omega), if_pos (by rw [Int.toNat_natCast]; omega)]
  have := key 0 (by omega)
  simpa using this
theorem eqS_Rule (l : List S102) (h : Sm l.length) : laws_eqRuleS.g l l = some true := by
  have hn := h
  rw [laws_eqRuleS.ge, if_pos rfl]
  refine loop1 (l := l) (fun i => laws_eqRuleS.l0g l l i) (fun _ => some true) ?_ ?_
  · rw [laws_eqRuleS.l0e, if_neg not_lt_len]
  · intro i x r hi hx ih
    rw [laws_eqRuleS.l0e, if_pos (nat_lt_len hi), if_pos (nat_nonneg i), if_pos (nat_lt_len hi), w64_succ hi hn, ih]
    simp only [rd_T102, getD_x hx]
    rw [eq_Rule x.f0 x.f1 x.f2 , Option.bind_some, if_pos rfl]
end Go.Proofs.Ytelmcjohkifeeaa.PA

namespace Go.Proofs.Ytelmcjohkifeeaa.PA
open Go.RowKit Go.Proofs.YtelmcjohkifeeaaW.PrintWords Go.Proofs.YtelmcjohkifeeaaW.PrintLast Go.Proofs.YtelmcjohkifeeaaW.PrintMore Go.Proofs.Ytelmcjohkifeeaa.Lim
set_option linter.unusedVariables false
set_option linter.unusedSimpArgs false
noncomputable def spec_IsPolicy.l0g (y0 : List (S102)) (y1 : Int) : Option (Bool) := lim (fun k => spec_IsPolicy.l0 k y0 y1)
noncomputable def spec_IsPolicy.l1g (y0 : List (S102)) (y1 : Int) (y2 : ByteArray) (y3 : Int) : Option (Bool) := lim (fun k => spec_IsPolicy.l1 k y0 y1 y2 y3)
theorem spec_IsPolicy.l0L (y0 : List (S102)) (y1 : Int) : Lim (fun k => spec_IsPolicy.l0 k y0 y1) (spec_IsPolicy.l0g y0 y1) := Lim.of (fun k => (spec_IsPolicy.mono_l k).1 y0 y1)
theorem spec_IsPolicy.l1L (y0 : List (S102)) (y1 : Int) (y2 : ByteArray) (y3 : Int) : Lim (fun k => spec_IsPolicy.l1 k y0 y1 y2 y3) (spec_IsPolicy.l1g y0 y1 y2 y3) := Lim.of (fun k => (spec_IsPolicy.mono_l k).2 y0 y1 y2 y3)
theorem spec_IsPolicy.l0e (x0 : List (S102)) (x3 : Int) : spec_IsPolicy.l0g x0 x3 = (if x3 < (x0.length : Int) then (if 0 ≤ x3 then (spec_IsPolicy.l1g x0 x3 ((rd_T102 x0 x3).f1) 0) else (none)) else (some (decide ((x0.length : Int) ≤ 8)))) := by
  refine Lim.round (spec_IsPolicy.l0L x0 x3) ?_
  show Lim (fun k => if x3 < (x0.length : Int) then (if 0 ≤ x3 then (spec_IsPolicy.l1 k x0 x3 ((rd_T102 x0 x3).f1) 0) else (none)) else (some (decide ((x0.length : Int) ≤ 8)))) _
  repeat' first | (with_reducible exact Lim.const _) | (with_reducible exact spec_IsPolicy.l0L _ _) | (with_reducible exact spec_IsPolicy.l1L _ _ _ _) | (with_reducible refine Lim.ite ?_ ?_) | (with_reducible refine Lim.bind ?_ (fun _ => ?_)) | exact Lim.const _ | refine Lim.ite ?_ ?_ | refine Lim.bind ?_ (fun _ => ?_) | exact spec_IsPolicy.l0L _ _ | exact spec_IsPolicy.l1L _ _ _ _
theorem spec_IsPolicy.l1e (x0 : List (S102)) (x3 : Int) (x4 : ByteArray) (x5 : Int) : spec_IsPolicy.l1g x0 x3 x4 x5 = (if x5 < (x4.size : Int) then (if 0 ≤ x5 then ((spec_l1In.f (wrap64 (bt x4 x5)) 33 126).bind fun t151 => (if t151 = true then (spec_IsPolicy.l1g x0 x3 x4 (wrap64 (x5 + 1))) else (some false))) else (none)) else ((spec_l1In.f (x4.size : Int) 1 60).bind fun t152 => (if t152 = true then (if 0 < (x4.size : Int) then (if (bt x4 0) = 47 then (if 0 ≤ x3 then (if x3 < (x0.length : Int) then ((spec_l1In.f ((rd_T102 x0 x3).f0) 1 3).bind fun t154 => (if t154 = true then ((spec_l1In.f ((rd_T102 x0 x3).f2) 0 2147483648).bind fun t156 => (if t156 = true then (if ((rd_T102 x0 x3).f0) = 2 then (spec_IsPolicy.l0g x0 (wrap64 (x3 + 1))) else (if ((rd_T102 x0 x3).f2) = 0 then (spec_IsPolicy.l0g x0 (wrap64 (x3 + 1))) else (some false))) else (some false))) else (some false))) else (none)) else (none)) else (some false)) else (none)) else (some false)))) := by
  refine Lim.round (spec_IsPolicy.l1L x0 x3 x4 x5) ?_
  show Lim (fun k => if x5 < (x4.size : Int) then (if 0 ≤ x5 then ((spec_l1In.f (wrap64 (bt x4 x5)) 33 126).bind fun t151 => (if t151 = true then (spec_IsPolicy.l1 k x0 x3 x4 (wrap64 (x5 + 1))) else (some false))) else (none)) else ((spec_l1In.f (x4.size : Int) 1 60).bind fun t152 => (if t152 = true then (if 0 < (x4.size : Int) then (if (bt x4 0) = 47 then (if 0 ≤ x3 then (if x3 < (x0.length : Int) then ((spec_l1In.f ((rd_T102 x0 x3).f0) 1 3).bind fun t154 => (if t154 = true then ((spec_l1In.f ((rd_T102 x0 x3).f2) 0 2147483648).bind fun t156 => (if t156 = true then (if ((rd_T102 x0 x3).f0) = 2 then (spec_IsPolicy.l0 k x0 (wrap64 (x3 + 1))) else (if ((rd_T102 x0 x3).f2) = 0 then (spec_IsPolicy.l0 k x0 (wrap64 (x3 + 1))) else (some false))) else (some false))) else (some false))) else (none)) else (none)) else (some false)) else (none)) else (some false)))) _
  repeat' first | (with_reducible exact Lim.const _) | (with_reducible exact spec_IsPolicy.l0L _ _) | (with_reducible exact spec_IsPolicy.l1L _ _ _ _) | (with_reducible refine Lim.ite ?_ ?_) | (with_reducible refine Lim.bind ?_ (fun _ => ?_)) | exact Lim.const _ | refine Lim.ite ?_ ?_ | refine Lim.bind ?_ (fun _ => ?_) | exact spec_IsPolicy.l0L _ _ | exact spec_IsPolicy.l1L _ _ _ _
noncomputable def spec_IsPolicy.g (l0 : List (S102)) : Option (Bool) := lim (fun k => spec_IsPolicy.f k l0)
theorem spec_IsPolicy.L (l0 : List (S102)) : Lim (fun k => spec_IsPolicy.f k l0) (spec_IsPolicy.g l0) := Lim.of (fun k => spec_IsPolicy.mono l0 k)
theorem spec_IsPolicy.ge (l0 : List (S102)) : spec_IsPolicy.g l0 = (spec_IsPolicy.l0g l0 0) := by
  refine Lim.uniq (spec_IsPolicy.L l0) ?_
  show Lim (fun k => spec_IsPolicy.l0 k l0 0) _
  repeat' first | (with_reducible exact Lim.const _) | (with_reducible exact spec_IsPolicy.l0L _ _) | (with_reducible exact spec_IsPolicy.l1L _ _ _ _) | (with_reducible refine Lim.ite ?_ ?_) | (with_reducible refine Lim.bind ?_ (fun _ => ?_)) | exact Lim.const _ | refine Lim.ite ?_ ?_ | refine Lim.bind ?_ (fun _ => ?_) | exact spec_IsPolicy.l0L _ _ | exact spec_IsPolicy.l1L _ _ _ _
end Go.Proofs.Ytelmcjohkifeeaa.PA

namespace Go.Proofs.Ytelmcjohkifeeaa.PA
open Go.RowKit Go.Proofs.YtelmcjohkifeeaaW.PrintWords Go.Proofs.YtelmcjohkifeeaaW.PrintLast Go.Proofs.YtelmcjohkifeeaaW.PrintMore Go.Proofs.Ytelmcjohkifeeaa.Lim
set_option linter.unusedVariables false
set_option linter.unusedSimpArgs false
noncomputable def impl_isRule.l0g (y0 : Int) (y1 : Int) (y2 : Int) (y3 : ByteArray) (y4 : Int) : Option (Bool) := lim (fun k => impl_isRule.l0 k y0 y1 y2 y3 y4)
theorem impl_isRule.l0L (y0 : Int) (y1 : Int) (y2 : Int) (y3 : ByteArray) (y4 : Int) : Lim (fun k => impl_isRule.l0 k y0 y1 y2 y3 y4) (impl_isRule.l0g y0 y1 y2 y3 y4) := Lim.of (fun k => (impl_isRule.mono_l k) y0 y1 y2 y3 y4)
theorem impl_isRule.l0e (x6 : Int) (x7 : Int) (x174000 : Int) (x174001 : ByteArray) (x174002 : Int) : impl_isRule.l0g x6 x7 x174000 x174001 x174002 = (if x7 < x6 then (if 0 ≤ x7 then (if x7 < (x174001.size : Int) then ((impl_inRange.f (wrap64 (bt x174001 x7)) 33 126).bind fun t174 => (if t174 = true then (impl_isRule.l0g x6 (wrap64 (x7 + 1)) x174000 x174001 x174002) else (some false))) else (none)) else (none)) else ((impl_inRange.f x174000 1 3).bind fun t175 => (if t175 = true then ((impl_inRange.f (x174001.size : Int) 1 60).bind fun t176 => (if t176 = true then (if 0 < (x174001.size : Int) then (if (bt x174001 0) = 47 then ((impl_inRange.f x174002 0 2147483648).bind fun t177 => (if t177 = true then (if x174000 = 2 then (some true) else (some (x174002 == 0))) else (some false))) else (some false)) else (none)) else (some false))) else (some false)))) := by
  refine Lim.round (impl_isRule.l0L x6 x7 x174000 x174001 x174002) ?_
  show Lim (fun k => if x7 < x6 then (if 0 ≤ x7 then (if x7 < (x174001.size : Int) then ((impl_inRange.f (wrap64 (bt x174001 x7)) 33 126).bind fun t174 => (if t174 = true then (impl_isRule.l0 k x6 (wrap64 (x7 + 1)) x174000 x174001 x174002) else (some false))) else (none)) else (none)) else ((impl_inRange.f x174000 1 3).bind fun t175 => (if t175 = true then ((impl_inRange.f (x174001.size : Int) 1 60).bind fun t176 => (if t176 = true then (if 0 < (x174001.size : Int) then (if (bt x174001 0) = 47 then ((impl_inRange.f x174002 0 2147483648).bind fun t177 => (if t177 = true then (if x174000 = 2 then (some true) else (some (x174002 == 0))) else (some false))) else (some false)) else (none)) else (some false))) else (some false)))) _
  repeat' first | (with_reducible exact Lim.const _) | (with_reducible exact impl_isRule.l0L _ _ _ _ _) | (with_reducible refine Lim.ite ?_ ?_) | (with_reducible refine Lim.bind ?_ (fun _ => ?_)) | exact Lim.const _ | refine Lim.ite ?_ ?_ | refine Lim.bind ?_ (fun _ => ?_) | exact impl_isRule.l0L _ _ _ _ _
noncomputable def impl_isRule.g (a0_0 : Int) (a0_1 : ByteArray) (a0_2 : Int) : Option (Bool) := lim (fun k => impl_isRule.f k a0_0 a0_1 a0_2)
theorem impl_isRule.L (a0_0 : Int) (a0_1 : ByteArray) (a0_2 : Int) : Lim (fun k => impl_isRule.f k a0_0 a0_1 a0_2) (impl_isRule.g a0_0 a0_1 a0_2) := Lim.of (fun k => impl_isRule.mono a0_0 a0_1 a0_2 k)
theorem impl_isRule.ge (a0_0 : Int) (a0_1 : ByteArray) (a0_2 : Int) : impl_isRule.g a0_0 a0_1 a0_2 = (impl_isRule.l0g (a0_1.size : Int) 0 a0_0 a0_1 a0_2) := by
  refine Lim.uniq (impl_isRule.L a0_0 a0_1 a0_2) ?_
  show Lim (fun k => impl_isRule.l0 k (a0_1.size : Int) 0 a0_0 a0_1 a0_2) _
  repeat' first | (with_reducible exact Lim.const _) | (with_reducible exact impl_isRule.l0L _ _ _ _ _) | (with_reducible refine Lim.ite ?_ ?_) | (with_reducible refine Lim.bind ?_ (fun _ => ?_)) | exact Lim.const _ | refine Lim.ite ?_ ?_ | refine Lim.bind ?_ (fun _ => ?_) | exact impl_isRule.l0L _ _ _ _ _
end Go.Proofs.Ytelmcjohkifeeaa.PA

namespace Go.Proofs.Ytelmcjohkifeeaa.PA
open Go.RowKit Go.Proofs.YtelmcjohkifeeaaW.PrintWords Go.Proofs.YtelmcjohkifeeaaW.PrintLast Go.Proofs.YtelmcjohkifeeaaW.PrintMore Go.Proofs.Ytelmcjohkifeeaa.Lim
set_option linter.unusedVariables false
set_option linter.unusedSimpArgs false
noncomputable def impl_IsPolicy_1.g (a0_0 : Int) (a0_1 : ByteArray) (a0_2 : Int) : Option (Bool) := lim (fun k => impl_IsPolicy_1.f k a0_0 a0_1 a0_2)
theorem impl_IsPolicy_1.L (a0_0 : Int) (a0_1 : ByteArray) (a0_2 : Int) : Lim (fun k => impl_IsPolicy_1.f k a0_0 a0_1 a0_2) (impl_IsPolicy_1.g a0_0 a0_1 a0_2) := Lim.of (fun k => impl_IsPolicy_1.mono a0_0 a0_1 a0_2 k)
theorem impl_IsPolicy_1.ge (a0_0 : Int) (a0_1 : ByteArray) (a0_2 : Int) : impl_IsPolicy_1.g a0_0 a0_1 a0_2 = ((impl_isRule.g a0_0 a0_1 a0_2).bind fun t179 => (some (!t179))) := by
  refine Lim.uniq (impl_IsPolicy_1.L a0_0 a0_1 a0_2) ?_
  show Lim (fun k => (impl_isRule.f k a0_0 a0_1 a0_2).bind fun t179 => (some (!t179))) _
  repeat' first | (with_reducible exact Lim.const _) | (with_reducible exact impl_isRule.L _ _ _) | (with_reducible refine Lim.ite ?_ ?_) | (with_reducible refine Lim.bind ?_ (fun _ => ?_)) | exact Lim.const _ | refine Lim.ite ?_ ?_ | refine Lim.bind ?_ (fun _ => ?_) | exact impl_isRule.L _ _ _
end Go.Proofs.Ytelmcjohkifeeaa.PA

namespace Go.Proofs.Ytelmcjohkifeeaa.PA
open Go.RowKit Go.Proofs.YtelmcjohkifeeaaW.PrintWords Go.Proofs.YtelmcjohkifeeaaW.PrintLast Go.Proofs.YtelmcjohkifeeaaW.PrintMore Go.Proofs.Ytelmcjohkifeeaa.Lim
set_option linter.unusedVariables false
set_option linter.unusedSimpArgs false
noncomputable def any_70_71.g (l0 : List (S102)) : Option (Bool) := lim (fun k => any_70_71.f k l0)
theorem any_70_71.L (l0 : List (S102)) : Lim (fun k => any_70_71.f k l0) (any_70_71.g l0) := Lim.of (fun k => any_70_71.mono l0 k)
end Go.Proofs.Ytelmcjohkifeeaa.PA

namespace Go.Proofs.Ytelmcjohkifeeaa.PA
open Go.RowKit Go.Proofs.YtelmcjohkifeeaaW.PrintWords Go.Proofs.YtelmcjohkifeeaaW.PrintLast Go.Proofs.YtelmcjohkifeeaaW.PrintMore Go.Proofs.Ytelmcjohkifeeaa.Lim
set_option linter.unusedVariables false
set_option linter.unusedSimpArgs false
noncomputable def impl_IsPolicy.g (l0 : List (S102)) : Option (Bool) := lim (fun k => impl_IsPolicy.f k l0)
theorem impl_IsPolicy.L (l0 : List (S102)) : Lim (fun k => impl_IsPolicy.f k l0) (impl_IsPolicy.g l0) := Lim.of (fun k => impl_IsPolicy.mono l0 k)
theorem impl_IsPolicy.ge (l0 : List (S102)) : impl_IsPolicy.g l0 = (if (l0.length : Int) ≤ 8 then ((any_70_71.g l0).bind fun t180 => (some (!t180))) else (some false)) := by
  refine Lim.uniq (impl_IsPolicy.L l0) ?_
  show Lim (fun k => if (l0.length : Int) ≤ 8 then ((any_70_71.f k l0).bind fun t180 => (some (!t180))) else (some false)) _
  repeat' first | (with_reducible exact Lim.const _) | (with_reducible exact any_70_71.L _) | (with_reducible refine Lim.ite ?_ ?_) | (with_reducible refine Lim.bind ?_ (fun _ => ?_)) | exact Lim.const _ | refine Lim.ite ?_ ?_ | refine Lim.bind ?_ (fun _ => ?_) | exact any_70_71.L _
end Go.Proofs.Ytelmcjohkifeeaa.PA

namespace Go.Proofs.Ytelmcjohkifeeaa.PA
open Go.RowKit Go.Proofs.YtelmcjohkifeeaaW.PrintWords Go.Proofs.YtelmcjohkifeeaaW.PrintLast Go.Proofs.YtelmcjohkifeeaaW.PrintMore Go.Proofs.Ytelmcjohkifeeaa.Lim
set_option linter.unusedVariables false
set_option linter.unusedSimpArgs false
noncomputable def laws_FnExactIsPolicy.g (l0 : List (S101)) : Option (Bool) := lim (fun k => laws_FnExactIsPolicy.f k l0)
theorem laws_FnExactIsPolicy.L (l0 : List (S101)) : Lim (fun k => laws_FnExactIsPolicy.f k l0) (laws_FnExactIsPolicy.g l0) := Lim.of (fun k => laws_FnExactIsPolicy.mono l0 k)
theorem laws_FnExactIsPolicy.ge (l0 : List (S101)) : laws_FnExactIsPolicy.g l0 = ((laws_szRuleS.g l0 1048576).bind fun t186 => (if t186 < 0 then (some true) else ((laws_toRuleS.g l0).bind fun t187 => ((spec_IsPolicy.g t187).bind fun t190 => ((laws_toRuleS.g l0).bind fun t191 => ((impl_IsPolicy.g t191).bind fun t194 => (if (t194 != t190) = true then (some false) else ((laws_toRuleS.g l0).bind fun t195 => ((laws_eqRuleS.g t191 t195).bind fun t198 => (if t198 = true then (some true) else (some false))))))))))) := by
  refine Lim.uniq (laws_FnExactIsPolicy.L l0) ?_
  show Lim (fun k => (laws_szRuleS.f k l0 1048576).bind fun t186 => (if t186 < 0 then (some true) else ((laws_toRuleS.f k l0).bind fun t187 => ((spec_IsPolicy.f k t187).bind fun t190 => ((laws_toRuleS.f k l0).bind fun t191 => ((impl_IsPolicy.f k t191).bind fun t194 => (if (t194 != t190) = true then (some false) else ((laws_toRuleS.f k l0).bind fun t195 => ((laws_eqRuleS.f k t191 t195).bind fun t198 => (if t198 = true then (some true) else (some false))))))))))) _
  repeat' first | (with_reducible exact Lim.const _) | (with_reducible exact laws_szRuleS.L _ _) | (with_reducible exact laws_toRuleS.L _) | (with_reducible exact spec_IsPolicy.L _) | (with_reducible exact impl_IsPolicy.L _) | (with_reducible exact laws_eqRuleS.L _ _) | (with_reducible refine Lim.ite ?_ ?_) | (with_reducible refine Lim.bind ?_ (fun _ => ?_)) | exact Lim.const _ | refine Lim.ite ?_ ?_ | refine Lim.bind ?_ (fun _ => ?_) | exact laws_szRuleS.L _ _ | exact laws_toRuleS.L _ | exact spec_IsPolicy.L _ | exact impl_IsPolicy.L _ | exact laws_eqRuleS.L _ _
end Go.Proofs.Ytelmcjohkifeeaa.PA

namespace Go.Proofs.Ytelmcjohkifeeaa.PA
open Go.RowKit Go.Proofs.YtelmcjohkifeeaaW.PrintWords Go.Proofs.YtelmcjohkifeeaaW.PrintLast Go.Proofs.YtelmcjohkifeeaaW.PrintMore Go.Proofs.Ytelmcjohkifeeaa.Base Go.Proofs.Ytelmcjohkifeeaa.Lim
set_option linter.unusedVariables false
set_option linter.unusedSimpArgs false
def inR (a b c : Int) : Bool := decide (b ≤ a) && decide (a ≤ c)
theorem l1In_eq (a b c : Int) : spec_l1In.f a b c = some (inR a b c) := by
  unfold spec_l1In.f inR
  by_cases h : b ≤ a <;> simp [h]
theorem inRange_eq (a b c : Int) : impl_inRange.f a b c = some (inR a b c) := by
  unfold impl_inRange.f inR
  by_cases h : b ≤ a <;> simp [h]
theorem inR_iff (a b c : Int) : inR a b c = true ↔ b ≤ a ∧ a ≤ c := by simp [inR]
end Go.Proofs.Ytelmcjohkifeeaa.PA

namespace Go.Proofs.Ytelmcjohkifeeaa.PA
open Go.RowKit Go.Proofs.YtelmcjohkifeeaaW.PrintWords Go.Proofs.YtelmcjohkifeeaaW.PrintLast Go.Proofs.YtelmcjohkifeeaaW.PrintMore Go.Proofs.Ytelmcjohkifeeaa.Base Go.Proofs.Ytelmcjohkifeeaa.Lim
set_option linter.unusedVariables false
set_option linter.unusedSimpArgs false
theorem bt_small (b : ByteArray) (i : Nat) : wrap64 (bt b (i : Int)) = bt b (i : Int) := by
  have h : 0 ≤ bt b (i : Int) ∧ bt b (i : Int) ≤ 255 := by
    unfold bt
    split
    · rename_i hx
      have := (b[(i : Int).toNat]'hx).toNat_lt
      omega
    · omega
  exact w64 (by omega) (by omega)
def okB (b : ByteArray) (i : Nat) : Bool := (List.range' i (b.size - i)).all (fun j => inR (bt b (j : Int)) 33 126)
theorem okB_step (b : ByteArray) (i : Nat) (h : i < b.size) : okB b i = (inR (bt b (i : Int)) 33 126 && okB b (i + 1)) := by
  unfold okB
  obtain ⟨m, hm⟩ : ∃ m, b.size - i = m + 1 := ⟨b.size - i - 1, by omega⟩
  rw [hm, show b.size - (i + 1) = m by omega, List.range'_succ, List.all_cons]
def isRule (a : Int) (b : ByteArray) (c : Int) : Bool := inR a 1 3 && (inR (b.size : Int) 1 60 && (decide (bt b 0 = 47) && (inR c 0 2147483648 && (decide (a = 2) || decide (c = 0)))))
theorem isRule_eq (a : Int) (b : ByteArray) (c : Int) (hb : Sm b.size) : impl_isRule.g a b c = some (okB b 0 && isRule a b c) := by
  have key : ∀ i, i ≤ b.size → impl_isRule.l0g (b.size : Int) (i : Int) a b c = some (okB b i && isRule a b c) := by
    refine down ?_ ?_
    · rw [impl_isRule.l0e, if_neg (by omega)]
      have h0 : okB b b.size = true := by simp [okB]
      rw [h0]
      simp only [inRange_eq, Option.bind_some, isRule, Bool.true_and]
      cases inR a 1 3
      · simp
      · cases hs : inR (b.size : Int) 1 60
        · simp
        · have : 0 < (b.size : Int) := by have := (inR_iff _ _ _).1 hs; omega
          simp only [if_true, if_pos this]
          by_cases h47 : bt b 0 = 47
          · rw [if_pos h47]
            cases inR c 0 2147483648
            · simp
            · by_cases h2 : a = 2
              · simp [h2, h47]
              · simp [h2, h47]; rfl
          · rw [if_neg h47]; simp [h47]
    · intro i hi ih
      rw [impl_isRule.l0e, if_pos (by omega), if_pos (nat_nonneg i), if_pos (by omega), inRange_eq, Option.bind_some, bt_small, w64_succ hi hb, ih, okB_step b i hi]
      cases inR (bt b (i : Int)) 33 126 <;> simp
  rw [impl_isRule.ge]
  exact key 0 (by omega)
def rules (l : List S102) : Bool := l.all (fun x => okB x.f1 0 && isRule x.f0 x.f1 x.f2)
theorem rdR (l : List S102) (i : Nat) : rd_T102 l (i : Int) = l.getD i z102 := by
  unfold rd_T102
  rw [Int.toNat_natCast]
theorem seek_f (cl : Int → ByteArray → Int → Option Bool) (p : S102 → Bool) (l : List S102) (hl : Sm l.length) (hp : ∀ x ∈ l, cl x.f0 x.f1 x.f2 = some (p x)) :
    ∀ (i : Nat), i ≤ l.length → ∀ m, l.length - i < m → ∃ r : Int, slices_IndexFunc_Rule.l0 cl m l (l.length : Int) (i : Int) = some r ∧ decide (r ≥ 0) = (l.drop i).any p := by
  refine down ?_ ?_
  · intro m hm
    obtain ⟨k, rfl⟩ : ∃ k, m = k + 1 := ⟨m - 1, by omega⟩
    refine ⟨-1, ?_, by simp⟩
    rw [slices_IndexFunc_Rule.l0, if_neg not_lt_len]
  · intro i hi ih m hm
    obtain ⟨k, rfl⟩ : ∃ k, m = k + 1 := ⟨m - 1, by omega⟩
    rw [slices_IndexFunc_Rule.l0, if_pos (nat_lt_len hi), if_pos (nat_nonneg i), if_pos (nat_lt_len hi), rdR, getD_at hi, hp _ (List.getElem_mem hi), Option.bind_some, drop_cons hi, List.any_cons]
    cases hq : p l[i]
    · rw [if_neg (by simp), w64_succ hi hl]
      simpa using ih k (by omega)
    · exact ⟨(i : Int), by simp, by simp⟩
theorem anyRule_eq (l : List S102) (hl : Sm l.length) (hb : ∀ x ∈ l, Sm x.f1.size) : any_70_71.g l = some (l.any (fun x => !(okB x.f1 0 && isRule x.f0 x.f1 x.f2))) := by
  rw [(any_70_71.L l).iff]
  have hK : ∃ K, ∀ k, K ≤ k → ∀ x ∈ l, impl_IsPolicy_1.f k x.f0 x.f1 x.f2 = some (!(okB x.f1 0 && isRule x.f0 x.f1 x.f2)) := by
    clear hl
    induction l with
    | nil => exact ⟨0, by simp⟩
    | cons x l ih =>
      obtain ⟨K, hK⟩ := ih (fun y hy => hb y (List.mem_cons_of_mem _ hy))
      have hx : impl_IsPolicy_1.g x.f0 x.f1 x.f2 = some (!(okB x.f1 0 && isRule x.f0 x.f1 x.f2)) := by
        rw [impl_IsPolicy_1.ge, isRule_eq _ _ _ (hb x (List.mem_cons_self ..)), Option.bind_some]
      obtain ⟨K', hK'⟩ := (impl_IsPolicy_1.L x.f0 x.f1 x.f2).iff.1 hx
      refine ⟨max K K', fun k hk y hy => ?_⟩
      rcases List.mem_cons.1 hy with rfl | hy
      · exact at_rounds (g := fun k => impl_IsPolicy_1.f k y.f0 y.f1 y.f2) (impl_IsPolicy_1.L y.f0 y.f1 y.f2).1 (by omega) hK'
      · exact hK k (by omega) y hy
  obtain ⟨K, hK⟩ := hK
  refine ⟨max K (l.length + 1), ?_⟩
  obtain ⟨r, e, hr⟩ := seek_f (impl_IsPolicy_1.f (max K (l.length + 1))) _ l hl (fun x hx => hK _ (by omega) x hx) 0 (by omega) (max K (l.length + 1)) (by omega)
  unfold any_70_71.f slices_ContainsFunc_Rule.f slices_IndexFunc_Rule.f
  have e' : slices_IndexFunc_Rule.l0 (impl_IsPolicy_1.f (max K (l.length + 1))) (max K (l.length + 1)) l (l.length : Int) 0 = some r := e
  rw [e', Option.bind_some, hr, List.drop_zero]
theorem impl_IsPolicy_eq (l : List S102) (hl : Sm l.length) (hb : ∀ x ∈ l, Sm x.f1.size) : impl_IsPolicy.g l = some (rules l && decide (l.length ≤ 8)) := by
  rw [impl_IsPolicy.ge]
  by_cases c : l.length ≤ 8
  · rw [if_pos (by omega), anyRule_eq l hl hb, Option.bind_some, decide_eq_true c, Bool.and_true, List.not_any_eq_all_not]
    simp only [rules, Bool.not_not]
  · rw [if_neg (by omega), decide_eq_false c, Bool.and_false]
theorem spec_IsPolicy_eq (l : List S102) (hl : Sm l.length) (hb : ∀ x ∈ l, Sm x.f1.size) : spec_IsPolicy.g l = some (rules l && decide (l.length ≤ 8)) := by
  have key : ∀ i, i ≤ l.length → spec_IsPolicy.l0g l (i : Int) = some ((l.drop i).all (fun x => okB x.f1 0 && isRule x.f0 x.f1 x.f2) && decide (l.length ≤ 8)) := by
    refine down ?_ ?_
    · rw [spec_IsPolicy.l0e, if_neg not_lt_len]
      simp; omega
    · intro i hi ih
      rw [spec_IsPolicy.l0e, if_pos (nat_lt_len hi), if_pos (nat_nonneg i), drop_cons hi, List.all_cons]
      have hbx : Sm (l[i]).f1.size := hb _ (List.getElem_mem hi)
      have er : rd_T102 l (i : Int) = l[i] := by rw [rdR, getD_at hi]
      rw [er]
      have key1 : ∀ j, j ≤ (l[i]).f1.size → spec_IsPolicy.l1g l (i : Int) (l[i]).f1 (j : Int) = some ((okB (l[i]).f1 j && isRule (l[i]).f0 (l[i]).f1 (l[i]).f2) && (l.drop (i + 1)).all (fun x => okB x.f1 0 && isRule x.f0 x.f1 x.f2) && decide (l.length ≤ 8)) := by
        refine down ?_ ?_
        · rw [spec_IsPolicy.l1e, if_neg (by omega)]
          have h0 : okB (l[i]).f1 (l[i]).f1.size = true := by simp [okB]
          rw [h0]
          simp only [er, l1In_eq, Option.bind_some, isRule, Bool.true_and, if_pos (nat_nonneg i), if_pos (nat_lt_len hi), w64_succ hi hl, ih]
          cases hs : inR ((l[i]).f1.size : Int) 1 60
          · simp
          · have : 0 < ((l[i]).f1.size : Int) := by have := (inR_iff _ _ _).1 hs; omega
            simp only [if_true, if_pos this]
            by_cases h47 : bt (l[i]).f1 0 = 47
            · rw [if_pos h47]
              cases inR (l[i]).f0 1 3 <;> cases inR (l[i]).f2 0 2147483648 <;> by_cases h2 : (l[i]).f0 = 2 <;> by_cases h3 : (l[i]).f2 = 0 <;> simp [h2, h3, h47]
            · rw [if_neg h47]; simp [h47]
        · intro j hj ih1
          rw [spec_IsPolicy.l1e, if_pos (by omega), if_pos (nat_nonneg j), l1In_eq, Option.bind_some, bt_small, w64_succ hj hbx, ih1, okB_step _ j hj]
          cases inR (bt (l[i]).f1 (j : Int)) 33 126 <;> simp
      have := key1 0 (by omega)
      rw [show ((0 : Nat) : Int) = 0 from rfl] at this
      rw [this, Bool.and_assoc]
  rw [spec_IsPolicy.ge]
  simpa [rules] using key 0 (by omega)
end Go.Proofs.Ytelmcjohkifeeaa.PA
