/- Laws about the functions that FnExactFormatPage reaches. Conditions: bounds on sizes. -/
import Derived.Test.YtplljcjhfbamdaaWMore
import Derived.Test.YtplljcjhfbamdaaZFnExactFormatPage0
namespace Go.Proofs.Ytplljcjhfbamdaa.Lim
open Go.RowKit Go.Proofs.YtplljcjhfbamdaaW.PrintWords Go.Proofs.YtplljcjhfbamdaaW.PrintLast Go.Proofs.YtplljcjhfbamdaaW.PrintMore
set_option linter.unusedVariables false

def Mono {α : Type} (g : Nat → Option α) : Prop := ∀ k, LeO (g k) (g (k + 1))
open Classical in
noncomputable def lim {α : Type} (g : Nat → Option α) : Option α := if h : ∃ r, ∃ k, g k = some r then some (Classical.choose h) else none

theorem Mono.uniq {α : Type} {g : Nat → Option α} (hg : Mono g) {k k' : Nat} {r r' : α} (h : g k = some r) (h' : g k' = some r') : r = r' := by
  have h1 := at_rounds hg (Nat.le_max_left k k') h
  have h2 := at_rounds hg (Nat.le_max_right k k') h'
  exact Option.some.inj (h1.symm.trans h2)

theorem lim_some {α : Type} {g : Nat → Option α} (hg : Mono g) {r : α} : lim g = some r ↔ ∃ k, g k = some r := by
  unfold lim
  constructor
  · intro h
    split at h
    · rename_i he
      obtain ⟨k, hk⟩ := Classical.choose_spec he
      cases h
      exact ⟨k, hk⟩
    · cases h
  · rintro ⟨k, hk⟩
    have he : ∃ r, ∃ k, g k = some r := ⟨r, k, hk⟩
    rw [dif_pos he]
    obtain ⟨k', hk'⟩ := Classical.choose_spec he
    exact congrArg some (hg.uniq hk' hk)

/-- With enough rounds g comes to x; more rounds tell the same. -/
def Lim {α : Type} (g : Nat → Option α) (x : Option α) : Prop := Mono g ∧ lim g = x

theorem Lim.of {α : Type} {g : Nat → Option α} (h : ∀ k, LeO (g k) (g (k + 1))) : Lim g (lim g) := ⟨h, rfl⟩
theorem Lim.intro {α : Type} {g : Nat → Option α} {x : Option α} (hg : Mono g) (h : ∀ r, x = some r ↔ ∃ k, g k = some r) : Lim g x := by
  refine ⟨hg, ?_⟩
  cases hx : x with
  | some r => exact (lim_some hg).2 ((h r).1 hx)
  | none =>
    cases hl : lim g with
    | none => rfl
    | some r =>
      have := (h r).2 ((lim_some hg).1 hl)
      rw [hx] at this
      cases this
theorem Lim.iff {α : Type} {g : Nat → Option α} {x : Option α} (h : Lim g x) {r : α} : x = some r ↔ ∃ k, g k = some r := by
  rw [← h.2]
  exact lim_some h.1
theorem Lim.const {α : Type} (x : Option α) : Lim (fun _ => x) x := Lim.intro (fun _ => LeO.refl _) (fun r => ⟨fun h => ⟨0, h⟩, fun ⟨_, h⟩ => h⟩)
theorem Lim.ite {α : Type} {c : Prop} [Decidable c] {g f : Nat → Option α} {x y : Option α} (hg : Lim g x) (hf : Lim f y) : Lim (fun k => if c then g k else f k) (if c then x else y) := by
  by_cases h : c
  · simp only [if_pos h]; exact hg
  · simp only [if_neg h]; exact hf
theorem Lim.bind {α β : Type} {g : Nat → Option α} {f : Nat → α → Option β} {x : Option α} {y : α → Option β} (hg : Lim g x) (hf : ∀ a, Lim (fun k => f k a) (y a)) : Lim (fun k => (g k).bind (f k)) (x.bind y) := by
  refine Lim.intro (fun k => LeO.bind (hg.1 k) (fun a => (hf a).1 k)) (fun r => ?_)
  constructor
  · intro h
    obtain ⟨a, ha, hr⟩ := Option.bind_eq_some_iff.1 h
    obtain ⟨k, hk⟩ := hg.iff.1 ha
    obtain ⟨k', hk'⟩ := (hf a).iff.1 hr
    refine ⟨max k k', Option.bind_eq_some_iff.2 ⟨a, at_rounds hg.1 (Nat.le_max_left _ _) hk, ?_⟩⟩
    exact at_rounds (g := fun k => f k a) (hf a).1 (Nat.le_max_right _ _) hk'
  · rintro ⟨k, hk⟩
    obtain ⟨a, ha, hr⟩ := Option.bind_eq_some_iff.1 hk
    exact Option.bind_eq_some_iff.2 ⟨a, hg.iff.2 ⟨k, ha⟩, (hf a).iff.2 ⟨k, hr⟩⟩
theorem Lim.succ {α : Type} {g : Nat → Option α} {x : Option α} (h : Lim g x) : Lim (fun k => g (k + 1)) x := by
  refine Lim.intro (fun k => h.1 (k + 1)) (fun r => ?_)
  rw [h.iff]
  constructor
  · rintro ⟨k, hk⟩; exact ⟨k, h.1 k r hk⟩
  · rintro ⟨k, hk⟩; exact ⟨k + 1, hk⟩
theorem Lim.uniq {α : Type} {g : Nat → Option α} {x y : Option α} (h : Lim g x) (h' : Lim g y) : x = y := h.2.symm.trans h'.2
/-- A loop's equation: one round of it. -/
theorem Lim.round {α : Type} {g : Nat → Option α} {x y : Option α} (h : Lim g x) (h' : Lim (fun k => g (k + 1)) y) : x = y := h.succ.uniq h'
theorem Lim.rounds {α : Type} {g : Nat → Option α} {x : Option α} (h : Lim g x) {r : α} (hx : x = some r) : ∃ k, g k = some r := h.iff.1 hx

end Go.Proofs.Ytplljcjhfbamdaa.Lim

namespace Go.Proofs.Ytplljcjhfbamdaa.Base
open Go.RowKit Go.Proofs.YtplljcjhfbamdaaW.PrintWords Go.Proofs.YtplljcjhfbamdaaW.PrintLast Go.Proofs.YtplljcjhfbamdaaW.PrintMore Go.Proofs.Ytplljcjhfbamdaa.Lim
set_option linter.unusedVariables false

def Big : Nat := 4611686018427387904
theorem Big_eq : Big = 4611686018427387904 := rfl
/-- Far below the bound of an int. -/
abbrev Sm (n : Nat) : Prop := n ≤ 4611686018427387904

theorem w64 {x : Int} (h0 : -9223372036854775808 ≤ x) (h1 : x ≤ 9223372036854775807) : wrap64 x = x := by
  unfold wrap64
  omega
theorem w64_succ {i n : Nat} (h : i < n) (hn : Sm n) : wrap64 ((i : Int) + 1) = ((i + 1 : Nat) : Int) := by
  rw [w64 (by omega) (by unfold Sm at hn; omega)]
  rfl
theorem down {n : Nat} {C : Nat → Prop} (h0 : C n) (hs : ∀ i, i < n → C (i + 1) → C i) : ∀ i, i ≤ n → C i := by
  intro i hi
  obtain ⟨d, rfl⟩ : ∃ d, n = i + d := ⟨n - i, by omega⟩
  clear hi
  induction d generalizing i with
  | zero => exact h0
  | succ d ih =>
    refine hs i (by omega) (ih (i + 1) ?_ ?_)
    · rw [show i + 1 + d = i + (d + 1) by omega]; exact h0
    · intro j hj hc
      exact hs j (by omega) hc
theorem drop_cons {α : Type} {l : List α} {i : Nat} (h : i < l.length) : l.drop i = l[i] :: l.drop (i + 1) := List.drop_eq_getElem_cons h
theorem getD_at {α : Type} {l : List α} {i : Nat} {d : α} (h : i < l.length) : l.getD i d = l[i] := by
  rw [List.getD_eq_getElem?_getD, List.getElem?_eq_getElem h]
  rfl
theorem nat_lt_len {α : Type} {l : List α} {i : Nat} (h : i < l.length) : (i : Int) < (l.length : Int) := by omega
theorem not_lt_len {α : Type} {l : List α} : ¬ (l.length : Int) < (l.length : Int) := by omega
theorem nat_nonneg (i : Nat) : (0 : Int) ≤ (i : Int) := by omega

/-- A loop over a list, from place i on, with what it carries. -/
theorem loop {α σ R : Type} {l : List α} {L : σ → Int → R} {M : σ → List α → R} (hnil : ∀ s, L s (l.length : Int) = M s [])
    (hcons : ∀ (i : Nat) (x : α) (r : List α), i < l.length → l[i]? = some x → (∀ s, L s ((i + 1 : Nat) : Int) = M s r) → ∀ s, L s (i : Int) = M s (x :: r)) :
    ∀ i, i ≤ l.length → ∀ s, L s (i : Int) = M s (l.drop i) := by
  refine down ?_ ?_
  · intro s
    rw [List.drop_length]
    exact hnil s
  · intro i hi ih s
    rw [drop_cons hi]
    exact hcons i _ _ hi (List.getElem?_eq_getElem hi) ih s
theorem loop0 {α σ R : Type} {l : List α} (L : σ → Int → R) (M : σ → List α → R) (hnil : ∀ s, L s (l.length : Int) = M s [])
    (hcons : ∀ (i : Nat) (x : α) (r : List α), i < l.length → l[i]? = some x → (∀ s, L s ((i + 1 : Nat) : Int) = M s r) → ∀ s, L s (i : Int) = M s (x :: r)) (s : σ) : L s 0 = M s l := by
  have := loop hnil hcons 0 (by omega) s
  simpa using this
/-- .. that carries nothing. -/
theorem loop1 {α R : Type} {l : List α} (L : Int → R) (M : List α → R) (hnil : L (l.length : Int) = M [])
    (hcons : ∀ (i : Nat) (x : α) (r : List α), i < l.length → l[i]? = some x → L ((i + 1 : Nat) : Int) = M r → L (i : Int) = M (x :: r)) : L 0 = M l :=
  loop0 (σ := Unit) (fun _ i => L i) (fun _ r => M r) (fun _ => hnil) (fun i x r hi hx ih _ => hcons i x r hi hx (ih ())) ()
theorem getD_x {α : Type} {l : List α} {i : Nat} {x d : α} (h : l[i]? = some x) : l.getD (i : Int).toNat d = x := by
  rw [Int.toNat_natCast, List.getD_eq_getElem?_getD, h]
  rfl

/-- .. under a condition on what it carries. -/
theorem loopP {α σ R : Type} {l : List α} (L : σ → Int → R) (M : σ → List α → R) (P : σ → Prop) (hnil : ∀ s, P s → L s (l.length : Int) = M s [])
    (hcons : ∀ (i : Nat) (x : α) (r : List α), i < l.length → l[i]? = some x → (∀ s, P s → L s ((i + 1 : Nat) : Int) = M s r) → ∀ s, P s → L s (i : Int) = M s (x :: r)) (s : σ) (hs : P s) : L s 0 = M s l := by
  have key : ∀ i, i ≤ l.length → ∀ s, P s → L s (i : Int) = M s (l.drop i) := by
    refine down ?_ ?_
    · intro s hs
      rw [List.drop_length]
      exact hnil s hs
    · intro i hi ih s hs
      rw [drop_cons hi]
      exact hcons i _ _ hi (List.getElem?_eq_getElem hi) ih s hs
  have := key 0 (by omega) s hs
  simpa using this

/-- What is left of a measure, -1 where it does not reach. -/
def sub (left : Int) (n : Nat) : Int := if (n : Int) ≤ left then left - n else -1
theorem sub_neg {left : Int} {n : Nat} (h : left < (n : Int)) : some (-1) = some (sub left n) := by
  unfold sub
  rw [if_neg (by omega)]
theorem sub_lt {left : Int} {n : Nat} (h : left < (n : Int)) : sub left n < 0 := by
  unfold sub
  rw [if_neg (by omega)]
  omega
theorem sub_nlt {left : Int} {n : Nat} (h0 : 0 ≤ left) (h : ¬ left < (n : Int)) : ¬ sub left n < 0 := by
  unfold sub
  rw [if_pos (by omega)]
  omega
theorem sub_ge {left : Int} {n : Nat} (h : ¬ left < (n : Int)) : sub left n = left - n := by
  unfold sub
  rw [if_pos (by omega)]
theorem sub_add {left : Int} {n m : Nat} (h : ¬ left < (n : Int)) : sub (left - n) m = sub left (n + m) := by
  unfold sub
  by_cases c : (m : Int) ≤ left - n
  · rw [if_pos c, if_pos (by omega)]; omega
  · rw [if_neg c, if_neg (by omega)]
theorem sub_step {left : Int} {n m : Nat} (h : ¬ left < (n : Int)) : some (sub (left - n) m) = some (sub left (n + m)) := by rw [sub_add h]

theorem set_append {α : Type} (xs : List α) (y : α) (z : α) (n : Nat) : (xs ++ y :: List.replicate n z).set xs.length = fun v => xs ++ v :: List.replicate n z := by
  funext v
  rw [List.set_append_right _ _ (Nat.le_refl _)]
  simp
/-- The way that a list is copied: place by place into a made one. -/
theorem copied {α β : Type} (f : α → β) (z : β) (l : List α) (i : Nat) (hi : i < l.length) :
    ((l.take i).map f ++ List.replicate (l.length - i) z).set i (f l[i]) = (l.take (i + 1)).map f ++ List.replicate (l.length - (i + 1)) z := by
  have hlen : ((l.take i).map f).length = i := by simp; omega
  rw [List.set_append_right _ _ (by omega), hlen, Nat.sub_self]
  obtain ⟨m, hm⟩ : ∃ m, l.length - i = m + 1 := ⟨l.length - i - 1, by omega⟩
  rw [hm, show l.length - (i + 1) = m by omega, List.replicate_succ, List.set_cons_zero, List.take_succ_eq_append_getElem hi, List.map_append]
  simp
theorem pure_of {g : Nat → Option Bool} {x : Option Bool} (h : Lim g x) (hx : x = some true) : ∃ k, g k = some true := h.rounds hx

end Go.Proofs.Ytplljcjhfbamdaa.Base

namespace Go.Proofs.Ytplljcjhfbamdaa.PA
open Go.RowKit Go.Proofs.YtplljcjhfbamdaaW.PrintWords Go.Proofs.YtplljcjhfbamdaaW.PrintLast Go.Proofs.YtplljcjhfbamdaaW.PrintMore Go.Proofs.Ytplljcjhfbamdaa.Lim
set_option linter.unusedVariables false
set_option linter.unusedSimpArgs false
noncomputable def laws_szPartS.l0g (y0 : List (S67)) (y1 : Int) (y2 : Int) : Option (Int) := lim (fun k => laws_szPartS.l0 k y0 y1 y2)
theorem laws_szPartS.l0L (y0 : List (S67)) (y1 : Int) (y2 : Int) : Lim (fun k => laws_szPartS.l0 k y0 y1 y2) (laws_szPartS.l0g y0 y1 y2) := Lim.of (fun k => (laws_szPartS.mono_l k) y0 y1 y2)
theorem laws_szPartS.l0e (x0 : List (S67)) (x1 : Int) (x5 : Int) : laws_szPartS.l0g x0 x1 x5 = (if x5 < (x0.length : Int) then (if 0 ≤ x5 then ((laws_szPart.f ((rd_T67 x0 x5).f0) ((rd_T67 x0 x5).f1) x1).bind fun t103 => (if t103 < 0 then (some (-1)) else (laws_szPartS.l0g x0 t103 (wrap64 (x5 + 1))))) else (none)) else (some x1)) := by
  refine Lim.round (laws_szPartS.l0L x0 x1 x5) ?_
  show Lim (fun k => if x5 < (x0.length : Int) then (if 0 ≤ x5 then ((laws_szPart.f ((rd_T67 x0 x5).f0) ((rd_T67 x0 x5).f1) x1).bind fun t103 => (if t103 < 0 then (some (-1)) else (laws_szPartS.l0 k x0 t103 (wrap64 (x5 + 1))))) else (none)) else (some x1)) _
  repeat' first | (with_reducible exact Lim.const _) | (with_reducible exact laws_szPartS.l0L _ _ _) | (with_reducible refine Lim.ite ?_ ?_) | (with_reducible refine Lim.bind ?_ (fun _ => ?_)) | exact Lim.const _ | refine Lim.ite ?_ ?_ | refine Lim.bind ?_ (fun _ => ?_) | exact laws_szPartS.l0L _ _ _
noncomputable def laws_szPartS.g (l0 : List (S67)) (a1 : Int) : Option (Int) := lim (fun k => laws_szPartS.f k l0 a1)
theorem laws_szPartS.L (l0 : List (S67)) (a1 : Int) : Lim (fun k => laws_szPartS.f k l0 a1) (laws_szPartS.g l0 a1) := Lim.of (fun k => laws_szPartS.mono l0 a1 k)
theorem laws_szPartS.ge (l0 : List (S67)) (a1 : Int) : laws_szPartS.g l0 a1 = (if (wrap64 (a1 - (l0.length : Int))) < 0 then (some (-1)) else (laws_szPartS.l0g l0 (wrap64 (a1 - (l0.length : Int))) 0)) := by
  refine Lim.uniq (laws_szPartS.L l0 a1) ?_
  show Lim (fun k => if (wrap64 (a1 - (l0.length : Int))) < 0 then (some (-1)) else (laws_szPartS.l0 k l0 (wrap64 (a1 - (l0.length : Int))) 0)) _
  repeat' first | (with_reducible exact Lim.const _) | (with_reducible exact laws_szPartS.l0L _ _ _) | (with_reducible refine Lim.ite ?_ ?_) | (with_reducible refine Lim.bind ?_ (fun _ => ?_)) | exact Lim.const _ | refine Lim.ite ?_ ?_ | refine Lim.bind ?_ (fun _ => ?_) | exact laws_szPartS.l0L _ _ _
end Go.Proofs.Ytplljcjhfbamdaa.PA

namespace Go.Proofs.Ytplljcjhfbamdaa.PA
open Go.RowKit Go.Proofs.YtplljcjhfbamdaaW.PrintWords Go.Proofs.YtplljcjhfbamdaaW.PrintLast Go.Proofs.YtplljcjhfbamdaaW.PrintMore Go.Proofs.Ytplljcjhfbamdaa.Lim
set_option linter.unusedVariables false
set_option linter.unusedSimpArgs false
noncomputable def laws_toPartS.l0g (y0 : List (S67)) (y1 : List (S68)) (y2 : Int) : Option ((List (S68))) := lim (fun k => laws_toPartS.l0 k y0 y1 y2)
theorem laws_toPartS.l0L (y0 : List (S67)) (y1 : List (S68)) (y2 : Int) : Lim (fun k => laws_toPartS.l0 k y0 y1 y2) (laws_toPartS.l0g y0 y1 y2) := Lim.of (fun k => (laws_toPartS.mono_l k) y0 y1 y2)
theorem laws_toPartS.l0e (x0 : List (S67)) (x3 : List (S68)) (x4 : Int) : laws_toPartS.l0g x0 x3 x4 = (if x4 < (x0.length : Int) then (if 0 ≤ x4 then ((laws_toPart.f ((rd_T67 x0 x4).f0) ((rd_T67 x0 x4).f1)).bind fun bt114 => (if x4 < (x3.length : Int) then (laws_toPartS.l0g x0 (x3.set (x4 : Int).toNat (⟨bt114.1, bt114.2⟩ : S68)) (wrap64 (x4 + 1))) else (none))) else (none)) else (some x3)) := by
  refine Lim.round (laws_toPartS.l0L x0 x3 x4) ?_
  show Lim (fun k => if x4 < (x0.length : Int) then (if 0 ≤ x4 then ((laws_toPart.f ((rd_T67 x0 x4).f0) ((rd_T67 x0 x4).f1)).bind fun bt114 => (if x4 < (x3.length : Int) then (laws_toPartS.l0 k x0 (x3.set (x4 : Int).toNat (⟨bt114.1, bt114.2⟩ : S68)) (wrap64 (x4 + 1))) else (none))) else (none)) else (some x3)) _
  repeat' first | (with_reducible exact Lim.const _) | (with_reducible exact laws_toPartS.l0L _ _ _) | (with_reducible refine Lim.ite ?_ ?_) | (with_reducible refine Lim.bind ?_ (fun _ => ?_)) | exact Lim.const _ | refine Lim.ite ?_ ?_ | refine Lim.bind ?_ (fun _ => ?_) | exact laws_toPartS.l0L _ _ _
noncomputable def laws_toPartS.g (l0 : List (S67)) : Option ((List (S68))) := lim (fun k => laws_toPartS.f k l0)
theorem laws_toPartS.L (l0 : List (S67)) : Lim (fun k => laws_toPartS.f k l0) (laws_toPartS.g l0) := Lim.of (fun k => laws_toPartS.mono l0 k)
theorem laws_toPartS.ge (l0 : List (S67)) : laws_toPartS.g l0 = (if 0 ≤ (l0.length : Int) then (if ((l0.length : Int) : Int).toNat ≤ 11728124029610 then (laws_toPartS.l0g l0 (List.replicate ((l0.length : Int) : Int).toNat z68) 0) else (none)) else (none)) := by
  refine Lim.uniq (laws_toPartS.L l0) ?_
  show Lim (fun k => if 0 ≤ (l0.length : Int) then (if ((l0.length : Int) : Int).toNat ≤ 11728124029610 then (laws_toPartS.l0 k l0 (List.replicate ((l0.length : Int) : Int).toNat z68) 0) else (none)) else (none)) _
  repeat' first | (with_reducible exact Lim.const _) | (with_reducible exact laws_toPartS.l0L _ _ _) | (with_reducible refine Lim.ite ?_ ?_) | (with_reducible refine Lim.bind ?_ (fun _ => ?_)) | exact Lim.const _ | refine Lim.ite ?_ ?_ | refine Lim.bind ?_ (fun _ => ?_) | exact laws_toPartS.l0L _ _ _
end Go.Proofs.Ytplljcjhfbamdaa.PA

namespace Go.Proofs.Ytplljcjhfbamdaa.PA
open Go.RowKit Go.Proofs.YtplljcjhfbamdaaW.PrintWords Go.Proofs.YtplljcjhfbamdaaW.PrintLast Go.Proofs.YtplljcjhfbamdaaW.PrintMore Go.Proofs.Ytplljcjhfbamdaa.Lim
set_option linter.unusedVariables false
set_option linter.unusedSimpArgs false
noncomputable def laws_eqPartS.l0g (y0 : List (S68)) (y1 : List (S68)) (y2 : Int) : Option (Bool) := lim (fun k => laws_eqPartS.l0 k y0 y1 y2)
theorem laws_eqPartS.l0L (y0 : List (S68)) (y1 : List (S68)) (y2 : Int) : Lim (fun k => laws_eqPartS.l0 k y0 y1 y2) (laws_eqPartS.l0g y0 y1 y2) := Lim.of (fun k => (laws_eqPartS.mono_l k) y0 y1 y2)
theorem laws_eqPartS.l0e (x0 : List (S68)) (x1 : List (S68)) (x5 : Int) : laws_eqPartS.l0g x0 x1 x5 = (if x5 < (x0.length : Int) then (if 0 ≤ x5 then (if x5 < (x1.length : Int) then ((laws_eqPart.f ((rd_T68 x0 x5).f0) ((rd_T68 x0 x5).f1) ((rd_T68 x1 x5).f0) ((rd_T68 x1 x5).f1)).bind fun t123 => (if t123 = true then (laws_eqPartS.l0g x0 x1 (wrap64 (x5 + 1))) else (some false))) else (none)) else (none)) else (some true)) := by
  refine Lim.round (laws_eqPartS.l0L x0 x1 x5) ?_
  show Lim (fun k => if x5 < (x0.length : Int) then (if 0 ≤ x5 then (if x5 < (x1.length : Int) then ((laws_eqPart.f ((rd_T68 x0 x5).f0) ((rd_T68 x0 x5).f1) ((rd_T68 x1 x5).f0) ((rd_T68 x1 x5).f1)).bind fun t123 => (if t123 = true then (laws_eqPartS.l0 k x0 x1 (wrap64 (x5 + 1))) else (some false))) else (none)) else (none)) else (some true)) _
  repeat' first | (with_reducible exact Lim.const _) | (with_reducible exact laws_eqPartS.l0L _ _ _) | (with_reducible refine Lim.ite ?_ ?_) | (with_reducible refine Lim.bind ?_ (fun _ => ?_)) | exact Lim.const _ | refine Lim.ite ?_ ?_ | refine Lim.bind ?_ (fun _ => ?_) | exact laws_eqPartS.l0L _ _ _
noncomputable def laws_eqPartS.g (l0 : List (S68)) (l1 : List (S68)) : Option (Bool) := lim (fun k => laws_eqPartS.f k l0 l1)
theorem laws_eqPartS.L (l0 : List (S68)) (l1 : List (S68)) : Lim (fun k => laws_eqPartS.f k l0 l1) (laws_eqPartS.g l0 l1) := Lim.of (fun k => laws_eqPartS.mono l0 l1 k)
theorem laws_eqPartS.ge (l0 : List (S68)) (l1 : List (S68)) : laws_eqPartS.g l0 l1 = (if (l0.length : Int) = (l1.length : Int) then (laws_eqPartS.l0g l0 l1 0) else (some false)) := by
  refine Lim.uniq (laws_eqPartS.L l0 l1) ?_
  show Lim (fun k => if (l0.length : Int) = (l1.length : Int) then (laws_eqPartS.l0 k l0 l1 0) else (some false)) _
  repeat' first | (with_reducible exact Lim.const _) | (with_reducible exact laws_eqPartS.l0L _ _ _) | (with_reducible refine Lim.ite ?_ ?_) | (with_reducible refine Lim.bind ?_ (fun _ => ?_)) | exact Lim.const _ | refine Lim.ite ?_ ?_ | refine Lim.bind ?_ (fun _ => ?_) | exact laws_eqPartS.l0L _ _ _
end Go.Proofs.Ytplljcjhfbamdaa.PA

namespace Go.Proofs.Ytplljcjhfbamdaa.PA
open Go.RowKit Go.Proofs.YtplljcjhfbamdaaW.PrintWords Go.Proofs.YtplljcjhfbamdaaW.PrintLast Go.Proofs.YtplljcjhfbamdaaW.PrintMore Go.Proofs.Ytplljcjhfbamdaa.Base Go.Proofs.Ytplljcjhfbamdaa.Lim
set_option linter.unusedVariables false
set_option linter.unusedSimpArgs false

def Bd67 (x : S67) : Prop := (Lit.int .i64 x.f0).wf = true ∧ x.f1.size ≤ 140737488351232
def wt_Part (x : S67) : Nat := x.f1.size
def conv_Part (x : S67) : S68 := ⟨x.f0, x.f1⟩
theorem sz_Part (a0 : Int) (a1 : ByteArray) (left : Int) (h1 : a1.size ≤ 140737488351232) (hl : 0 ≤ left) (hm : left ≤ 4611686018427387904) : laws_szPart.f a0 a1 left = some (sub left (a1.size)) := by
  unfold laws_szPart.f
  rw [w64 (x := left - (a1.size : Int)) (by omega) (by omega)]
  by_cases c0 : left - (a1.size : Int) < 0
  · rw [if_pos c0]; exact sub_neg (by omega)
  rw [if_neg c0]
  all_goals (refine congrArg some ?_; first | (rw [sub_ge (by omega)]; done) | (rw [sub_ge (by omega)]; omega))
theorem to_Part (a0 : Int) (a1 : ByteArray)  : laws_toPart.f a0 a1 = some (a0, a1) := by
  rfl
theorem eq_Part (a0 : Int) (a1 : ByteArray)  : laws_eqPart.f a0 a1 a0 a1 = some true := by
  unfold laws_eqPart.f
  simp
def wtS_Part : List S67 → Nat := fun l => l.length + (l.map wt_Part).sum
theorem szS_Part (l : List S67) (left : Int) (h : l.length * 24 ≤ 140737488351232 ∧ l.length ≤ maxLen ∧ ∀ y ∈ l, Bd67 y) (hl : 0 ≤ left) (hm : left ≤ 4611686018427387904) : laws_szPartS.g l left = some (sub left (wtS_Part l)) := by
  obtain ⟨h1, h2, h3⟩ := h
  have hn : Sm l.length := by unfold Sm; omega
  rw [laws_szPartS.ge, w64 (by omega) (by omega)]
  unfold wtS_Part
  by_cases c : left - (l.length : Int) < 0
  · rw [if_pos c]; exact sub_neg (by omega)
  rw [if_neg c]
  have key := loopP (l := l) (fun s i => laws_szPartS.l0g l s i) (fun s r => some (sub s ((r.map wt_Part).sum))) (fun s => 0 ≤ s ∧ s ≤ 4611686018427387904) ?_ ?_ (left - (l.length : Int)) ⟨by omega, by omega⟩
  · rw [key, sub_add (by omega)]
  · rintro s ⟨hs0, hs1⟩
    rw [laws_szPartS.l0e, if_neg not_lt_len]
    simp [sub, hs0]
  · rintro i x r hi hx ih s ⟨hs0, hs1⟩
    have hb := h3 x (List.mem_of_getElem? hx)
    rw [laws_szPartS.l0e, if_pos (nat_lt_len hi), if_pos (nat_nonneg i), w64_succ hi hn]
    simp only [rd_T67, getD_x hx]
    rw [sz_Part x.f0 x.f1 s hb.2 hs0 hs1, Option.bind_some]
    rw [List.map_cons, List.sum_cons]
    show (if sub s (wt_Part x) < 0 then some (-1) else laws_szPartS.l0g l (sub s (wt_Part x)) _) = _
    by_cases c2 : s < ((wt_Part x : Nat) : Int)
    · rw [if_pos (sub_lt c2)]; exact sub_neg (by omega)
    rw [if_neg (sub_nlt hs0 c2), sub_ge c2, ih _ ⟨by omega, by omega⟩]; exact sub_step (by omega)
theorem toS_Part (l : List S67) (h : l.length * 24 ≤ 140737488351232 ∧ l.length ≤ maxLen ∧ ∀ y ∈ l, Bd67 y) : laws_toPartS.g l = some (l.map conv_Part) := by
  obtain ⟨h1, h2, h3⟩ := h
  have key : ∀ i, i ≤ l.length → laws_toPartS.l0g l ((l.take i).map conv_Part ++ List.replicate (l.length - i) z68) (i : Int) = some (l.map conv_Part) := by
    refine down ?_ ?_
    · rw [laws_toPartS.l0e, if_neg not_lt_len]
      simp
    · intro i hi ih
      have hb := h3 l[i] (List.getElem_mem hi)
      rw [laws_toPartS.l0e, if_pos (nat_lt_len hi), if_pos (nat_nonneg i)]
      simp only [rd_T67, Int.toNat_natCast, getD_at hi]
      rw [to_Part l[i].f0 l[i].f1 , Option.bind_some, if_pos (by simp; omega), w64_succ hi (by unfold Sm; omega)]
      have e := copied conv_Part z68 l i hi
      rw [← e] at ih
      exact ih
  rw [laws_toPartS.ge, if_pos (by omega), if_pos (by rw [Int.toNat_natCast]; omega)]
  have := key 0 (by omega)
  simpa using this
theorem eqS_Part (l : List S68) (h : Sm l.length) : laws_eqPartS.g l l = some true := by
  have hn := h
  rw [laws_eqPartS.ge, if_pos rfl]
  refine loop1 (l := l) (fun i => laws_eqPartS.l0g l l i) (fun _ => some true) ?_ ?_
  · rw [laws_eqPartS.l0e, if_neg not_lt_len]
  · intro i x r hi hx ih
    rw [laws_eqPartS.l0e, if_pos (nat_lt_len hi), if_pos (nat_nonneg i), if_pos (nat_lt_len hi), w64_succ hi hn, ih]
    simp only [rd_T68, getD_x hx]
    rw [eq_Part x.f0 x.f1 , Option.bind_some, if_pos rfl]
end Go.Proofs.Ytplljcjhfbamdaa.PA

namespace Go.Proofs.Ytplljcjhfbamdaa.PA
open Go.RowKit Go.Proofs.YtplljcjhfbamdaaW.PrintWords Go.Proofs.YtplljcjhfbamdaaW.PrintLast Go.Proofs.YtplljcjhfbamdaaW.PrintMore Go.Proofs.Ytplljcjhfbamdaa.Lim
set_option linter.unusedVariables false
set_option linter.unusedSimpArgs false
noncomputable def spec_FormatPage.l0g (y0 : List (S68)) (y1 : ByteArray) (y2 : Int) : Option (ByteArray) := lim (fun k => spec_FormatPage.l0 k y0 y1 y2)
theorem spec_FormatPage.l0L (y0 : List (S68)) (y1 : ByteArray) (y2 : Int) : Lim (fun k => spec_FormatPage.l0 k y0 y1 y2) (spec_FormatPage.l0g y0 y1 y2) := Lim.of (fun k => (spec_FormatPage.mono_l k) y0 y1 y2)
theorem spec_FormatPage.l0e (x0 : List (S68)) (x3 : ByteArray) (x4 : Int) : spec_FormatPage.l0g x0 x3 x4 = (if x4 < (x0.length : Int) then (if 0 ≤ x4 then (if ((rd_T68 x0 x4).f0) = 2 then (if x3.size + 10 ≤ 9223372036854775807 then (if (x3 ++ (⟨#[60, 37, 105, 110, 99, 108, 117, 100, 101, 32]⟩ : ByteArray)).size + ((rd_T68 x0 x4).f1).size ≤ 9223372036854775807 then (if ((x3 ++ (⟨#[60, 37, 105, 110, 99, 108, 117, 100, 101, 32]⟩ : ByteArray)) ++ ((rd_T68 x0 x4).f1)).size + 2 ≤ 9223372036854775807 then (spec_FormatPage.l0g x0 (((x3 ++ (⟨#[60, 37, 105, 110, 99, 108, 117, 100, 101, 32]⟩ : ByteArray)) ++ ((rd_T68 x0 x4).f1)) ++ (⟨#[37, 62]⟩ : ByteArray)) (wrap64 (x4 + 1))) else (none)) else (none)) else (none)) else (if x3.size + ((rd_T68 x0 x4).f1).size ≤ 9223372036854775807 then (spec_FormatPage.l0g x0 (x3 ++ ((rd_T68 x0 x4).f1)) (wrap64 (x4 + 1))) else (none))) else (none)) else (some x3)) := by
  refine Lim.round (spec_FormatPage.l0L x0 x3 x4) ?_
  show Lim (fun k => if x4 < (x0.length : Int) then (if 0 ≤ x4 then (if ((rd_T68 x0 x4).f0) = 2 then (if x3.size + 10 ≤ 9223372036854775807 then (if (x3 ++ (⟨#[60, 37, 105, 110, 99, 108, 117, 100, 101, 32]⟩ : ByteArray)).size + ((rd_T68 x0 x4).f1).size ≤ 9223372036854775807 then (if ((x3 ++ (⟨#[60, 37, 105, 110, 99, 108, 117, 100, 101, 32]⟩ : ByteArray)) ++ ((rd_T68 x0 x4).f1)).size + 2 ≤ 9223372036854775807 then (spec_FormatPage.l0 k x0 (((x3 ++ (⟨#[60, 37, 105, 110, 99, 108, 117, 100, 101, 32]⟩ : ByteArray)) ++ ((rd_T68 x0 x4).f1)) ++ (⟨#[37, 62]⟩ : ByteArray)) (wrap64 (x4 + 1))) else (none)) else (none)) else (none)) else (if x3.size + ((rd_T68 x0 x4).f1).size ≤ 9223372036854775807 then (spec_FormatPage.l0 k x0 (x3 ++ ((rd_T68 x0 x4).f1)) (wrap64 (x4 + 1))) else (none))) else (none)) else (some x3)) _
  repeat' first | (with_reducible exact Lim.const _) | (with_reducible exact spec_FormatPage.l0L _ _ _) | (with_reducible refine Lim.ite ?_ ?_) | (with_reducible refine Lim.bind ?_ (fun _ => ?_)) | exact Lim.const _ | refine Lim.ite ?_ ?_ | refine Lim.bind ?_ (fun _ => ?_) | exact spec_FormatPage.l0L _ _ _
noncomputable def spec_FormatPage.g (l0 : List (S68)) : Option (ByteArray) := lim (fun k => spec_FormatPage.f k l0)
theorem spec_FormatPage.L (l0 : List (S68)) : Lim (fun k => spec_FormatPage.f k l0) (spec_FormatPage.g l0) := Lim.of (fun k => spec_FormatPage.mono l0 k)
theorem spec_FormatPage.ge (l0 : List (S68)) : spec_FormatPage.g l0 = (spec_FormatPage.l0g l0 (⟨#[]⟩ : ByteArray) 0) := by
  refine Lim.uniq (spec_FormatPage.L l0) ?_
  show Lim (fun k => spec_FormatPage.l0 k l0 (⟨#[]⟩ : ByteArray) 0) _
  repeat' first | (with_reducible exact Lim.const _) | (with_reducible exact spec_FormatPage.l0L _ _ _) | (with_reducible refine Lim.ite ?_ ?_) | (with_reducible refine Lim.bind ?_ (fun _ => ?_)) | exact Lim.const _ | refine Lim.ite ?_ ?_ | refine Lim.bind ?_ (fun _ => ?_) | exact spec_FormatPage.l0L _ _ _
end Go.Proofs.Ytplljcjhfbamdaa.PA

namespace Go.Proofs.Ytplljcjhfbamdaa.PA
open Go.RowKit Go.Proofs.YtplljcjhfbamdaaW.PrintWords Go.Proofs.YtplljcjhfbamdaaW.PrintLast Go.Proofs.YtplljcjhfbamdaaW.PrintMore Go.Proofs.Ytplljcjhfbamdaa.Lim
set_option linter.unusedVariables false
set_option linter.unusedSimpArgs false
noncomputable def impl_FormatPage.l0g (y0 : ByteArray) (y1 : List (S68)) (y2 : Int) (y3 : Int) : Option (ByteArray) := lim (fun k => impl_FormatPage.l0 k y0 y1 y2 y3)
theorem impl_FormatPage.l0L (y0 : ByteArray) (y1 : List (S68)) (y2 : Int) (y3 : Int) : Lim (fun k => impl_FormatPage.l0 k y0 y1 y2 y3) (impl_FormatPage.l0g y0 y1 y2 y3) := Lim.of (fun k => (impl_FormatPage.mono_l k) y0 y1 y2 y3)
theorem impl_FormatPage.l0e (x3 : ByteArray) (x6 : List (S68)) (x7 : Int) (x8 : Int) : impl_FormatPage.l0g x3 x6 x7 x8 = (if x8 < x7 then (if 0 ≤ x8 then (if x8 < (x6.length : Int) then (if ((rd_T68 x6 x8).f0) = 2 then (if 10 + ((rd_T68 x6 x8).f1).size ≤ 9223372036854775807 then (if ((⟨#[60, 37, 105, 110, 99, 108, 117, 100, 101, 32]⟩ : ByteArray) ++ ((rd_T68 x6 x8).f1)).size + 2 ≤ 9223372036854775807 then (if x3.size + (((⟨#[60, 37, 105, 110, 99, 108, 117, 100, 101, 32]⟩ : ByteArray) ++ ((rd_T68 x6 x8).f1)) ++ (⟨#[37, 62]⟩ : ByteArray)).size ≤ 9223372036854775807 then (impl_FormatPage.l0g (x3 ++ (((⟨#[60, 37, 105, 110, 99, 108, 117, 100, 101, 32]⟩ : ByteArray) ++ ((rd_T68 x6 x8).f1)) ++ (⟨#[37, 62]⟩ : ByteArray))) x6 x7 (wrap64 (x8 + 1))) else (none)) else (none)) else (none)) else (if x3.size + ((rd_T68 x6 x8).f1).size ≤ 9223372036854775807 then (impl_FormatPage.l0g (x3 ++ ((rd_T68 x6 x8).f1)) x6 x7 (wrap64 (x8 + 1))) else (none))) else (none)) else (none)) else (some x3)) := by
  refine Lim.round (impl_FormatPage.l0L x3 x6 x7 x8) ?_
  show Lim (fun k => if x8 < x7 then (if 0 ≤ x8 then (if x8 < (x6.length : Int) then (if ((rd_T68 x6 x8).f0) = 2 then (if 10 + ((rd_T68 x6 x8).f1).size ≤ 9223372036854775807 then (if ((⟨#[60, 37, 105, 110, 99, 108, 117, 100, 101, 32]⟩ : ByteArray) ++ ((rd_T68 x6 x8).f1)).size + 2 ≤ 9223372036854775807 then (if x3.size + (((⟨#[60, 37, 105, 110, 99, 108, 117, 100, 101, 32]⟩ : ByteArray) ++ ((rd_T68 x6 x8).f1)) ++ (⟨#[37, 62]⟩ : ByteArray)).size ≤ 9223372036854775807 then (impl_FormatPage.l0 k (x3 ++ (((⟨#[60, 37, 105, 110, 99, 108, 117, 100, 101, 32]⟩ : ByteArray) ++ ((rd_T68 x6 x8).f1)) ++ (⟨#[37, 62]⟩ : ByteArray))) x6 x7 (wrap64 (x8 + 1))) else (none)) else (none)) else (none)) else (if x3.size + ((rd_T68 x6 x8).f1).size ≤ 9223372036854775807 then (impl_FormatPage.l0 k (x3 ++ ((rd_T68 x6 x8).f1)) x6 x7 (wrap64 (x8 + 1))) else (none))) else (none)) else (none)) else (some x3)) _
  repeat' first | (with_reducible exact Lim.const _) | (with_reducible exact impl_FormatPage.l0L _ _ _ _) | (with_reducible refine Lim.ite ?_ ?_) | (with_reducible refine Lim.bind ?_ (fun _ => ?_)) | exact Lim.const _ | refine Lim.ite ?_ ?_ | refine Lim.bind ?_ (fun _ => ?_) | exact impl_FormatPage.l0L _ _ _ _
noncomputable def impl_FormatPage.g (l0 : List (S68)) : Option (ByteArray) := lim (fun k => impl_FormatPage.f k l0)
theorem impl_FormatPage.L (l0 : List (S68)) : Lim (fun k => impl_FormatPage.f k l0) (impl_FormatPage.g l0) := Lim.of (fun k => impl_FormatPage.mono l0 k)
theorem impl_FormatPage.ge (l0 : List (S68)) : impl_FormatPage.g l0 = (impl_FormatPage.l0g (⟨#[]⟩ : ByteArray) l0 (l0.length : Int) 0) := by
  refine Lim.uniq (impl_FormatPage.L l0) ?_
  show Lim (fun k => impl_FormatPage.l0 k (⟨#[]⟩ : ByteArray) l0 (l0.length : Int) 0) _
  repeat' first | (with_reducible exact Lim.const _) | (with_reducible exact impl_FormatPage.l0L _ _ _ _) | (with_reducible refine Lim.ite ?_ ?_) | (with_reducible refine Lim.bind ?_ (fun _ => ?_)) | exact Lim.const _ | refine Lim.ite ?_ ?_ | refine Lim.bind ?_ (fun _ => ?_) | exact impl_FormatPage.l0L _ _ _ _
end Go.Proofs.Ytplljcjhfbamdaa.PA

namespace Go.Proofs.Ytplljcjhfbamdaa.PA
open Go.RowKit Go.Proofs.YtplljcjhfbamdaaW.PrintWords Go.Proofs.YtplljcjhfbamdaaW.PrintLast Go.Proofs.YtplljcjhfbamdaaW.PrintMore Go.Proofs.Ytplljcjhfbamdaa.Lim
set_option linter.unusedVariables false
set_option linter.unusedSimpArgs false
noncomputable def laws_FnExactFormatPage.g (l0 : List (S67)) : Option (Bool) := lim (fun k => laws_FnExactFormatPage.f k l0)
theorem laws_FnExactFormatPage.L (l0 : List (S67)) : Lim (fun k => laws_FnExactFormatPage.f k l0) (laws_FnExactFormatPage.g l0) := Lim.of (fun k => laws_FnExactFormatPage.mono l0 k)
theorem laws_FnExactFormatPage.ge (l0 : List (S67)) : laws_FnExactFormatPage.g l0 = ((laws_szPartS.g l0 1048576).bind fun t124 => (if t124 < 0 then (some true) else ((laws_toPartS.g l0).bind fun t125 => ((spec_FormatPage.g t125).bind fun t128 => ((laws_toPartS.g l0).bind fun t129 => ((impl_FormatPage.g t129).bind fun t132 => (if t132.toList = t128.toList then ((laws_toPartS.g l0).bind fun t133 => ((laws_eqPartS.g t129 t133).bind fun t136 => (if t136 = true then (some true) else (some false)))) else (some false)))))))) := by
  refine Lim.uniq (laws_FnExactFormatPage.L l0) ?_
  show Lim (fun k => (laws_szPartS.f k l0 1048576).bind fun t124 => (if t124 < 0 then (some true) else ((laws_toPartS.f k l0).bind fun t125 => ((spec_FormatPage.f k t125).bind fun t128 => ((laws_toPartS.f k l0).bind fun t129 => ((impl_FormatPage.f k t129).bind fun t132 => (if t132.toList = t128.toList then ((laws_toPartS.f k l0).bind fun t133 => ((laws_eqPartS.f k t129 t133).bind fun t136 => (if t136 = true then (some true) else (some false)))) else (some false)))))))) _
  repeat' first | (with_reducible exact Lim.const _) | (with_reducible exact laws_szPartS.L _ _) | (with_reducible exact laws_toPartS.L _) | (with_reducible exact spec_FormatPage.L _) | (with_reducible exact impl_FormatPage.L _) | (with_reducible exact laws_eqPartS.L _ _) | (with_reducible refine Lim.ite ?_ ?_) | (with_reducible refine Lim.bind ?_ (fun _ => ?_)) | exact Lim.const _ | refine Lim.ite ?_ ?_ | refine Lim.bind ?_ (fun _ => ?_) | exact laws_szPartS.L _ _ | exact laws_toPartS.L _ | exact spec_FormatPage.L _ | exact impl_FormatPage.L _ | exact laws_eqPartS.L _ _
end Go.Proofs.Ytplljcjhfbamdaa.PA

namespace Go.Proofs.Ytplljcjhfbamdaa.PA
open Go.RowKit Go.Proofs.YtplljcjhfbamdaaW.PrintWords Go.Proofs.YtplljcjhfbamdaaW.PrintLast Go.Proofs.YtplljcjhfbamdaaW.PrintMore Go.Proofs.Ytplljcjhfbamdaa.Base Go.Proofs.Ytplljcjhfbamdaa.Lim
set_option linter.unusedVariables false
set_option linter.unusedSimpArgs false
def incl : ByteArray := ⟨#[60, 37, 105, 110, 99, 108, 117, 100, 101, 32]⟩
def shut : ByteArray := ⟨#[37, 62]⟩
def pageText (p : S68) : ByteArray := if p.f0 = 2 then incl ++ p.f1 ++ shut else p.f1
def formatPage (s : ByteArray) (l : List S68) : ByteArray := l.foldl (fun s p => s ++ pageText p) s
def pageNeed (l : List S68) : Nat := (l.map fun p => p.f1.size + 12).sum
theorem incl_size : incl.size = 10 := rfl
theorem shut_size : shut.size = 2 := rfl
theorem pageText_size (p : S68) : (pageText p).size ≤ p.f1.size + 12 := by
  unfold pageText
  split
  · rw [ByteArray.size_append, ByteArray.size_append, incl_size, shut_size]; omega
  · omega
theorem spec_FormatPage_eq (l : List S68) (hn : Sm l.length) (hs : pageNeed l ≤ 4611686018427387904) : spec_FormatPage.g l = some (formatPage ⟨#[]⟩ l) := by
  rw [spec_FormatPage.ge]
  have key : ∀ i, i ≤ l.length → ∀ s : ByteArray, s.size + pageNeed (l.drop i) ≤ 4611686018427387904 → spec_FormatPage.l0g l s (i : Int) = some (formatPage s (l.drop i)) := by
    refine down ?_ ?_
    · intro s _
      rw [spec_FormatPage.l0e, if_neg not_lt_len, List.drop_length]; rfl
    · intro i hi ih s hb
      rw [drop_cons hi] at hb ⊢
      have hb2 : s.size + (l[i].f1.size + 12 + pageNeed (l.drop (i + 1))) ≤ 4611686018427387904 := hb
      have hp := pageText_size l[i]
      have ih' := ih (s ++ pageText l[i]) (by rw [ByteArray.size_append]; omega)
      rw [spec_FormatPage.l0e, if_pos (nat_lt_len hi), if_pos (nat_nonneg i), w64_succ hi hn]
      rw [show rd_T68 l (i : Int) = l[i] from by unfold rd_T68; rw [Int.toNat_natCast, getD_at hi]]
      show _ = some (formatPage (s ++ pageText l[i]) (l.drop (i + 1)))
      rw [← ih']
      unfold pageText
      by_cases hc : l[i].f0 = 2
      · rw [if_pos hc, if_pos hc, if_pos (by omega)]
        show (if (s ++ incl).size + _ ≤ _ then (if ((s ++ incl) ++ _).size + 2 ≤ _ then spec_FormatPage.l0g l (((s ++ incl) ++ _) ++ shut) _ else none) else none) = _
        rw [if_pos (by rw [ByteArray.size_append, incl_size]; omega), if_pos (by rw [ByteArray.size_append, ByteArray.size_append, incl_size]; omega)]
        rw [ByteArray.append_assoc, ByteArray.append_assoc, ByteArray.append_assoc]
      · rw [if_neg hc, if_neg hc, if_pos (by omega)]
  have := key 0 (by omega) ⟨#[]⟩ (by have : (⟨#[]⟩ : ByteArray).size = 0 := rfl; rw [List.drop_zero]; omega)
  rw [List.drop_zero] at this
  exact this
theorem impl_FormatPage_eq (l : List S68) (hn : Sm l.length) (hs : pageNeed l ≤ 4611686018427387904) : impl_FormatPage.g l = some (formatPage ⟨#[]⟩ l) := by
  rw [impl_FormatPage.ge]
  have key : ∀ i, i ≤ l.length → ∀ s : ByteArray, s.size + pageNeed (l.drop i) ≤ 4611686018427387904 → impl_FormatPage.l0g s l (l.length : Int) (i : Int) = some (formatPage s (l.drop i)) := by
    refine down ?_ ?_
    · intro s _
      rw [impl_FormatPage.l0e, if_neg not_lt_len, List.drop_length]; rfl
    · intro i hi ih s hb
      rw [drop_cons hi] at hb ⊢
      have hb2 : s.size + (l[i].f1.size + 12 + pageNeed (l.drop (i + 1))) ≤ 4611686018427387904 := hb
      have hp := pageText_size l[i]
      have ih' := ih (s ++ pageText l[i]) (by rw [ByteArray.size_append]; omega)
      rw [impl_FormatPage.l0e, if_pos (nat_lt_len hi), if_pos (nat_nonneg i), if_pos (nat_lt_len hi), w64_succ hi hn]
      rw [show rd_T68 l (i : Int) = l[i] from by unfold rd_T68; rw [Int.toNat_natCast, getD_at hi]]
      show _ = some (formatPage (s ++ pageText l[i]) (l.drop (i + 1)))
      rw [← ih']
      unfold pageText
      by_cases hc : l[i].f0 = 2
      · rw [if_pos hc, if_pos hc, if_pos (by omega)]
        show (if (incl ++ _).size + 2 ≤ _ then (if s.size + ((incl ++ _) ++ shut).size ≤ _ then impl_FormatPage.l0g (s ++ ((incl ++ _) ++ shut)) l _ _ else none) else none) = _
        rw [if_pos (by rw [ByteArray.size_append, incl_size]; omega), if_pos (by rw [ByteArray.size_append, ByteArray.size_append, incl_size, shut_size]; omega)]
      · rw [if_neg hc, if_neg hc, if_pos (by omega)]
  have := key 0 (by omega) ⟨#[]⟩ (by have : (⟨#[]⟩ : ByteArray).size = 0 := rfl; rw [List.drop_zero]; omega)
  rw [List.drop_zero] at this
  exact this
end Go.Proofs.Ytplljcjhfbamdaa.PA
