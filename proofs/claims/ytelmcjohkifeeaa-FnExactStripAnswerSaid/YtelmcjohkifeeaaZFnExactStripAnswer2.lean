/- Laws about the functions that FnExactStripAnswer reaches. Conditions: bounds on sizes. -/
import Derived.Test.YtelmcjohkifeeaaWMore
import Derived.Test.YtelmcjohkifeeaaZFnExactStripAnswer1
namespace Go.Proofs.Ytelmcjohkifeeaa.Lim
open Go.RowKit Go.Proofs.YtelmcjohkifeeaaW.PrintWords Go.Proofs.YtelmcjohkifeeaaW.PrintLast Go.Proofs.YtelmcjohkifeeaaW.PrintMore
set_option linter.unusedVariables false

def Mono {α : Type} (g : Nat → Option α) : Prop := ∀ k, LeO (g k) (g (k + 1))
open Classical in
noncomputable def lim {α : Type} (g : Nat → Option α) : Option α := if h : ∃ r, ∃ k, g k = some r then some (Classical.choose h) else none

theorem Mono.uniq {α : Type} {g : Nat → Option α} (hg : Mono g) {k k' : Nat} {r r' : α} (h : g k = some r) (h' : g k' = some r') : r = r' := by
  have h1 := at_rounds hg (Nat.le_max_left k k') h
  have h2 := at_rounds hg (Nat.le_max_right k k') h'
  exact Option.some.inj (h1.symm.trans h2)

theorem lim_some {α : Type} {g : Nat → Option α} (hg : Mono g) {r : α} : lim g = some r ↔ ∃ k, g k = some r := by
  unfold lim
  constructor
  · intro h
    split at h
    · rename_i he
      obtain ⟨k, hk⟩ := Classical.choose_spec he
      cases h
      exact ⟨k, hk⟩
    · cases h
  · rintro ⟨k, hk⟩
    have he : ∃ r, ∃ k, g k = some r := ⟨r, k, hk⟩
    rw [dif_pos he]
    obtain ⟨k', hk'⟩ := Classical.choose_spec he
    exact congrArg some (hg.uniq hk' hk)

/-- With enough rounds g comes to x; more rounds tell the same. -/
def Lim {α : Type} (g : Nat → Option α) (x : Option α) : Prop := Mono g ∧ lim g = x

theorem Lim.of {α : Type} {g : Nat → Option α} (h : ∀ k, LeO (g k) (g (k + 1))) : Lim g (lim g) := ⟨h, rfl⟩
theorem Lim.intro {α : Type} {g : Nat → Option α} {x : Option α} (hg : Mono g) (h : ∀ r, x = some r ↔ ∃ k, g k = some r) : Lim g x := by
  refine ⟨hg, ?_⟩
  cases hx : x with
  | some r => exact (lim_some hg).2 ((h r).1 hx)
  | none =>
    cases hl : lim g with
    | none => rfl
    | some r =>
      have := (h r).2 ((lim_some hg).1 hl)
      rw [hx] at this
      cases this
theorem Lim.iff {α : Type} {g : Nat → Option α} {x : Option α} (h : Lim g x) {r : α} : x = some r ↔ ∃ k, g k = some r := by
  rw [← h.2]
  exact lim_some h.1
theorem Lim.const {α : Type} (x : Option α) : Lim (fun _ => x) x := Lim.intro (fun _ => LeO.refl _) (fun r => ⟨fun h => ⟨0, h⟩, fun ⟨_, h⟩ => h⟩)
theorem Lim.ite {α : Type} {c : Prop} [Decidable c] {g f : Nat → Option α} {x y : Option α} (hg : Lim g x) (hf : Lim f y) : Lim (fun k => if c then g k else f k) (if c then x else y) := by
  by_cases h : c
  · simp only [if_pos h]; exact hg
  · simp only [if_neg h]; exact hf
theorem Lim.bind {α β : Type} {g : Nat → Option α} {f : Nat → α → Option β} {x : Option α} {y : α → Option β} (hg : Lim g x) (hf : ∀ a, Lim (fun k => f k a) (y a)) : Lim (fun k => (g k).bind (f k)) (x.bind y) := by
  refine Lim.intro (fun k => LeO.bind (hg.1 k) (fun a => (hf a).1 k)) (fun r => ?_)
  constructor
  · intro h
    obtain ⟨a, ha, hr⟩ := Option.bind_eq_some_iff.1 h
    obtain ⟨k, hk⟩ := hg.iff.1 ha
    obtain ⟨k', hk'⟩ := (hf a).iff.1 hr
    refine ⟨max k k', Option.bind_eq_some_iff.2 ⟨a, at_rounds hg.1 (Nat.le_max_left _ _) hk, ?_⟩⟩
    exact at_rounds (g := fun k => f k a) (hf a).1 (Nat.le_max_right _ _) hk'
  · rintro ⟨k, hk⟩
    obtain ⟨a, ha, hr⟩ := Option.bind_eq_some_iff.1 hk
    exact Option.bind_eq_some_iff.2 ⟨a, hg.iff.2 ⟨k, ha⟩, (hf a).iff.2 ⟨k, hr⟩⟩
theorem Lim.succ {α : Type} {g : Nat → Option α} {x : Option α} (h : Lim g x) : Lim (fun k => g (k + 1)) x := by
  refine Lim.intro (fun k => h.1 (k + 1)) (fun r => ?_)
  rw [h.iff]
  constructor
  · rintro ⟨k, hk⟩; exact ⟨k, h.1 k r hk⟩
  · rintro ⟨k, hk⟩; exact ⟨k + 1, hk⟩
theorem Lim.uniq {α : Type} {g : Nat → Option α} {x y : Option α} (h : Lim g x) (h' : Lim g y) : x = y := h.2.symm.trans h'.2
/-- A loop's equation: one round of it. -/
theorem Lim.round {α : Type} {g : Nat → Option α} {x y : Option α} (h : Lim g x) (h' : Lim (fun k => g (k + 1)) y) : x = y := h.succ.uniq h'
theorem Lim.rounds {α : Type} {g : Nat → Option α} {x : Option α} (h : Lim g x) {r : α} (hx : x = some r) : ∃ k, g k = some r := h.iff.1 hx

end Go.Proofs.Ytelmcjohkifeeaa.Lim

namespace Go.Proofs.Ytelmcjohkifeeaa.Base
open Go.RowKit Go.Proofs.YtelmcjohkifeeaaW.PrintWords Go.Proofs.YtelmcjohkifeeaaW.PrintLast Go.Proofs.YtelmcjohkifeeaaW.PrintMore Go.Proofs.Ytelmcjohkifeeaa.Lim
set_option linter.unusedVariables false

def Big : Nat := 4611686018427387904
theorem Big_eq : Big = 4611686018427387904 := rfl
/-- Far below the bound of an int. -/
abbrev Sm (n : Nat) : Prop := n ≤ 4611686018427387904

theorem w64 {x : Int} (h0 : -9223372036854775808 ≤ x) (h1 : x ≤ 9223372036854775807) : wrap64 x = x := by
  unfold wrap64
  omega
theorem w64_succ {i n : Nat} (h : i < n) (hn : Sm n) : wrap64 ((i : Int) + 1) = ((i + 1 : Nat) : Int) := by
  rw [w64 (by omega) (by unfold Sm at hn; omega)]
  rfl
theorem down {n : Nat} {C : Nat → Prop} (h0 : C n) (hs : ∀ i, i < n → C (i + 1) → C i) : ∀ i, i ≤ n → C i := by
  intro i hi
  obtain ⟨d, rfl⟩ : ∃ d, n = i + d := ⟨n - i, by omega⟩
  clear hi
  induction d generalizing i with
  | zero => exact h0
  | succ d ih =>
    refine hs i (by omega) (ih (i + 1) ?_ ?_)
    · rw [show i + 1 + d = i + (d + 1) by omega]; exact h0
    · intro j hj hc
      exact hs j (by omega) hc
theorem drop_cons {α : Type} {l : List α} {i : Nat} (h : i < l.length) : l.drop i = l[i] :: l.drop (i + 1) := List.drop_eq_getElem_cons h
theorem getD_at {α : Type} {l : List α} {i : Nat} {d : α} (h : i < l.length) : l.getD i d = l[i] := by
  rw [List.getD_eq_getElem?_getD, List.getElem?_eq_getElem h]
  rfl
theorem nat_lt_len {α : Type} {l : List α} {i : Nat} (h : i < l.length) : (i : Int) < (l.length : Int) := by omega
theorem not_lt_len {α : Type} {l : List α} : ¬ (l.length : Int) < (l.length : Int) := by omega
theorem nat_nonneg (i : Nat) : (0 : Int) ≤ (i : Int) := by omega

/-- A loop over a list, from place i on, with what it carries. -/
theorem loop {α σ R : Type} {l : List α} {L : σ → Int → R} {M : σ → List α → R} (hnil : ∀ s, L s (l.length : Int) = M s [])
    (hcons : ∀ (i : Nat) (x : α) (r : List α), i < l.length → l[i]? = some x → (∀ s, L s ((i + 1 : Nat) : Int) = M s r) → ∀ s, L s (i : Int) = M s (x :: r)) :
    ∀ i, i ≤ l.length → ∀ s, L s (i : Int) = M s (l.drop i) := by
  refine down ?_ ?_
  · intro s
    rw [List.drop_length]
    exact hnil s
  · intro i hi ih s
    rw [drop_cons hi]
    exact hcons i _ _ hi (List.getElem?_eq_getElem hi) ih s
theorem loop0 {α σ R : Type} {l : List α} (L : σ → Int → R) (M : σ → List α → R) (hnil : ∀ s, L s (l.length : Int) = M s [])
    (hcons : ∀ (i : Nat) (x : α) (r : List α), i < l.length → l[i]? = some x → (∀ s, L s ((i + 1 : Nat) : Int) = M s r) → ∀ s, L s (i : Int) = M s (x :: r)) (s : σ) : L s 0 = M s l := by
  have := loop hnil hcons 0 (by omega) s
  simpa using this
/-- .. that carries nothing. -/
theorem loop1 {α R : Type} {l : List α} (L : Int → R) (M : List α → R) (hnil : L (l.length : Int) = M [])
    (hcons : ∀ (i : Nat) (x : α) (r : List α), i < l.length → l[i]? = some x → L ((i + 1 : Nat) : Int) = M r → L (i : Int) = M (x :: r)) : L 0 = M l :=
  loop0 (σ := Unit) (fun _ i => L i) (fun _ r => M r) (fun _ => hnil) (fun i x r hi hx ih _ => hcons i x r hi hx (ih ())) ()
theorem getD_x {α : Type} {l : List α} {i : Nat} {x d : α} (h : l[i]? = some x) : l.getD (i : Int).toNat d = x := by
  rw [Int.toNat_natCast, List.getD_eq_getElem?_getD, h]
  rfl

/-- .. under a condition on what it carries. -/
theorem loopP {α σ R : Type} {l : List α} (L : σ → Int → R) (M : σ → List α → R) (P : σ → Prop) (hnil : ∀ s, P s → L s (l.length : Int) = M s [])
    (hcons : ∀ (i : Nat) (x : α) (r : List α), i < l.length → l[i]? = some x → (∀ s, P s → L s ((i + 1 : Nat) : Int) = M s r) → ∀ s, P s → L s (i : Int) = M s (x :: r)) (s : σ) (hs : P s) : L s 0 = M s l := by
  have key : ∀ i, i ≤ l.length → ∀ s, P s → L s (i : Int) = M s (l.drop i) := by
    refine down ?_ ?_
    · intro s hs
      rw [List.drop_length]
      exact hnil s hs
    · intro i hi ih s hs
      rw [drop_cons hi]
      exact hcons i _ _ hi (List.getElem?_eq_getElem hi) ih s hs
  have := key 0 (by omega) s hs
  simpa using this

/-- What is left of a measure, -1 where it does not reach. -/
def sub (left : Int) (n : Nat) : Int := if (n : Int) ≤ left then left - n else -1
theorem sub_neg {left : Int} {n : Nat} (h : left < (n : Int)) : some (-1) = some (sub left n) := by
  unfold sub
  rw [if_neg (by omega)]
theorem sub_lt {left : Int} {n : Nat} (h : left < (n : Int)) : sub left n < 0 := by
  unfold sub
  rw [if_neg (by omega)]
  omega
theorem sub_nlt {left : Int} {n : Nat} (h0 : 0 ≤ left) (h : ¬ left < (n : Int)) : ¬ sub left n < 0 := by
  unfold sub
  rw [if_pos (by omega)]
  omega
theorem sub_ge {left : Int} {n : Nat} (h : ¬ left < (n : Int)) : sub left n = left - n := by
  unfold sub
  rw [if_pos (by omega)]
theorem sub_add {left : Int} {n m : Nat} (h : ¬ left < (n : Int)) : sub (left - n) m = sub left (n + m) := by
  unfold sub
  by_cases c : (m : Int) ≤ left - n
  · rw [if_pos c, if_pos (by omega)]; omega
  · rw [if_neg c, if_neg (by omega)]
theorem sub_step {left : Int} {n m : Nat} (h : ¬ left < (n : Int)) : some (sub (left - n) m) = some (sub left (n + m)) := by rw [sub_add h]

theorem set_append {α : Type} (xs : List α) (y : α) (z : α) (n : Nat) : (xs ++ y :: List.replicate n z).set xs.length = fun v => xs ++ v :: List.replicate n z := by
  funext v
  rw [List.set_append_right _ _ (Nat.le_refl _)]
  simp
/-- The way that a list is copied: place by place into a made one. -/
theorem copied {α β : Type} (f : α → β) (z : β) (l : List α) (i : Nat) (hi : i < l.length) :
    ((l.take i).map f ++ List.replicate (l.length - i) z).set i (f l[i]) = (l.take (i + 1)).map f ++ List.replicate (l.length - (i + 1)) z := by
  have hlen : ((l.take i).map f).length = i := by simp; omega
  rw [List.set_append_right _ _ (by omega), hlen, Nat.sub_self]
  obtain ⟨m, hm⟩ : ∃ m, l.length - i = m + 1 := ⟨l.length - i - 1, by omega⟩
  rw [hm, show l.length - (i + 1) = m by omega, List.replicate_succ, List.set_cons_zero, List.take_succ_eq_append_getElem hi, List.map_append]
  simp
theorem pure_of {g : Nat → Option Bool} {x : Option Bool} (h : Lim g x) (hx : x = some true) : ∃ k, g k = some true := h.rounds hx

end Go.Proofs.Ytelmcjohkifeeaa.Base

namespace Go.Proofs.Ytelmcjohkifeeaa.PA
open Go.RowKit Go.Proofs.YtelmcjohkifeeaaW.PrintWords Go.Proofs.YtelmcjohkifeeaaW.PrintLast Go.Proofs.YtelmcjohkifeeaaW.PrintMore Go.Proofs.Ytelmcjohkifeeaa.Lim
set_option linter.unusedVariables false
set_option linter.unusedSimpArgs false
noncomputable def laws_szFieldS.l0g (y0 : List (S145)) (y1 : Int) (y2 : Int) : Option (Int) := lim (fun k => laws_szFieldS.l0 k y0 y1 y2)
theorem laws_szFieldS.l0L (y0 : List (S145)) (y1 : Int) (y2 : Int) : Lim (fun k => laws_szFieldS.l0 k y0 y1 y2) (laws_szFieldS.l0g y0 y1 y2) := Lim.of (fun k => (laws_szFieldS.mono_l k) y0 y1 y2)
theorem laws_szFieldS.l0e (x0 : List (S145)) (x1 : Int) (x5 : Int) : laws_szFieldS.l0g x0 x1 x5 = (if x5 < (x0.length : Int) then (if 0 ≤ x5 then ((laws_szField.f ((rd_T145 x0 x5).f0) ((rd_T145 x0 x5).f1) x1).bind fun t261 => (if t261 < 0 then (some (-1)) else (laws_szFieldS.l0g x0 t261 (wrap64 (x5 + 1))))) else (none)) else (some x1)) := by
  refine Lim.round (laws_szFieldS.l0L x0 x1 x5) ?_
  show Lim (fun k => if x5 < (x0.length : Int) then (if 0 ≤ x5 then ((laws_szField.f ((rd_T145 x0 x5).f0) ((rd_T145 x0 x5).f1) x1).bind fun t261 => (if t261 < 0 then (some (-1)) else (laws_szFieldS.l0 k x0 t261 (wrap64 (x5 + 1))))) else (none)) else (some x1)) _
  repeat' first | (with_reducible exact Lim.const _) | (with_reducible exact laws_szFieldS.l0L _ _ _) | (with_reducible refine Lim.ite ?_ ?_) | (with_reducible refine Lim.bind ?_ (fun _ => ?_)) | exact Lim.const _ | refine Lim.ite ?_ ?_ | refine Lim.bind ?_ (fun _ => ?_) | exact laws_szFieldS.l0L _ _ _
noncomputable def laws_szFieldS.g (l0 : List (S145)) (a1 : Int) : Option (Int) := lim (fun k => laws_szFieldS.f k l0 a1)
theorem laws_szFieldS.L (l0 : List (S145)) (a1 : Int) : Lim (fun k => laws_szFieldS.f k l0 a1) (laws_szFieldS.g l0 a1) := Lim.of (fun k => laws_szFieldS.mono l0 a1 k)
theorem laws_szFieldS.ge (l0 : List (S145)) (a1 : Int) : laws_szFieldS.g l0 a1 = (if (wrap64 (a1 - (l0.length : Int))) < 0 then (some (-1)) else (laws_szFieldS.l0g l0 (wrap64 (a1 - (l0.length : Int))) 0)) := by
  refine Lim.uniq (laws_szFieldS.L l0 a1) ?_
  show Lim (fun k => if (wrap64 (a1 - (l0.length : Int))) < 0 then (some (-1)) else (laws_szFieldS.l0 k l0 (wrap64 (a1 - (l0.length : Int))) 0)) _
  repeat' first | (with_reducible exact Lim.const _) | (with_reducible exact laws_szFieldS.l0L _ _ _) | (with_reducible refine Lim.ite ?_ ?_) | (with_reducible refine Lim.bind ?_ (fun _ => ?_)) | exact Lim.const _ | refine Lim.ite ?_ ?_ | refine Lim.bind ?_ (fun _ => ?_) | exact laws_szFieldS.l0L _ _ _
end Go.Proofs.Ytelmcjohkifeeaa.PA

namespace Go.Proofs.Ytelmcjohkifeeaa.PA
open Go.RowKit Go.Proofs.YtelmcjohkifeeaaW.PrintWords Go.Proofs.YtelmcjohkifeeaaW.PrintLast Go.Proofs.YtelmcjohkifeeaaW.PrintMore Go.Proofs.Ytelmcjohkifeeaa.Lim
set_option linter.unusedVariables false
set_option linter.unusedSimpArgs false
noncomputable def laws_toFieldS.l0g (y0 : List (S145)) (y1 : List (S146)) (y2 : Int) : Option ((List (S146))) := lim (fun k => laws_toFieldS.l0 k y0 y1 y2)
theorem laws_toFieldS.l0L (y0 : List (S145)) (y1 : List (S146)) (y2 : Int) : Lim (fun k => laws_toFieldS.l0 k y0 y1 y2) (laws_toFieldS.l0g y0 y1 y2) := Lim.of (fun k => (laws_toFieldS.mono_l k) y0 y1 y2)
theorem laws_toFieldS.l0e (x0 : List (S145)) (x3 : List (S146)) (x4 : Int) : laws_toFieldS.l0g x0 x3 x4 = (if x4 < (x0.length : Int) then (if 0 ≤ x4 then ((laws_toField.f ((rd_T145 x0 x4).f0) ((rd_T145 x0 x4).f1)).bind fun bt287 => (if x4 < (x3.length : Int) then (laws_toFieldS.l0g x0 (x3.set (x4 : Int).toNat (⟨bt287.1, bt287.2⟩ : S146)) (wrap64 (x4 + 1))) else (none))) else (none)) else (some x3)) := by
  refine Lim.round (laws_toFieldS.l0L x0 x3 x4) ?_
  show Lim (fun k => if x4 < (x0.length : Int) then (if 0 ≤ x4 then ((laws_toField.f ((rd_T145 x0 x4).f0) ((rd_T145 x0 x4).f1)).bind fun bt287 => (if x4 < (x3.length : Int) then (laws_toFieldS.l0 k x0 (x3.set (x4 : Int).toNat (⟨bt287.1, bt287.2⟩ : S146)) (wrap64 (x4 + 1))) else (none))) else (none)) else (some x3)) _
  repeat' first | (with_reducible exact Lim.const _) | (with_reducible exact laws_toFieldS.l0L _ _ _) | (with_reducible refine Lim.ite ?_ ?_) | (with_reducible refine Lim.bind ?_ (fun _ => ?_)) | exact Lim.const _ | refine Lim.ite ?_ ?_ | refine Lim.bind ?_ (fun _ => ?_) | exact laws_toFieldS.l0L _ _ _
noncomputable def laws_toFieldS.g (l0 : List (S145)) : Option ((List (S146))) := lim (fun k => laws_toFieldS.f k l0)
theorem laws_toFieldS.L (l0 : List (S145)) : Lim (fun k => laws_toFieldS.f k l0) (laws_toFieldS.g l0) := Lim.of (fun k => laws_toFieldS.mono l0 k)
theorem laws_toFieldS.ge (l0 : List (S145)) : laws_toFieldS.g l0 = (if 0 ≤ (l0.length : Int) then (if ((l0.length : Int) : Int).toNat ≤ 8796093022208 then (laws_toFieldS.l0g l0 (List.replicate ((l0.length : Int) : Int).toNat z146) 0) else (none)) else (none)) := by
  refine Lim.uniq (laws_toFieldS.L l0) ?_
  show Lim (fun k => if 0 ≤ (l0.length : Int) then (if ((l0.length : Int) : Int).toNat ≤ 8796093022208 then (laws_toFieldS.l0 k l0 (List.replicate ((l0.length : Int) : Int).toNat z146) 0) else (none)) else (none)) _
  repeat' first | (with_reducible exact Lim.const _) | (with_reducible exact laws_toFieldS.l0L _ _ _) | (with_reducible refine Lim.ite ?_ ?_) | (with_reducible refine Lim.bind ?_ (fun _ => ?_)) | exact Lim.const _ | refine Lim.ite ?_ ?_ | refine Lim.bind ?_ (fun _ => ?_) | exact laws_toFieldS.l0L _ _ _
end Go.Proofs.Ytelmcjohkifeeaa.PA

namespace Go.Proofs.Ytelmcjohkifeeaa.PA
open Go.RowKit Go.Proofs.YtelmcjohkifeeaaW.PrintWords Go.Proofs.YtelmcjohkifeeaaW.PrintLast Go.Proofs.YtelmcjohkifeeaaW.PrintMore Go.Proofs.Ytelmcjohkifeeaa.Lim
set_option linter.unusedVariables false
set_option linter.unusedSimpArgs false
noncomputable def laws_eqFieldS.l0g (y0 : List (S146)) (y1 : List (S146)) (y2 : Int) : Option (Bool) := lim (fun k => laws_eqFieldS.l0 k y0 y1 y2)
theorem laws_eqFieldS.l0L (y0 : List (S146)) (y1 : List (S146)) (y2 : Int) : Lim (fun k => laws_eqFieldS.l0 k y0 y1 y2) (laws_eqFieldS.l0g y0 y1 y2) := Lim.of (fun k => (laws_eqFieldS.mono_l k) y0 y1 y2)
theorem laws_eqFieldS.l0e (x0 : List (S146)) (x1 : List (S146)) (x5 : Int) : laws_eqFieldS.l0g x0 x1 x5 = (if x5 < (x0.length : Int) then (if 0 ≤ x5 then (if x5 < (x1.length : Int) then ((laws_eqField.f ((rd_T146 x0 x5).f0) ((rd_T146 x0 x5).f1) ((rd_T146 x1 x5).f0) ((rd_T146 x1 x5).f1)).bind fun t316 => (if t316 = true then (laws_eqFieldS.l0g x0 x1 (wrap64 (x5 + 1))) else (some false))) else (none)) else (none)) else (some true)) := by
  refine Lim.round (laws_eqFieldS.l0L x0 x1 x5) ?_
  show Lim (fun k => if x5 < (x0.length : Int) then (if 0 ≤ x5 then (if x5 < (x1.length : Int) then ((laws_eqField.f ((rd_T146 x0 x5).f0) ((rd_T146 x0 x5).f1) ((rd_T146 x1 x5).f0) ((rd_T146 x1 x5).f1)).bind fun t316 => (if t316 = true then (laws_eqFieldS.l0 k x0 x1 (wrap64 (x5 + 1))) else (some false))) else (none)) else (none)) else (some true)) _
  repeat' first | (with_reducible exact Lim.const _) | (with_reducible exact laws_eqFieldS.l0L _ _ _) | (with_reducible refine Lim.ite ?_ ?_) | (with_reducible refine Lim.bind ?_ (fun _ => ?_)) | exact Lim.const _ | refine Lim.ite ?_ ?_ | refine Lim.bind ?_ (fun _ => ?_) | exact laws_eqFieldS.l0L _ _ _
noncomputable def laws_eqFieldS.g (l0 : List (S146)) (l1 : List (S146)) : Option (Bool) := lim (fun k => laws_eqFieldS.f k l0 l1)
theorem laws_eqFieldS.L (l0 : List (S146)) (l1 : List (S146)) : Lim (fun k => laws_eqFieldS.f k l0 l1) (laws_eqFieldS.g l0 l1) := Lim.of (fun k => laws_eqFieldS.mono l0 l1 k)
theorem laws_eqFieldS.ge (l0 : List (S146)) (l1 : List (S146)) : laws_eqFieldS.g l0 l1 = (if (l0.length : Int) = (l1.length : Int) then (laws_eqFieldS.l0g l0 l1 0) else (some false)) := by
  refine Lim.uniq (laws_eqFieldS.L l0 l1) ?_
  show Lim (fun k => if (l0.length : Int) = (l1.length : Int) then (laws_eqFieldS.l0 k l0 l1 0) else (some false)) _
  repeat' first | (with_reducible exact Lim.const _) | (with_reducible exact laws_eqFieldS.l0L _ _ _) | (with_reducible refine Lim.ite ?_ ?_) | (with_reducible refine Lim.bind ?_ (fun _ => ?_)) | exact Lim.const _ | refine Lim.ite ?_ ?_ | refine Lim.bind ?_ (fun _ => ?_) | exact laws_eqFieldS.l0L _ _ _
end Go.Proofs.Ytelmcjohkifeeaa.PA

namespace Go.Proofs.Ytelmcjohkifeeaa.PA
open Go.RowKit Go.Proofs.YtelmcjohkifeeaaW.PrintWords Go.Proofs.YtelmcjohkifeeaaW.PrintLast Go.Proofs.YtelmcjohkifeeaaW.PrintMore Go.Proofs.Ytelmcjohkifeeaa.Base Go.Proofs.Ytelmcjohkifeeaa.Lim
set_option linter.unusedVariables false
set_option linter.unusedSimpArgs false

def Bd145 (x : S145) : Prop := x.f0.size ≤ 140737488351232 ∧ x.f1.size ≤ 140737488351232
def wt_Field (x : S145) : Nat := x.f0.size + x.f1.size
def conv_Field (x : S145) : S146 := ⟨x.f0, x.f1⟩
theorem sz_Field (a0 : ByteArray) (a1 : ByteArray) (left : Int) (h0 : a0.size ≤ 140737488351232) (h1 : a1.size ≤ 140737488351232) (hl : 0 ≤ left) (hm : left ≤ 4611686018427387904) : laws_szField.f a0 a1 left = some (sub left (a0.size + a1.size)) := by
  unfold laws_szField.f
  rw [w64 (x := left - (a0.size : Int)) (by omega) (by omega)]
  by_cases c0 : left - (a0.size : Int) < 0
  · rw [if_pos c0]; exact sub_neg (by omega)
  rw [if_neg c0]
  rw [w64 (x := (left - (a0.size : Int)) - (a1.size : Int)) (by omega) (by omega)]
  by_cases c1 : (left - (a0.size : Int)) - (a1.size : Int) < 0
  · rw [if_pos c1]; exact sub_neg (by omega)
  rw [if_neg c1]
  all_goals (refine congrArg some ?_; first | (rw [sub_ge (by omega)]; done) | (rw [sub_ge (by omega)]; omega))
theorem to_Field (a0 : ByteArray) (a1 : ByteArray)  : laws_toField.f a0 a1 = some (a0, a1) := by
  rfl
theorem eq_Field (a0 : ByteArray) (a1 : ByteArray)  : laws_eqField.f a0 a1 a0 a1 = some true := by
  unfold laws_eqField.f
  simp
def wtS_Field : List S145 → Nat := fun l => l.length + (l.map wt_Field).sum
theorem szS_Field (l : List S145) (left : Int) (h : l.length * 32 ≤ 140737488351232 ∧ l.length ≤ maxLen ∧ ∀ y ∈ l, Bd145 y) (hl : 0 ≤ left) (hm : left ≤ 4611686018427387904) : laws_szFieldS.g l left = some (sub left (wtS_Field l)) := by
  obtain ⟨h1, h2, h3⟩ := h
  have hn : Sm l.length := by unfold Sm; omega
  rw [laws_szFieldS.ge, w64 (by omega) (by omega)]
  unfold wtS_Field
  by_cases c : left - (l.length : Int) < 0
  · rw [if_pos c]; exact sub_neg (by omega)
  rw [if_neg c]
  have key := loopP (l := l) (fun s i => laws_szFieldS.l0g l s i) (fun s r => some (sub s ((r.map wt_Field).sum))) (fun s => 0 ≤ s ∧ s ≤ 4611686018427387904) ?_ ?_ (left - (l.length : Int)) ⟨by omega, by omega⟩
  · rw [key, sub_add (by omega)]
  · rintro s ⟨hs0, hs1⟩
    rw [laws_szFieldS.l0e, if_neg not_lt_len]
    simp [sub, hs0]
  · rintro i x r hi hx ih s ⟨hs0, hs1⟩
    have hb := h3 x (List.mem_of_getElem? hx)
    rw [laws_szFieldS.l0e, if_pos (nat_lt_len hi), if_pos (nat_nonneg i), w64_succ hi hn]
    simp only [rd_T145, getD_x hx]
    rw [sz_Field x.f0 x.f1 s hb.1 hb.2 hs0 hs1, Option.bind_some]
    rw [List.map_cons, List.sum_cons]
    show (if sub s (wt_Field x) < 0 then some (-1) else laws_szFieldS.l0g l (sub s (wt_Field x)) _) = _
    by_cases c2 : s < ((wt_Field x : Nat) : Int)
    · rw [if_pos (sub_lt c2)]; exact sub_neg (by omega)
    rw [if_neg (sub_nlt hs0 c2), sub_ge c2, ih _ ⟨by omega, by omega⟩]; exact sub_step (by omega)
theorem toS_Field (l : List S145) (h : l.length * 32 ≤ 140737488351232 ∧ l.length ≤ maxLen ∧ ∀ y ∈ l, Bd145 y) : laws_toFieldS.g l = some (l.map conv_Field) := by
  obtain ⟨h1, h2, h3⟩ := h
  have key : ∀ i, i ≤ l.length → laws_toFieldS.l0g l ((l.take i).map conv_Field ++ List.replicate (l.length - i) z146) (i : Int) = some (l.map conv_Field) := by
    refine down ?_ ?_
    · rw [laws_toFieldS.l0e, if_neg not_lt_len]
      simp
    · intro i hi ih
      have hb := h3 l[i] (List.getElem_mem hi)
      rw [laws_toFieldS.l0e, if_pos (nat_lt_len hi), if_pos (nat_nonneg i)]
      simp only [rd_T145, Int.toNat_natCast, getD_at hi]
      rw [to_Field l[i].f0 l[i].f1 , Option.bind_some, if_pos (by simp; omega), w64_succ hi (by unfold Sm; omega)]
      have e := copied conv_Field z146 l i hi
      rw [← e] at ih
      exact ih
  rw [laws_toFieldS.ge, if_pos (by omega), if_pos (by rw [Int.toNat_natCast]; omega)]
  have := key 0 (by omega)
  simpa using this
theorem eqS_Field (l : List S146) (h : Sm l.length) : laws_eqFieldS.g l l = some true := by
  have hn := h
  rw [laws_eqFieldS.ge, if_pos rfl]
  refine loop1 (l := l) (fun i => laws_eqFieldS.l0g l l i) (fun _ => some true) ?_ ?_
  · rw [laws_eqFieldS.l0e, if_neg not_lt_len]
  · intro i x r hi hx ih
    rw [laws_eqFieldS.l0e, if_pos (nat_lt_len hi), if_pos (nat_nonneg i), if_pos (nat_lt_len hi), w64_succ hi hn, ih]
    simp only [rd_T146, getD_x hx]
    rw [eq_Field x.f0 x.f1 , Option.bind_some, if_pos rfl]
end Go.Proofs.Ytelmcjohkifeeaa.PA

namespace Go.Proofs.Ytelmcjohkifeeaa.PA
open Go.RowKit Go.Proofs.YtelmcjohkifeeaaW.PrintWords Go.Proofs.YtelmcjohkifeeaaW.PrintLast Go.Proofs.YtelmcjohkifeeaaW.PrintMore Go.Proofs.Ytelmcjohkifeeaa.Lim
set_option linter.unusedVariables false
set_option linter.unusedSimpArgs false
noncomputable def laws_markText.l0g (y0 : Int) (y1 : ByteArray) : Option (ByteArray) := lim (fun k => laws_markText.l0 k y0 y1)
theorem laws_markText.l0L (y0 : Int) (y1 : ByteArray) : Lim (fun k => laws_markText.l0 k y0 y1) (laws_markText.l0g y0 y1) := Lim.of (fun k => (laws_markText.mono_l k) y0 y1)
theorem laws_markText.l0e (x0 : Int) (x3 : ByteArray) : laws_markText.l0g x0 x3 = (if x0 > 0 then ((some (([(wrap64 (48 + (Int.tmod x0 10))) % 256] : List Int) : List Int)).bind fun y320 => (if (strOfNums y320).size + x3.size ≤ 9223372036854775807 then (laws_markText.l0g (wrap64 (Int.tdiv x0 10)) ((strOfNums y320) ++ x3)) else (none))) else (if 1 + x3.size ≤ 9223372036854775807 then (some ((⟨#[109]⟩ : ByteArray) ++ x3)) else (none))) := by
  refine Lim.round (laws_markText.l0L x0 x3) ?_
  show Lim (fun k => if x0 > 0 then ((some (([(wrap64 (48 + (Int.tmod x0 10))) % 256] : List Int) : List Int)).bind fun y320 => (if (strOfNums y320).size + x3.size ≤ 9223372036854775807 then (laws_markText.l0 k (wrap64 (Int.tdiv x0 10)) ((strOfNums y320) ++ x3)) else (none))) else (if 1 + x3.size ≤ 9223372036854775807 then (some ((⟨#[109]⟩ : ByteArray) ++ x3)) else (none))) _
  repeat' first | (with_reducible exact Lim.const _) | (with_reducible exact laws_markText.l0L _ _) | (with_reducible refine Lim.ite ?_ ?_) | (with_reducible refine Lim.bind ?_ (fun _ => ?_)) | exact Lim.const _ | refine Lim.ite ?_ ?_ | refine Lim.bind ?_ (fun _ => ?_) | exact laws_markText.l0L _ _
noncomputable def laws_markText.g (a0 : Int) : Option (ByteArray) := lim (fun k => laws_markText.f k a0)
theorem laws_markText.L (a0 : Int) : Lim (fun k => laws_markText.f k a0) (laws_markText.g a0) := Lim.of (fun k => laws_markText.mono a0 k)
theorem laws_markText.ge (a0 : Int) : laws_markText.g a0 = (if a0 ≤ 0 then (some (⟨#[109, 48]⟩ : ByteArray)) else (laws_markText.l0g a0 (⟨#[]⟩ : ByteArray))) := by
  refine Lim.uniq (laws_markText.L a0) ?_
  show Lim (fun k => if a0 ≤ 0 then (some (⟨#[109, 48]⟩ : ByteArray)) else (laws_markText.l0 k a0 (⟨#[]⟩ : ByteArray))) _
  repeat' first | (with_reducible exact Lim.const _) | (with_reducible exact laws_markText.l0L _ _) | (with_reducible refine Lim.ite ?_ ?_) | (with_reducible refine Lim.bind ?_ (fun _ => ?_)) | exact Lim.const _ | refine Lim.ite ?_ ?_ | refine Lim.bind ?_ (fun _ => ?_) | exact laws_markText.l0L _ _
end Go.Proofs.Ytelmcjohkifeeaa.PA

namespace Go.Proofs.Ytelmcjohkifeeaa.PA
open Go.RowKit Go.Proofs.YtelmcjohkifeeaaW.PrintWords Go.Proofs.YtelmcjohkifeeaaW.PrintLast Go.Proofs.YtelmcjohkifeeaaW.PrintMore Go.Proofs.Ytelmcjohkifeeaa.Lim
set_option linter.unusedVariables false
set_option linter.unusedSimpArgs false
noncomputable def laws_markFieldS.l0g (y0 : List (S146)) (y1 : Int) (y2 : Int) : Option (Int × (List (S146))) := lim (fun k => laws_markFieldS.l0 k y0 y1 y2)
theorem laws_markFieldS.l0L (y0 : List (S146)) (y1 : Int) (y2 : Int) : Lim (fun k => laws_markFieldS.l0 k y0 y1 y2) (laws_markFieldS.l0g y0 y1 y2) := Lim.of (fun k => (laws_markFieldS.mono_l k) y0 y1 y2)
theorem laws_markFieldS.l0e (x0 : List (S146)) (x1 : Int) (x5 : Int) : laws_markFieldS.l0g x0 x1 x5 = (if x5 < (x0.length : Int) then ((laws_markText.g x1).bind fun t323 => (if 0 ≤ x5 then ((some (x0.set (x5 : Int).toNat (⟨t323, (rd_T146 x0 x5).f1⟩ : S146) : List (S146))).bind fun y324 => ((laws_markText.g (wrap64 (x1 + 1))).bind fun t325 => (laws_markFieldS.l0g (y324.set (x5 : Int).toNat (⟨(rd_T146 y324 x5).f0, t325⟩ : S146)) (wrap64 ((wrap64 (x1 + 1)) + 1)) (wrap64 (x5 + 1))))) else (none))) else (some (x1, x0))) := by
  refine Lim.round (laws_markFieldS.l0L x0 x1 x5) ?_
  show Lim (fun k => if x5 < (x0.length : Int) then ((laws_markText.f k x1).bind fun t323 => (if 0 ≤ x5 then ((some (x0.set (x5 : Int).toNat (⟨t323, (rd_T146 x0 x5).f1⟩ : S146) : List (S146))).bind fun y324 => ((laws_markText.f k (wrap64 (x1 + 1))).bind fun t325 => (laws_markFieldS.l0 k (y324.set (x5 : Int).toNat (⟨(rd_T146 y324 x5).f0, t325⟩ : S146)) (wrap64 ((wrap64 (x1 + 1)) + 1)) (wrap64 (x5 + 1))))) else (none))) else (some (x1, x0))) _
  repeat' first | (with_reducible exact Lim.const _) | (with_reducible exact laws_markFieldS.l0L _ _ _) | (with_reducible exact laws_markText.L _) | (with_reducible refine Lim.ite ?_ ?_) | (with_reducible refine Lim.bind ?_ (fun _ => ?_)) | exact Lim.const _ | refine Lim.ite ?_ ?_ | refine Lim.bind ?_ (fun _ => ?_) | exact laws_markFieldS.l0L _ _ _ | exact laws_markText.L _
noncomputable def laws_markFieldS.g (l0 : List (S146)) (a1 : Int) : Option (Int × (List (S146))) := lim (fun k => laws_markFieldS.f k l0 a1)
theorem laws_markFieldS.L (l0 : List (S146)) (a1 : Int) : Lim (fun k => laws_markFieldS.f k l0 a1) (laws_markFieldS.g l0 a1) := Lim.of (fun k => laws_markFieldS.mono l0 a1 k)
theorem laws_markFieldS.ge (l0 : List (S146)) (a1 : Int) : laws_markFieldS.g l0 a1 = (laws_markFieldS.l0g l0 a1 0) := by
  refine Lim.uniq (laws_markFieldS.L l0 a1) ?_
  show Lim (fun k => laws_markFieldS.l0 k l0 a1 0) _
  repeat' first | (with_reducible exact Lim.const _) | (with_reducible exact laws_markFieldS.l0L _ _ _) | (with_reducible exact laws_markText.L _) | (with_reducible refine Lim.ite ?_ ?_) | (with_reducible refine Lim.bind ?_ (fun _ => ?_)) | exact Lim.const _ | refine Lim.ite ?_ ?_ | refine Lim.bind ?_ (fun _ => ?_) | exact laws_markFieldS.l0L _ _ _ | exact laws_markText.L _
end Go.Proofs.Ytelmcjohkifeeaa.PA

namespace Go.Proofs.Ytelmcjohkifeeaa.PA
open Go.RowKit Go.Proofs.YtelmcjohkifeeaaW.PrintWords Go.Proofs.YtelmcjohkifeeaaW.PrintLast Go.Proofs.YtelmcjohkifeeaaW.PrintMore Go.Proofs.Ytelmcjohkifeeaa.Lim
set_option linter.unusedVariables false
set_option linter.unusedSimpArgs false
noncomputable def laws_markResponse.g (a0_0 : Int) (l0_1 : List (S146)) (a0_2 : ByteArray) (a1 : Int) : Option (Int × (List (S146))) := lim (fun k => laws_markResponse.f k a0_0 l0_1 a0_2 a1)
theorem laws_markResponse.L (a0_0 : Int) (l0_1 : List (S146)) (a0_2 : ByteArray) (a1 : Int) : Lim (fun k => laws_markResponse.f k a0_0 l0_1 a0_2 a1) (laws_markResponse.g a0_0 l0_1 a0_2 a1) := Lim.of (fun k => laws_markResponse.mono a0_0 l0_1 a0_2 a1 k)
theorem laws_markResponse.ge (a0_0 : Int) (l0_1 : List (S146)) (a0_2 : ByteArray) (a1 : Int) : laws_markResponse.g a0_0 l0_1 a0_2 a1 = ((laws_markFieldS.g l0_1 a1).bind fun bt328 => (some (bt328.1, bt328.2))) := by
  refine Lim.uniq (laws_markResponse.L a0_0 l0_1 a0_2 a1) ?_
  show Lim (fun k => (laws_markFieldS.f k l0_1 a1).bind fun bt328 => (some (bt328.1, bt328.2))) _
  repeat' first | (with_reducible exact Lim.const _) | (with_reducible exact laws_markFieldS.L _ _) | (with_reducible refine Lim.ite ?_ ?_) | (with_reducible refine Lim.bind ?_ (fun _ => ?_)) | exact Lim.const _ | refine Lim.ite ?_ ?_ | refine Lim.bind ?_ (fun _ => ?_) | exact laws_markFieldS.L _ _
end Go.Proofs.Ytelmcjohkifeeaa.PA

namespace Go.Proofs.Ytelmcjohkifeeaa.PA
open Go.RowKit Go.Proofs.YtelmcjohkifeeaaW.PrintWords Go.Proofs.YtelmcjohkifeeaaW.PrintLast Go.Proofs.YtelmcjohkifeeaaW.PrintMore Go.Proofs.Ytelmcjohkifeeaa.Lim
set_option linter.unusedVariables false
set_option linter.unusedSimpArgs false
noncomputable def laws_heldFieldS.l0g (y0 : List (S146)) (y1 : Int) (y2 : Int) : Option (Int) := lim (fun k => laws_heldFieldS.l0 k y0 y1 y2)
theorem laws_heldFieldS.l0L (y0 : List (S146)) (y1 : Int) (y2 : Int) : Lim (fun k => laws_heldFieldS.l0 k y0 y1 y2) (laws_heldFieldS.l0g y0 y1 y2) := Lim.of (fun k => (laws_heldFieldS.mono_l k) y0 y1 y2)
theorem laws_heldFieldS.l0e (x0 : List (S146)) (x1 : Int) (x5 : Int) : laws_heldFieldS.l0g x0 x1 x5 = (if x5 < (x0.length : Int) then (if 0 ≤ x5 then ((laws_markText.g x1).bind fun t331 => (if ((rd_T146 x0 x5).f0).toList = t331.toList then ((laws_markText.g (wrap64 (x1 + 1))).bind fun t333 => (if ((rd_T146 x0 x5).f1).toList = t333.toList then (laws_heldFieldS.l0g x0 (wrap64 ((wrap64 (x1 + 1)) + 1)) (wrap64 (x5 + 1))) else (some (-1)))) else (some (-1)))) else (none)) else (some x1)) := by
  refine Lim.round (laws_heldFieldS.l0L x0 x1 x5) ?_
  show Lim (fun k => if x5 < (x0.length : Int) then (if 0 ≤ x5 then ((laws_markText.f k x1).bind fun t331 => (if ((rd_T146 x0 x5).f0).toList = t331.toList then ((laws_markText.f k (wrap64 (x1 + 1))).bind fun t333 => (if ((rd_T146 x0 x5).f1).toList = t333.toList then (laws_heldFieldS.l0 k x0 (wrap64 ((wrap64 (x1 + 1)) + 1)) (wrap64 (x5 + 1))) else (some (-1)))) else (some (-1)))) else (none)) else (some x1)) _
  repeat' first | (with_reducible exact Lim.const _) | (with_reducible exact laws_heldFieldS.l0L _ _ _) | (with_reducible exact laws_markText.L _) | (with_reducible refine Lim.ite ?_ ?_) | (with_reducible refine Lim.bind ?_ (fun _ => ?_)) | exact Lim.const _ | refine Lim.ite ?_ ?_ | refine Lim.bind ?_ (fun _ => ?_) | exact laws_heldFieldS.l0L _ _ _ | exact laws_markText.L _
noncomputable def laws_heldFieldS.g (l0 : List (S146)) (a1 : Int) : Option (Int) := lim (fun k => laws_heldFieldS.f k l0 a1)
theorem laws_heldFieldS.L (l0 : List (S146)) (a1 : Int) : Lim (fun k => laws_heldFieldS.f k l0 a1) (laws_heldFieldS.g l0 a1) := Lim.of (fun k => laws_heldFieldS.mono l0 a1 k)
theorem laws_heldFieldS.ge (l0 : List (S146)) (a1 : Int) : laws_heldFieldS.g l0 a1 = (laws_heldFieldS.l0g l0 a1 0) := by
  refine Lim.uniq (laws_heldFieldS.L l0 a1) ?_
  show Lim (fun k => laws_heldFieldS.l0 k l0 a1 0) _
  repeat' first | (with_reducible exact Lim.const _) | (with_reducible exact laws_heldFieldS.l0L _ _ _) | (with_reducible exact laws_markText.L _) | (with_reducible refine Lim.ite ?_ ?_) | (with_reducible refine Lim.bind ?_ (fun _ => ?_)) | exact Lim.const _ | refine Lim.ite ?_ ?_ | refine Lim.bind ?_ (fun _ => ?_) | exact laws_heldFieldS.l0L _ _ _ | exact laws_markText.L _
end Go.Proofs.Ytelmcjohkifeeaa.PA

namespace Go.Proofs.Ytelmcjohkifeeaa.PA
open Go.RowKit Go.Proofs.YtelmcjohkifeeaaW.PrintWords Go.Proofs.YtelmcjohkifeeaaW.PrintLast Go.Proofs.YtelmcjohkifeeaaW.PrintMore Go.Proofs.Ytelmcjohkifeeaa.Lim
set_option linter.unusedVariables false
set_option linter.unusedSimpArgs false
noncomputable def laws_heldResponse.g (a0_0 : Int) (l0_1 : List (S146)) (a0_2 : ByteArray) (a1 : Int) : Option (Int) := lim (fun k => laws_heldResponse.f k a0_0 l0_1 a0_2 a1)
theorem laws_heldResponse.L (a0_0 : Int) (l0_1 : List (S146)) (a0_2 : ByteArray) (a1 : Int) : Lim (fun k => laws_heldResponse.f k a0_0 l0_1 a0_2 a1) (laws_heldResponse.g a0_0 l0_1 a0_2 a1) := Lim.of (fun k => laws_heldResponse.mono a0_0 l0_1 a0_2 a1 k)
theorem laws_heldResponse.ge (a0_0 : Int) (l0_1 : List (S146)) (a0_2 : ByteArray) (a1 : Int) : laws_heldResponse.g a0_0 l0_1 a0_2 a1 = ((laws_heldFieldS.g l0_1 a1).bind fun t335 => (if t335 < 0 then (some (-1)) else (some t335))) := by
  refine Lim.uniq (laws_heldResponse.L a0_0 l0_1 a0_2 a1) ?_
  show Lim (fun k => (laws_heldFieldS.f k l0_1 a1).bind fun t335 => (if t335 < 0 then (some (-1)) else (some t335))) _
  repeat' first | (with_reducible exact Lim.const _) | (with_reducible exact laws_heldFieldS.L _ _) | (with_reducible refine Lim.ite ?_ ?_) | (with_reducible refine Lim.bind ?_ (fun _ => ?_)) | exact Lim.const _ | refine Lim.ite ?_ ?_ | refine Lim.bind ?_ (fun _ => ?_) | exact laws_heldFieldS.L _ _
end Go.Proofs.Ytelmcjohkifeeaa.PA

namespace Go.Proofs.Ytelmcjohkifeeaa.PA
open Go.RowKit Go.Proofs.YtelmcjohkifeeaaW.PrintWords Go.Proofs.YtelmcjohkifeeaaW.PrintLast Go.Proofs.YtelmcjohkifeeaaW.PrintMore Go.Proofs.Ytelmcjohkifeeaa.Lim
set_option linter.unusedVariables false
set_option linter.unusedSimpArgs false
noncomputable def laws_toResponse.g (a0_0 : Int) (l0_1 : List (S145)) (a0_2 : ByteArray) : Option (Int × (List (S146)) × ByteArray) := lim (fun k => laws_toResponse.f k a0_0 l0_1 a0_2)
theorem laws_toResponse.L (a0_0 : Int) (l0_1 : List (S145)) (a0_2 : ByteArray) : Lim (fun k => laws_toResponse.f k a0_0 l0_1 a0_2) (laws_toResponse.g a0_0 l0_1 a0_2) := Lim.of (fun k => laws_toResponse.mono a0_0 l0_1 a0_2 k)
theorem laws_toResponse.ge (a0_0 : Int) (l0_1 : List (S145)) (a0_2 : ByteArray) : laws_toResponse.g a0_0 l0_1 a0_2 = ((laws_toFieldS.g l0_1).bind fun t293 => (some (a0_0, t293, a0_2))) := by
  refine Lim.uniq (laws_toResponse.L a0_0 l0_1 a0_2) ?_
  show Lim (fun k => (laws_toFieldS.f k l0_1).bind fun t293 => (some (a0_0, t293, a0_2))) _
  repeat' first | (with_reducible exact Lim.const _) | (with_reducible exact laws_toFieldS.L _) | (with_reducible refine Lim.ite ?_ ?_) | (with_reducible refine Lim.bind ?_ (fun _ => ?_)) | exact Lim.const _ | refine Lim.ite ?_ ?_ | refine Lim.bind ?_ (fun _ => ?_) | exact laws_toFieldS.L _
end Go.Proofs.Ytelmcjohkifeeaa.PA

namespace Go.Proofs.Ytelmcjohkifeeaa.PA
open Go.RowKit Go.Proofs.YtelmcjohkifeeaaW.PrintWords Go.Proofs.YtelmcjohkifeeaaW.PrintLast Go.Proofs.YtelmcjohkifeeaaW.PrintMore Go.Proofs.Ytelmcjohkifeeaa.Lim
set_option linter.unusedVariables false
set_option linter.unusedSimpArgs false
noncomputable def impl_DropField.l0g (y0 : ByteArray) (y1 : List (S146)) (y2 : List (S146)) (y3 : Int) (y4 : Int) : Option ((List (S146))) := lim (fun k => impl_DropField.l0 k y0 y1 y2 y3 y4)
theorem impl_DropField.l0L (y0 : ByteArray) (y1 : List (S146)) (y2 : List (S146)) (y3 : Int) (y4 : Int) : Lim (fun k => impl_DropField.l0 k y0 y1 y2 y3 y4) (impl_DropField.l0g y0 y1 y2 y3 y4) := Lim.of (fun k => (impl_DropField.mono_l k) y0 y1 y2 y3 y4)
theorem impl_DropField.l0e (x1 : ByteArray) (x5 : List (S146)) (x9 : List (S146)) (x10 : Int) (x11 : Int) : impl_DropField.l0g x1 x5 x9 x10 x11 = (if x11 < x10 then (if 0 ≤ x11 then (if x11 < (x9.length : Int) then (if ((rd_T146 x9 x11).f0).toList = x1.toList then (impl_DropField.l0g x1 x5 x9 x10 (wrap64 (x11 + 1))) else (if x5.length < 4398046511104 then (impl_DropField.l0g x1 (x5 ++ [(⟨(rd_T146 x9 x11).f0, (rd_T146 x9 x11).f1⟩ : S146)]) x9 x10 (wrap64 (x11 + 1))) else (none))) else (none)) else (none)) else (some x5)) := by
  refine Lim.round (impl_DropField.l0L x1 x5 x9 x10 x11) ?_
  show Lim (fun k => if x11 < x10 then (if 0 ≤ x11 then (if x11 < (x9.length : Int) then (if ((rd_T146 x9 x11).f0).toList = x1.toList then (impl_DropField.l0 k x1 x5 x9 x10 (wrap64 (x11 + 1))) else (if x5.length < 4398046511104 then (impl_DropField.l0 k x1 (x5 ++ [(⟨(rd_T146 x9 x11).f0, (rd_T146 x9 x11).f1⟩ : S146)]) x9 x10 (wrap64 (x11 + 1))) else (none))) else (none)) else (none)) else (some x5)) _
  repeat' first | (with_reducible exact Lim.const _) | (with_reducible exact impl_DropField.l0L _ _ _ _ _) | (with_reducible refine Lim.ite ?_ ?_) | (with_reducible refine Lim.bind ?_ (fun _ => ?_)) | exact Lim.const _ | refine Lim.ite ?_ ?_ | refine Lim.bind ?_ (fun _ => ?_) | exact impl_DropField.l0L _ _ _ _ _
noncomputable def impl_DropField.g (l0 : List (S146)) (a1 : ByteArray) : Option ((List (S146))) := lim (fun k => impl_DropField.f k l0 a1)
theorem impl_DropField.L (l0 : List (S146)) (a1 : ByteArray) : Lim (fun k => impl_DropField.f k l0 a1) (impl_DropField.g l0 a1) := Lim.of (fun k => impl_DropField.mono l0 a1 k)
theorem impl_DropField.ge (l0 : List (S146)) (a1 : ByteArray) : impl_DropField.g l0 a1 = (impl_DropField.l0g a1 (([] : List (S146))) l0 (l0.length : Int) 0) := by
  refine Lim.uniq (impl_DropField.L l0 a1) ?_
  show Lim (fun k => impl_DropField.l0 k a1 (([] : List (S146))) l0 (l0.length : Int) 0) _
  repeat' first | (with_reducible exact Lim.const _) | (with_reducible exact impl_DropField.l0L _ _ _ _ _) | (with_reducible refine Lim.ite ?_ ?_) | (with_reducible refine Lim.bind ?_ (fun _ => ?_)) | exact Lim.const _ | refine Lim.ite ?_ ?_ | refine Lim.bind ?_ (fun _ => ?_) | exact impl_DropField.l0L _ _ _ _ _
end Go.Proofs.Ytelmcjohkifeeaa.PA

namespace Go.Proofs.Ytelmcjohkifeeaa.PA
open Go.RowKit Go.Proofs.YtelmcjohkifeeaaW.PrintWords Go.Proofs.YtelmcjohkifeeaaW.PrintLast Go.Proofs.YtelmcjohkifeeaaW.PrintMore Go.Proofs.Ytelmcjohkifeeaa.Lim
set_option linter.unusedVariables false
set_option linter.unusedSimpArgs false
noncomputable def impl_StripAnswer.g (a0_0 : Int) (l0_1 : List (S146)) (a0_2 : ByteArray) : Option (Int × (List (S146)) × ByteArray) := lim (fun k => impl_StripAnswer.f k a0_0 l0_1 a0_2)
theorem impl_StripAnswer.L (a0_0 : Int) (l0_1 : List (S146)) (a0_2 : ByteArray) : Lim (fun k => impl_StripAnswer.f k a0_0 l0_1 a0_2) (impl_StripAnswer.g a0_0 l0_1 a0_2) := Lim.of (fun k => impl_StripAnswer.mono a0_0 l0_1 a0_2 k)
theorem impl_StripAnswer.ge (a0_0 : Int) (l0_1 : List (S146)) (a0_2 : ByteArray) : impl_StripAnswer.g a0_0 l0_1 a0_2 = ((impl_DropField.g l0_1 (⟨#[97, 103, 101]⟩ : ByteArray)).bind fun t306 => ((impl_DropField.g t306 (⟨#[120, 45, 112, 117, 114, 103, 101]⟩ : ByteArray)).bind fun t309 => (some (a0_0, t309, a0_2)))) := by
  refine Lim.uniq (impl_StripAnswer.L a0_0 l0_1 a0_2) ?_
  show Lim (fun k => (impl_DropField.f k l0_1 (⟨#[97, 103, 101]⟩ : ByteArray)).bind fun t306 => ((impl_DropField.f k t306 (⟨#[120, 45, 112, 117, 114, 103, 101]⟩ : ByteArray)).bind fun t309 => (some (a0_0, t309, a0_2)))) _
  repeat' first | (with_reducible exact Lim.const _) | (with_reducible exact impl_DropField.L _ _) | (with_reducible refine Lim.ite ?_ ?_) | (with_reducible refine Lim.bind ?_ (fun _ => ?_)) | exact Lim.const _ | refine Lim.ite ?_ ?_ | refine Lim.bind ?_ (fun _ => ?_) | exact impl_DropField.L _ _
end Go.Proofs.Ytelmcjohkifeeaa.PA

namespace Go.Proofs.Ytelmcjohkifeeaa.PA
open Go.RowKit Go.Proofs.YtelmcjohkifeeaaW.PrintWords Go.Proofs.YtelmcjohkifeeaaW.PrintLast Go.Proofs.YtelmcjohkifeeaaW.PrintMore Go.Proofs.Ytelmcjohkifeeaa.Lim
set_option linter.unusedVariables false
set_option linter.unusedSimpArgs false
noncomputable def laws_eqResponse.g (a0_0 : Int) (l0_1 : List (S146)) (a0_2 : ByteArray) (a1_0 : Int) (l1_1 : List (S146)) (a1_2 : ByteArray) : Option (Bool) := lim (fun k => laws_eqResponse.f k a0_0 l0_1 a0_2 a1_0 l1_1 a1_2)
theorem laws_eqResponse.L (a0_0 : Int) (l0_1 : List (S146)) (a0_2 : ByteArray) (a1_0 : Int) (l1_1 : List (S146)) (a1_2 : ByteArray) : Lim (fun k => laws_eqResponse.f k a0_0 l0_1 a0_2 a1_0 l1_1 a1_2) (laws_eqResponse.g a0_0 l0_1 a0_2 a1_0 l1_1 a1_2) := Lim.of (fun k => laws_eqResponse.mono a0_0 l0_1 a0_2 a1_0 l1_1 a1_2 k)
theorem laws_eqResponse.ge (a0_0 : Int) (l0_1 : List (S146)) (a0_2 : ByteArray) (a1_0 : Int) (l1_1 : List (S146)) (a1_2 : ByteArray) : laws_eqResponse.g a0_0 l0_1 a0_2 a1_0 l1_1 a1_2 = (if a0_0 = a1_0 then ((laws_eqFieldS.g l0_1 l1_1).bind fun t319 => (if t319 = true then (if a0_2.toList = a1_2.toList then (some true) else (some false)) else (some false))) else (some false)) := by
  refine Lim.uniq (laws_eqResponse.L a0_0 l0_1 a0_2 a1_0 l1_1 a1_2) ?_
  show Lim (fun k => if a0_0 = a1_0 then ((laws_eqFieldS.f k l0_1 l1_1).bind fun t319 => (if t319 = true then (if a0_2.toList = a1_2.toList then (some true) else (some false)) else (some false))) else (some false)) _
  repeat' first | (with_reducible exact Lim.const _) | (with_reducible exact laws_eqFieldS.L _ _) | (with_reducible refine Lim.ite ?_ ?_) | (with_reducible refine Lim.bind ?_ (fun _ => ?_)) | exact Lim.const _ | refine Lim.ite ?_ ?_ | refine Lim.bind ?_ (fun _ => ?_) | exact laws_eqFieldS.L _ _
end Go.Proofs.Ytelmcjohkifeeaa.PA

namespace Go.Proofs.Ytelmcjohkifeeaa.PA
open Go.RowKit Go.Proofs.YtelmcjohkifeeaaW.PrintWords Go.Proofs.YtelmcjohkifeeaaW.PrintLast Go.Proofs.YtelmcjohkifeeaaW.PrintMore Go.Proofs.Ytelmcjohkifeeaa.Lim
set_option linter.unusedVariables false
set_option linter.unusedSimpArgs false
noncomputable def laws_szResponse.g (a0_0 : Int) (l0_1 : List (S145)) (a0_2 : ByteArray) (a1 : Int) : Option (Int) := lim (fun k => laws_szResponse.f k a0_0 l0_1 a0_2 a1)
theorem laws_szResponse.L (a0_0 : Int) (l0_1 : List (S145)) (a0_2 : ByteArray) (a1 : Int) : Lim (fun k => laws_szResponse.f k a0_0 l0_1 a0_2 a1) (laws_szResponse.g a0_0 l0_1 a0_2 a1) := Lim.of (fun k => laws_szResponse.mono a0_0 l0_1 a0_2 a1 k)
theorem laws_szResponse.ge (a0_0 : Int) (l0_1 : List (S145)) (a0_2 : ByteArray) (a1 : Int) : laws_szResponse.g a0_0 l0_1 a0_2 a1 = ((laws_szFieldS.g l0_1 a1).bind fun t263 => (if t263 < 0 then (some (-1)) else (if (wrap64 (t263 - (a0_2.size : Int))) < 0 then (some (-1)) else (some (wrap64 (t263 - (a0_2.size : Int))))))) := by
  refine Lim.uniq (laws_szResponse.L a0_0 l0_1 a0_2 a1) ?_
  show Lim (fun k => (laws_szFieldS.f k l0_1 a1).bind fun t263 => (if t263 < 0 then (some (-1)) else (if (wrap64 (t263 - (a0_2.size : Int))) < 0 then (some (-1)) else (some (wrap64 (t263 - (a0_2.size : Int))))))) _
  repeat' first | (with_reducible exact Lim.const _) | (with_reducible exact laws_szFieldS.L _ _) | (with_reducible refine Lim.ite ?_ ?_) | (with_reducible refine Lim.bind ?_ (fun _ => ?_)) | exact Lim.const _ | refine Lim.ite ?_ ?_ | refine Lim.bind ?_ (fun _ => ?_) | exact laws_szFieldS.L _ _
end Go.Proofs.Ytelmcjohkifeeaa.PA

namespace Go.Proofs.Ytelmcjohkifeeaa.PA
open Go.RowKit Go.Proofs.YtelmcjohkifeeaaW.PrintWords Go.Proofs.YtelmcjohkifeeaaW.PrintLast Go.Proofs.YtelmcjohkifeeaaW.PrintMore Go.Proofs.Ytelmcjohkifeeaa.Lim
set_option linter.unusedVariables false
set_option linter.unusedSimpArgs false
noncomputable def spec_DropField.l0g (y0 : List (S146)) (y1 : ByteArray) (y2 : List (S146)) (y3 : Int) : Option ((List (S146))) := lim (fun k => spec_DropField.l0 k y0 y1 y2 y3)
theorem spec_DropField.l0L (y0 : List (S146)) (y1 : ByteArray) (y2 : List (S146)) (y3 : Int) : Lim (fun k => spec_DropField.l0 k y0 y1 y2 y3) (spec_DropField.l0g y0 y1 y2 y3) := Lim.of (fun k => (spec_DropField.mono_l k) y0 y1 y2 y3)
theorem spec_DropField.l0e (x0 : List (S146)) (x1 : ByteArray) (x5 : List (S146)) (x6 : Int) : spec_DropField.l0g x0 x1 x5 x6 = (if x6 < (x0.length : Int) then (if 0 ≤ x6 then (if ((rd_T146 x0 x6).f0).toList = x1.toList then (spec_DropField.l0g x0 x1 x5 (wrap64 (x6 + 1))) else (if x5.length < 4398046511104 then (spec_DropField.l0g x0 x1 (x5 ++ [(⟨(rd_T146 x0 x6).f0, (rd_T146 x0 x6).f1⟩ : S146)]) (wrap64 (x6 + 1))) else (none))) else (none)) else (some x5)) := by
  refine Lim.round (spec_DropField.l0L x0 x1 x5 x6) ?_
  show Lim (fun k => if x6 < (x0.length : Int) then (if 0 ≤ x6 then (if ((rd_T146 x0 x6).f0).toList = x1.toList then (spec_DropField.l0 k x0 x1 x5 (wrap64 (x6 + 1))) else (if x5.length < 4398046511104 then (spec_DropField.l0 k x0 x1 (x5 ++ [(⟨(rd_T146 x0 x6).f0, (rd_T146 x0 x6).f1⟩ : S146)]) (wrap64 (x6 + 1))) else (none))) else (none)) else (some x5)) _
  repeat' first | (with_reducible exact Lim.const _) | (with_reducible exact spec_DropField.l0L _ _ _ _) | (with_reducible refine Lim.ite ?_ ?_) | (with_reducible refine Lim.bind ?_ (fun _ => ?_)) | exact Lim.const _ | refine Lim.ite ?_ ?_ | refine Lim.bind ?_ (fun _ => ?_) | exact spec_DropField.l0L _ _ _ _
noncomputable def spec_DropField.g (l0 : List (S146)) (a1 : ByteArray) : Option ((List (S146))) := lim (fun k => spec_DropField.f k l0 a1)
theorem spec_DropField.L (l0 : List (S146)) (a1 : ByteArray) : Lim (fun k => spec_DropField.f k l0 a1) (spec_DropField.g l0 a1) := Lim.of (fun k => spec_DropField.mono l0 a1 k)
theorem spec_DropField.ge (l0 : List (S146)) (a1 : ByteArray) : spec_DropField.g l0 a1 = (spec_DropField.l0g l0 a1 (([] : List (S146))) 0) := by
  refine Lim.uniq (spec_DropField.L l0 a1) ?_
  show Lim (fun k => spec_DropField.l0 k l0 a1 (([] : List (S146))) 0) _
  repeat' first | (with_reducible exact Lim.const _) | (with_reducible exact spec_DropField.l0L _ _ _ _) | (with_reducible refine Lim.ite ?_ ?_) | (with_reducible refine Lim.bind ?_ (fun _ => ?_)) | exact Lim.const _ | refine Lim.ite ?_ ?_ | refine Lim.bind ?_ (fun _ => ?_) | exact spec_DropField.l0L _ _ _ _
end Go.Proofs.Ytelmcjohkifeeaa.PA

namespace Go.Proofs.Ytelmcjohkifeeaa.PA
open Go.RowKit Go.Proofs.YtelmcjohkifeeaaW.PrintWords Go.Proofs.YtelmcjohkifeeaaW.PrintLast Go.Proofs.YtelmcjohkifeeaaW.PrintMore Go.Proofs.Ytelmcjohkifeeaa.Lim
set_option linter.unusedVariables false
set_option linter.unusedSimpArgs false
noncomputable def spec_StripAnswer.g (a0_0 : Int) (l0_1 : List (S146)) (a0_2 : ByteArray) : Option (Int × (List (S146)) × ByteArray) := lim (fun k => spec_StripAnswer.f k a0_0 l0_1 a0_2)
theorem spec_StripAnswer.L (a0_0 : Int) (l0_1 : List (S146)) (a0_2 : ByteArray) : Lim (fun k => spec_StripAnswer.f k a0_0 l0_1 a0_2) (spec_StripAnswer.g a0_0 l0_1 a0_2) := Lim.of (fun k => spec_StripAnswer.mono a0_0 l0_1 a0_2 k)
theorem spec_StripAnswer.ge (a0_0 : Int) (l0_1 : List (S146)) (a0_2 : ByteArray) : spec_StripAnswer.g a0_0 l0_1 a0_2 = ((spec_DropField.g l0_1 (⟨#[97, 103, 101]⟩ : ByteArray)).bind fun t274 => ((spec_DropField.g t274 (⟨#[120, 45, 112, 117, 114, 103, 101]⟩ : ByteArray)).bind fun t277 => (some (a0_0, t277, a0_2)))) := by
  refine Lim.uniq (spec_StripAnswer.L a0_0 l0_1 a0_2) ?_
  show Lim (fun k => (spec_DropField.f k l0_1 (⟨#[97, 103, 101]⟩ : ByteArray)).bind fun t274 => ((spec_DropField.f k t274 (⟨#[120, 45, 112, 117, 114, 103, 101]⟩ : ByteArray)).bind fun t277 => (some (a0_0, t277, a0_2)))) _
  repeat' first | (with_reducible exact Lim.const _) | (with_reducible exact spec_DropField.L _ _) | (with_reducible refine Lim.ite ?_ ?_) | (with_reducible refine Lim.bind ?_ (fun _ => ?_)) | exact Lim.const _ | refine Lim.ite ?_ ?_ | refine Lim.bind ?_ (fun _ => ?_) | exact spec_DropField.L _ _
end Go.Proofs.Ytelmcjohkifeeaa.PA

namespace Go.Proofs.Ytelmcjohkifeeaa.PA
open Go.RowKit Go.Proofs.YtelmcjohkifeeaaW.PrintWords Go.Proofs.YtelmcjohkifeeaaW.PrintLast Go.Proofs.YtelmcjohkifeeaaW.PrintMore Go.Proofs.Ytelmcjohkifeeaa.Lim
set_option linter.unusedVariables false
set_option linter.unusedSimpArgs false
noncomputable def laws_FnExactStripAnswer.j0g (y0 : Bool) (y1 : Int) (y2 : List (S145)) (y3 : ByteArray) (y4 : Int) (y5 : List (S146)) (y6 : ByteArray) (y7 : Int) (y8 : List (S146)) (y9 : ByteArray) : Option (Bool) := lim (fun k => laws_FnExactStripAnswer.j0 k y0 y1 y2 y3 y4 y5 y6 y7 y8 y9)
theorem laws_FnExactStripAnswer.j0L (y0 : Bool) (y1 : Int) (y2 : List (S145)) (y3 : ByteArray) (y4 : Int) (y5 : List (S146)) (y6 : ByteArray) (y7 : Int) (y8 : List (S146)) (y9 : ByteArray) : Lim (fun k => laws_FnExactStripAnswer.j0 k y0 y1 y2 y3 y4 y5 y6 y7 y8 y9) (laws_FnExactStripAnswer.j0g y0 y1 y2 y3 y4 y5 y6 y7 y8 y9) := Lim.of (fun k => (laws_FnExactStripAnswer.mono_l k) y0 y1 y2 y3 y4 y5 y6 y7 y8 y9)
theorem laws_FnExactStripAnswer.j0e (x42 : Bool) (x337000 : Int) (x337001 : List (S145)) (x337002 : ByteArray) (x349000 : Int) (x349001 : List (S146)) (x349002 : ByteArray) (x361000 : Int) (x361001 : List (S146)) (x361002 : ByteArray) : laws_FnExactStripAnswer.j0g x42 x337000 x337001 x337002 x349000 x349001 x349002 x361000 x361001 x361002 = (if x42 = true then (some false) else ((laws_markResponse.g x361000 x361001 x361002 1).bind fun bt371 => ((laws_heldResponse.g x361000 bt371.2 x361002 1).bind fun t373 => (if t373 < 0 then (some false) else (if t373 = bt371.1 then ((laws_toResponse.g x337000 x337001 x337002).bind fun bt374 => ((impl_StripAnswer.g bt374.1 bt374.2.1 bt374.2.2).bind fun bt379 => ((laws_eqResponse.g bt379.1 bt379.2.1 bt379.2.2 x349000 x349001 x349002).bind fun t385 => (if t385 = true then ((laws_heldResponse.g x361000 bt371.2 x361002 1).bind fun t386 => (if t386 < 0 then (some false) else (if t386 = bt371.1 then (some true) else (some false)))) else (some false))))) else (some false)))))) := by
  refine Lim.round (laws_FnExactStripAnswer.j0L x42 x337000 x337001 x337002 x349000 x349001 x349002 x361000 x361001 x361002) ?_
  show Lim (fun k => if x42 = true then (some false) else ((laws_markResponse.f k x361000 x361001 x361002 1).bind fun bt371 => ((laws_heldResponse.f k x361000 bt371.2 x361002 1).bind fun t373 => (if t373 < 0 then (some false) else (if t373 = bt371.1 then ((laws_toResponse.f k x337000 x337001 x337002).bind fun bt374 => ((impl_StripAnswer.f k bt374.1 bt374.2.1 bt374.2.2).bind fun bt379 => ((laws_eqResponse.f k bt379.1 bt379.2.1 bt379.2.2 x349000 x349001 x349002).bind fun t385 => (if t385 = true then ((laws_heldResponse.f k x361000 bt371.2 x361002 1).bind fun t386 => (if t386 < 0 then (some false) else (if t386 = bt371.1 then (some true) else (some false)))) else (some false))))) else (some false)))))) _
  repeat' first | (with_reducible exact Lim.const _) | (with_reducible exact laws_FnExactStripAnswer.j0L _ _ _ _ _ _ _ _ _ _) | (with_reducible exact laws_markResponse.L _ _ _ _) | (with_reducible exact laws_heldResponse.L _ _ _ _) | (with_reducible exact laws_toResponse.L _ _ _) | (with_reducible exact impl_StripAnswer.L _ _ _) | (with_reducible exact laws_eqResponse.L _ _ _ _ _ _) | (with_reducible exact laws_szResponse.L _ _ _ _) | (with_reducible exact spec_StripAnswer.L _ _ _) | (with_reducible refine Lim.ite ?_ ?_) | (with_reducible refine Lim.bind ?_ (fun _ => ?_)) | exact Lim.const _ | refine Lim.ite ?_ ?_ | refine Lim.bind ?_ (fun _ => ?_) | exact laws_FnExactStripAnswer.j0L _ _ _ _ _ _ _ _ _ _ | exact laws_markResponse.L _ _ _ _ | exact laws_heldResponse.L _ _ _ _ | exact laws_toResponse.L _ _ _ | exact impl_StripAnswer.L _ _ _ | exact laws_eqResponse.L _ _ _ _ _ _ | exact laws_szResponse.L _ _ _ _ | exact spec_StripAnswer.L _ _ _
noncomputable def laws_FnExactStripAnswer.g (a0_0 : Int) (l0_1 : List (S145)) (a0_2 : ByteArray) : Option (Bool) := lim (fun k => laws_FnExactStripAnswer.f k a0_0 l0_1 a0_2)
theorem laws_FnExactStripAnswer.L (a0_0 : Int) (l0_1 : List (S145)) (a0_2 : ByteArray) : Lim (fun k => laws_FnExactStripAnswer.f k a0_0 l0_1 a0_2) (laws_FnExactStripAnswer.g a0_0 l0_1 a0_2) := Lim.of (fun k => laws_FnExactStripAnswer.mono a0_0 l0_1 a0_2 k)
theorem laws_FnExactStripAnswer.ge (a0_0 : Int) (l0_1 : List (S145)) (a0_2 : ByteArray) : laws_FnExactStripAnswer.g a0_0 l0_1 a0_2 = ((laws_szResponse.g a0_0 l0_1 a0_2 1048576).bind fun t337 => (if t337 < 0 then (some true) else ((laws_toResponse.g a0_0 l0_1 a0_2).bind fun bt338 => ((spec_StripAnswer.g bt338.1 bt338.2.1 bt338.2.2).bind fun bt343 => ((laws_toResponse.g a0_0 l0_1 a0_2).bind fun bt349 => ((impl_StripAnswer.g bt349.1 bt349.2.1 bt349.2.2).bind fun bt355 => ((laws_eqResponse.g bt355.1 bt355.2.1 bt355.2.2 bt343.1 bt343.2.1 bt343.2.2).bind fun t361 => (if t361 = true then ((laws_toResponse.g a0_0 l0_1 a0_2).bind fun bt362 => ((laws_eqResponse.g bt349.1 bt349.2.1 bt349.2.2 bt362.1 bt362.2.1 bt362.2.2).bind fun t367 => (if t367 = true then ((laws_markResponse.g bt349.1 bt349.2.1 bt349.2.2 1).bind fun bt368 => (if bt368.1 < 0 then (laws_FnExactStripAnswer.j0g true a0_0 l0_1 a0_2 bt343.1 bt343.2.1 bt343.2.2 bt355.1 bt355.2.1 bt355.2.2) else ((laws_eqResponse.g bt355.1 bt355.2.1 bt355.2.2 bt343.1 bt343.2.1 bt343.2.2).bind fun t370 => (laws_FnExactStripAnswer.j0g (!t370) a0_0 l0_1 a0_2 bt343.1 bt343.2.1 bt343.2.2 bt355.1 bt355.2.1 bt355.2.2)))) else (some false)))) else (some false))))))))) := by
  refine Lim.uniq (laws_FnExactStripAnswer.L a0_0 l0_1 a0_2) ?_
  show Lim (fun k => (laws_szResponse.f k a0_0 l0_1 a0_2 1048576).bind fun t337 => (if t337 < 0 then (some true) else ((laws_toResponse.f k a0_0 l0_1 a0_2).bind fun bt338 => ((spec_StripAnswer.f k bt338.1 bt338.2.1 bt338.2.2).bind fun bt343 => ((laws_toResponse.f k a0_0 l0_1 a0_2).bind fun bt349 => ((impl_StripAnswer.f k bt349.1 bt349.2.1 bt349.2.2).bind fun bt355 => ((laws_eqResponse.f k bt355.1 bt355.2.1 bt355.2.2 bt343.1 bt343.2.1 bt343.2.2).bind fun t361 => (if t361 = true then ((laws_toResponse.f k a0_0 l0_1 a0_2).bind fun bt362 => ((laws_eqResponse.f k bt349.1 bt349.2.1 bt349.2.2 bt362.1 bt362.2.1 bt362.2.2).bind fun t367 => (if t367 = true then ((laws_markResponse.f k bt349.1 bt349.2.1 bt349.2.2 1).bind fun bt368 => (if bt368.1 < 0 then (laws_FnExactStripAnswer.j0 k true a0_0 l0_1 a0_2 bt343.1 bt343.2.1 bt343.2.2 bt355.1 bt355.2.1 bt355.2.2) else ((laws_eqResponse.f k bt355.1 bt355.2.1 bt355.2.2 bt343.1 bt343.2.1 bt343.2.2).bind fun t370 => (laws_FnExactStripAnswer.j0 k (!t370) a0_0 l0_1 a0_2 bt343.1 bt343.2.1 bt343.2.2 bt355.1 bt355.2.1 bt355.2.2)))) else (some false)))) else (some false))))))))) _
  repeat' first | (with_reducible exact Lim.const _) | (with_reducible exact laws_FnExactStripAnswer.j0L _ _ _ _ _ _ _ _ _ _) | (with_reducible exact laws_markResponse.L _ _ _ _) | (with_reducible exact laws_heldResponse.L _ _ _ _) | (with_reducible exact laws_toResponse.L _ _ _) | (with_reducible exact impl_StripAnswer.L _ _ _) | (with_reducible exact laws_eqResponse.L _ _ _ _ _ _) | (with_reducible exact laws_szResponse.L _ _ _ _) | (with_reducible exact spec_StripAnswer.L _ _ _) | (with_reducible refine Lim.ite ?_ ?_) | (with_reducible refine Lim.bind ?_ (fun _ => ?_)) | exact Lim.const _ | refine Lim.ite ?_ ?_ | refine Lim.bind ?_ (fun _ => ?_) | exact laws_FnExactStripAnswer.j0L _ _ _ _ _ _ _ _ _ _ | exact laws_markResponse.L _ _ _ _ | exact laws_heldResponse.L _ _ _ _ | exact laws_toResponse.L _ _ _ | exact impl_StripAnswer.L _ _ _ | exact laws_eqResponse.L _ _ _ _ _ _ | exact laws_szResponse.L _ _ _ _ | exact spec_StripAnswer.L _ _ _
end Go.Proofs.Ytelmcjohkifeeaa.PA

namespace Go.Proofs.Ytelmcjohkifeeaa.PA
open Go.RowKit Go.Proofs.YtelmcjohkifeeaaW.PrintWords Go.Proofs.YtelmcjohkifeeaaW.PrintLast Go.Proofs.YtelmcjohkifeeaaW.PrintMore Go.Proofs.Ytelmcjohkifeeaa.Base Go.Proofs.Ytelmcjohkifeeaa.Lim
set_option linter.unusedVariables false
set_option linter.unusedSimpArgs false

def Bd47 (x : S47) : Prop := (Lit.int .i64 x.f0).wf = true ∧ (x.f1.length * 32 ≤ 140737488351232 ∧ x.f1.length ≤ maxLen ∧ ∀ y ∈ x.f1, Bd145 y) ∧ x.f2.size ≤ 140737488351232
def wt_Response (x : S47) : Nat := wtS_Field x.f1 + x.f2.size
def conv_Response (x : S47) : S51 := ⟨x.f0, (x.f1.map conv_Field), x.f2⟩
theorem sz_Response (a0 : Int) (a1 : (List S145)) (a2 : ByteArray) (left : Int) (h1 : (a1.length * 32 ≤ 140737488351232 ∧ a1.length ≤ maxLen ∧ ∀ y ∈ a1, Bd145 y)) (h2 : a2.size ≤ 140737488351232) (hl : 0 ≤ left) (hm : left ≤ 4611686018427387904) : laws_szResponse.g a0 a1 a2 left = some (sub left (wtS_Field a1 + a2.size)) := by
  rw [laws_szResponse.ge]
  rw [szS_Field a1 left h1 (by omega) (by omega), Option.bind_some]
  by_cases c0 : left < ((wtS_Field a1 : Nat) : Int)
  · rw [if_pos (sub_lt c0)]; exact sub_neg (by omega)
  rw [if_neg (sub_nlt (by omega) c0), sub_ge c0]
  rw [w64 (x := (left - ((wtS_Field a1 : Nat) : Int)) - (a2.size : Int)) (by omega) (by omega)]
  by_cases c1 : (left - ((wtS_Field a1 : Nat) : Int)) - (a2.size : Int) < 0
  · rw [if_pos c1]; exact sub_neg (by omega)
  rw [if_neg c1]
  all_goals (refine congrArg some ?_; first | (rw [sub_ge (by omega)]; done) | (rw [sub_ge (by omega)]; omega))
theorem to_Response (a0 : Int) (a1 : (List S145)) (a2 : ByteArray) (h1 : (a1.length * 32 ≤ 140737488351232 ∧ a1.length ≤ maxLen ∧ ∀ y ∈ a1, Bd145 y)) : laws_toResponse.g a0 a1 a2 = some (a0, (a1.map conv_Field), a2) := by
  rw [laws_toResponse.ge]
  simp only [toS_Field a1 h1, Option.bind_some]
theorem eq_Response (a0 : Int) (a1 : (List S146)) (a2 : ByteArray) (h1 : Sm a1.length) : laws_eqResponse.g a0 a1 a2 a0 a1 a2 = some true := by
  rw [laws_eqResponse.ge]
  simp [eqS_Field a1 h1]
def Ok_Response (x : S51) : Prop := Sm x.f1.length
end Go.Proofs.Ytelmcjohkifeeaa.PA

namespace Go.Proofs.Ytelmcjohkifeeaa.PA
open Go.RowKit Go.Proofs.YtelmcjohkifeeaaW.PrintWords Go.Proofs.YtelmcjohkifeeaaW.PrintLast Go.Proofs.YtelmcjohkifeeaaW.PrintMore Go.Proofs.Ytelmcjohkifeeaa.Base Go.Proofs.Ytelmcjohkifeeaa.Lim
set_option linter.unusedVariables false
set_option linter.unusedSimpArgs false
theorem digits_tell : ∀ (n : Nat) (x : Int) (s : ByteArray), x < 10 ^ n → s.size + n + 1 ≤ 9223372036854775807 → ∃ r, laws_markText.l0g x s = some r := by
  intro n
  induction n with
  | zero =>
    intro x s hx hs
    rw [laws_markText.l0e, if_neg (by simp at hx; omega), if_pos (by omega)]
    exact ⟨_, rfl⟩
  | succ n ih =>
    intro x s hx hs
    rw [laws_markText.l0e]
    by_cases h0 : x > 0
    · rw [if_pos h0, Option.bind_some]
      have hz : (strOfNums ([(wrap64 (48 + (Int.tmod x 10))) % 256] : List Int)).size = 1 := rfl
      rw [if_pos (by rw [hz]; omega)]
      have hd : Int.tdiv x 10 = x / 10 := Int.tdiv_eq_ediv_of_nonneg (by omega)
      have hw : wrap64 (Int.tdiv x 10) < 10 ^ n := by
        by_cases hb : x ≤ 9223372036854775807
        · rw [w64 (by rw [hd]; omega) (by rw [hd]; omega), hd]
          rw [Int.pow_succ] at hx
          omega
        · unfold wrap64
          rw [hd]
          rw [Int.pow_succ] at hx
          have : x / 10 < 10 ^ n := by omega
          omega
      refine ih _ _ hw ?_
      rw [ByteArray.size_append, hz]
      omega
    · rw [if_neg h0, if_pos (by omega)]
      exact ⟨_, rfl⟩
theorem markText_tells (k : Int) (h : k ≤ 9223372036854775807) : ∃ r, laws_markText.g k = some r := by
  rw [laws_markText.ge]
  split
  · exact ⟨_, rfl⟩
  · refine digits_tell 19 k _ ?_ ?_
    · have : (10 : Int) ^ 19 = 10000000000000000000 := by decide
      omega
    · have : (⟨#[]⟩ : ByteArray).size = 0 := rfl
      omega
noncomputable def mt (k : Int) : ByteArray := (laws_markText.g k).getD ByteArray.empty
theorem markText_eq (k : Int) (h : k ≤ 9223372036854775807) : laws_markText.g k = some (mt k) := by
  obtain ⟨r, hr⟩ := markText_tells k h
  unfold mt
  rw [hr]
  rfl
theorem set_mid {α : Type} (P r : List α) (x v : α) : (P ++ x :: r).set ((P.length : Nat) : Int).toNat v = P ++ v :: r := by
  rw [Int.toNat_natCast, List.set_append_right _ _ (Nat.le_refl _)]
  simp
theorem getD_mid {α : Type} (P r : List α) (x d : α) : (P ++ x :: r).getD ((P.length : Nat) : Int).toNat d = x := by
  rw [Int.toNat_natCast, List.getD_eq_getElem?_getD, List.getElem?_append_right (Nat.le_refl _)]
  simp
theorem mid_lt {α : Type} (P r : List α) (x : α) : ((P.length : Nat) : Int) < (((P ++ x :: r).length : Nat) : Int) := by simp; omega
theorem mid_end {α : Type} (P : List α) : ¬ ((P.length : Nat) : Int) < (((P ++ []).length : Nat) : Int) := by simp
end Go.Proofs.Ytelmcjohkifeeaa.PA

namespace Go.Proofs.Ytelmcjohkifeeaa.PA
open Go.RowKit Go.Proofs.YtelmcjohkifeeaaW.PrintWords Go.Proofs.YtelmcjohkifeeaaW.PrintLast Go.Proofs.YtelmcjohkifeeaaW.PrintMore Go.Proofs.Ytelmcjohkifeeaa.Base Go.Proofs.Ytelmcjohkifeeaa.Lim
set_option linter.unusedVariables false
set_option linter.unusedSimpArgs false
noncomputable def mkS_Field : Int → List S146 → List S146
  | _, [] => []
  | k, x :: r => (⟨(mt (k)), (mt (k + 1))⟩ : S146) :: mkS_Field (k + 1 + 1) r
theorem mkS_Field_len : ∀ (r : List S146) (k : Int), (mkS_Field k r).length = r.length
  | [], k => rfl
  | x :: r, k => by rw [mkS_Field, List.length_cons, List.length_cons, mkS_Field_len r]
theorem mark_FieldS_from : ∀ (r P : List S146) (k : Int), 0 ≤ k → k + 2 * r.length ≤ 4611686018427387904 → Sm (P ++ r).length → laws_markFieldS.l0g (P ++ r) k (P.length : Int) = some (k + 2 * r.length, P ++ mkS_Field k r)
  | [], P, k, h0, h1, hn => by
    rw [laws_markFieldS.l0e, if_neg (mid_end P)]
    simp [mkS_Field]
  | x :: r, P, k, h0, h1, hn => by
    rw [List.length_cons] at h1
    have hp : P.length < (P ++ x :: r).length := by simp
    have ih := mark_FieldS_from r (P ++ [⟨(mt (k)), (mt (k + 1))⟩]) (k + 1 + 1) (by omega) (by omega) (by rw [List.append_assoc]; simpa using hn)
    rw [List.append_assoc, List.length_append, List.length_singleton] at ih
    rw [laws_markFieldS.l0e]
    simp only [if_pos (mid_lt P r x), if_pos (nat_nonneg P.length), Option.bind_some, w64 (x := k + 1) (by omega) (by omega), w64 (x := k + 1 + 1) (by omega) (by omega), markText_eq (k) (by omega), markText_eq (k + 1) (by omega), w64_succ hp hn, rd_T146, getD_mid, set_mid]
    refine Eq.trans ih ?_
    rw [List.append_assoc, mkS_Field]
    refine congrArg some ?_
    refine Prod.ext ?_ rfl
    show k + 1 + 1 + 2 * (r.length : Int) = k + 2 * (((x :: r).length : Nat) : Int)
    rw [List.length_cons]
    omega
theorem mark_FieldS (l : List S146) (k : Int) (h0 : 0 ≤ k) (h1 : k + 2 * l.length ≤ 4611686018427387904) (hn : Sm l.length) : laws_markFieldS.g l k = some (k + 2 * l.length, mkS_Field k l) := by
  rw [laws_markFieldS.ge]
  exact mark_FieldS_from l [] k h0 h1 hn
theorem held_FieldS_from : ∀ (r P : List S146) (k : Int), 0 ≤ k → k + 2 * r.length ≤ 4611686018427387904 → Sm (P ++ r).length → laws_heldFieldS.l0g (P ++ mkS_Field k r) k (P.length : Int) = some (k + 2 * r.length)
  | [], P, k, h0, h1, hn => by
    rw [mkS_Field, laws_heldFieldS.l0e, if_neg (mid_end P)]
    simp
  | x :: r, P, k, h0, h1, hn => by
    rw [List.length_cons] at h1
    have hp : P.length < (P ++ x :: r).length := by simp
    have ih := held_FieldS_from r (P ++ [⟨(mt (k)), (mt (k + 1))⟩]) (k + 1 + 1) (by omega) (by omega) (by rw [List.append_assoc]; simpa using hn)
    rw [List.append_assoc, List.length_append, List.length_singleton] at ih
    rw [laws_heldFieldS.l0e, mkS_Field]
    simp only [if_pos (mid_lt P _ _), if_pos (nat_nonneg P.length), Option.bind_some, w64 (x := k + 1) (by omega) (by omega), w64 (x := k + 1 + 1) (by omega) (by omega), markText_eq (k) (by omega), markText_eq (k + 1) (by omega), w64_succ hp hn, rd_T146, getD_mid, if_true]
    refine Eq.trans ih ?_
    refine congrArg some ?_
    rw [List.length_cons]
    omega
theorem held_FieldS (l : List S146) (k : Int) (h0 : 0 ≤ k) (h1 : k + 2 * l.length ≤ 4611686018427387904) (hn : Sm l.length) : laws_heldFieldS.g (mkS_Field k l) k = some (k + 2 * l.length) := by
  rw [laws_heldFieldS.ge]
  exact held_FieldS_from l [] k h0 h1 hn
end Go.Proofs.Ytelmcjohkifeeaa.PA

namespace Go.Proofs.Ytelmcjohkifeeaa.PA
open Go.RowKit Go.Proofs.YtelmcjohkifeeaaW.PrintWords Go.Proofs.YtelmcjohkifeeaaW.PrintLast Go.Proofs.YtelmcjohkifeeaaW.PrintMore Go.Proofs.Ytelmcjohkifeeaa.Base Go.Proofs.Ytelmcjohkifeeaa.Lim
set_option linter.unusedVariables false
set_option linter.unusedSimpArgs false
def dropF (l : List S146) (n : ByteArray) : List S146 := l.filter (fun f => !decide (f.f0.toList = n.toList))
theorem dropF_len (l : List S146) (n : ByteArray) : (dropF l n).length ≤ l.length := List.length_filter_le _ _
theorem spec_DropField_eq (l : List S146) (n : ByteArray) (hn : l.length < 4398046511104) : spec_DropField.g l n = some (dropF l n) := by
  rw [spec_DropField.ge]
  have key : ∀ i, i ≤ l.length → ∀ s : List S146, s.length ≤ i → spec_DropField.l0g l n s (i : Int) = some (s ++ dropF (l.drop i) n) := by
    refine down ?_ ?_
    · intro s hs
      rw [spec_DropField.l0e, if_neg not_lt_len, List.drop_length]; simp [dropF]
    · intro i hi ih s hs
      rw [spec_DropField.l0e, if_pos (nat_lt_len hi), if_pos (nat_nonneg i), w64_succ hi (by unfold Sm; omega), drop_cons hi]
      rw [show rd_T146 l (i : Int) = l[i] from by unfold rd_T146; rw [Int.toNat_natCast, getD_at hi]]
      by_cases hc : l[i].f0.toList = n.toList
      · rw [if_pos hc, ih s (by omega), dropF, dropF, List.filter_cons_of_neg (by simp [hc])]
      · rw [if_neg hc, if_pos (by omega), ih _ (by rw [List.length_append, List.length_singleton]; omega), dropF, dropF, List.filter_cons_of_pos (by simp [hc])]
        simp
  have := key 0 (by omega) [] (by simp)
  simpa using this
theorem impl_DropField_eq (l : List S146) (n : ByteArray) (hn : l.length < 4398046511104) : impl_DropField.g l n = some (dropF l n) := by
  rw [impl_DropField.ge]
  have key : ∀ i, i ≤ l.length → ∀ s : List S146, s.length ≤ i → impl_DropField.l0g n s l (l.length : Int) (i : Int) = some (s ++ dropF (l.drop i) n) := by
    refine down ?_ ?_
    · intro s hs
      rw [impl_DropField.l0e, if_neg not_lt_len, List.drop_length]; simp [dropF]
    · intro i hi ih s hs
      rw [impl_DropField.l0e, if_pos (nat_lt_len hi), if_pos (nat_nonneg i), if_pos (nat_lt_len hi), w64_succ hi (by unfold Sm; omega), drop_cons hi]
      rw [show rd_T146 l (i : Int) = l[i] from by unfold rd_T146; rw [Int.toNat_natCast, getD_at hi]]
      by_cases hc : l[i].f0.toList = n.toList
      · rw [if_pos hc, ih s (by omega), dropF, dropF, List.filter_cons_of_neg (by simp [hc])]
      · rw [if_neg hc, if_pos (by omega), ih _ (by rw [List.length_append, List.length_singleton]; omega), dropF, dropF, List.filter_cons_of_pos (by simp [hc])]
        simp
  have := key 0 (by omega) [] (by simp)
  simpa using this
end Go.Proofs.Ytelmcjohkifeeaa.PA
