/- Laws about the functions that FnExactStoreSize reaches. Conditions: bounds on sizes. -/
import Derived.Test.YtelmcjohkifeeaaWMore
import Derived.Test.YtelmcjohkifeeaaZFnExactStoreSize1
namespace Go.Proofs.Ytelmcjohkifeeaa.Lim
open Go.RowKit Go.Proofs.YtelmcjohkifeeaaW.PrintWords Go.Proofs.YtelmcjohkifeeaaW.PrintLast Go.Proofs.YtelmcjohkifeeaaW.PrintMore
set_option linter.unusedVariables false

def Mono {α : Type} (g : Nat → Option α) : Prop := ∀ k, LeO (g k) (g (k + 1))
open Classical in
noncomputable def lim {α : Type} (g : Nat → Option α) : Option α := if h : ∃ r, ∃ k, g k = some r then some (Classical.choose h) else none

theorem Mono.uniq {α : Type} {g : Nat → Option α} (hg : Mono g) {k k' : Nat} {r r' : α} (h : g k = some r) (h' : g k' = some r') : r = r' := by
  have h1 := at_rounds hg (Nat.le_max_left k k') h
  have h2 := at_rounds hg (Nat.le_max_right k k') h'
  exact Option.some.inj (h1.symm.trans h2)

theorem lim_some {α : Type} {g : Nat → Option α} (hg : Mono g) {r : α} : lim g = some r ↔ ∃ k, g k = some r := by
  unfold lim
  constructor
  · intro h
    split at h
    · rename_i he
      obtain ⟨k, hk⟩ := Classical.choose_spec he
      cases h
      exact ⟨k, hk⟩
    · cases h
  · rintro ⟨k, hk⟩
    have he : ∃ r, ∃ k, g k = some r := ⟨r, k, hk⟩
    rw [dif_pos he]
    obtain ⟨k', hk'⟩ := Classical.choose_spec he
    exact congrArg some (hg.uniq hk' hk)

/-- With enough rounds g comes to x; more rounds tell the same. -/
def Lim {α : Type} (g : Nat → Option α) (x : Option α) : Prop := Mono g ∧ lim g = x

theorem Lim.of {α : Type} {g : Nat → Option α} (h : ∀ k, LeO (g k) (g (k + 1))) : Lim g (lim g) := ⟨h, rfl⟩
theorem Lim.intro {α : Type} {g : Nat → Option α} {x : Option α} (hg : Mono g) (h : ∀ r, x = some r ↔ ∃ k, g k = some r) : Lim g x := by
  refine ⟨hg, ?_⟩
  cases hx : x with
  | some r => exact (lim_some hg).2 ((h r).1 hx)
  | none =>
    cases hl : lim g with
    | none => rfl
    | some r =>
      have := (h r).2 ((lim_some hg).1 hl)
      rw [hx] at this
      cases this
theorem Lim.iff {α : Type} {g : Nat → Option α} {x : Option α} (h : Lim g x) {r : α} : x = some r ↔ ∃ k, g k = some r := by
  rw [← h.2]
  exact lim_some h.1
theorem Lim.const {α : Type} (x : Option α) : Lim (fun _ => x) x := Lim.intro (fun _ => LeO.refl _) (fun r => ⟨fun h => ⟨0, h⟩, fun ⟨_, h⟩ => h⟩)
theorem Lim.ite {α : Type} {c : Prop} [Decidable c] {g f : Nat → Option α} {x y : Option α} (hg : Lim g x) (hf : Lim f y) : Lim (fun k => if c then g k else f k) (if c then x else y) := by
  by_cases h : c
  · simp only [if_pos h]; exact hg
  · simp only [if_neg h]; exact hf
theorem Lim.bind {α β : Type} {g : Nat → Option α} {f : Nat → α → Option β} {x : Option α} {y : α → Option β} (hg : Lim g x) (hf : ∀ a, Lim (fun k => f k a) (y a)) : Lim (fun k => (g k).bind (f k)) (x.bind y) := by
  refine Lim.intro (fun k => LeO.bind (hg.1 k) (fun a => (hf a).1 k)) (fun r => ?_)
  constructor
  · intro h
    obtain ⟨a, ha, hr⟩ := Option.bind_eq_some_iff.1 h
    obtain ⟨k, hk⟩ := hg.iff.1 ha
    obtain ⟨k', hk'⟩ := (hf a).iff.1 hr
    refine ⟨max k k', Option.bind_eq_some_iff.2 ⟨a, at_rounds hg.1 (Nat.le_max_left _ _) hk, ?_⟩⟩
    exact at_rounds (g := fun k => f k a) (hf a).1 (Nat.le_max_right _ _) hk'
  · rintro ⟨k, hk⟩
    obtain ⟨a, ha, hr⟩ := Option.bind_eq_some_iff.1 hk
    exact Option.bind_eq_some_iff.2 ⟨a, hg.iff.2 ⟨k, ha⟩, (hf a).iff.2 ⟨k, hr⟩⟩
theorem Lim.succ {α : Type} {g : Nat → Option α} {x : Option α} (h : Lim g x) : Lim (fun k => g (k + 1)) x := by
  refine Lim.intro (fun k => h.1 (k + 1)) (fun r => ?_)
  rw [h.iff]
  constructor
  · rintro ⟨k, hk⟩; exact ⟨k, h.1 k r hk⟩
  · rintro ⟨k, hk⟩; exact ⟨k + 1, hk⟩
theorem Lim.uniq {α : Type} {g : Nat → Option α} {x y : Option α} (h : Lim g x) (h' : Lim g y) : x = y := h.2.symm.trans h'.2
/-- A loop's equation: one round of it. -/
theorem Lim.round {α : Type} {g : Nat → Option α} {x y : Option α} (h : Lim g x) (h' : Lim (fun k => g (k + 1)) y) : x = y := h.succ.uniq h'
theorem Lim.rounds {α : Type} {g : Nat → Option α} {x : Option α} (h : Lim g x) {r : α} (hx : x = some r) : ∃ k, g k = some r := h.iff.1 hx

end Go.Proofs.Ytelmcjohkifeeaa.Lim

namespace Go.Proofs.Ytelmcjohkifeeaa.Base
open Go.RowKit Go.Proofs.YtelmcjohkifeeaaW.PrintWords Go.Proofs.YtelmcjohkifeeaaW.PrintLast Go.Proofs.YtelmcjohkifeeaaW.PrintMore Go.Proofs.Ytelmcjohkifeeaa.Lim
set_option linter.unusedVariables false

def Big : Nat := 4611686018427387904
theorem Big_eq : Big = 4611686018427387904 := rfl
/-- Far below the bound of an int. -/
abbrev Sm (n : Nat) : Prop := n ≤ 4611686018427387904

theorem w64 {x : Int} (h0 : -9223372036854775808 ≤ x) (h1 : x ≤ 9223372036854775807) : wrap64 x = x := by
  unfold wrap64
  omega
theorem w64_succ {i n : Nat} (h : i < n) (hn : Sm n) : wrap64 ((i : Int) + 1) = ((i + 1 : Nat) : Int) := by
  rw [w64 (by omega) (by unfold Sm at hn; omega)]
  rfl
theorem down {n : Nat} {C : Nat → Prop} (h0 : C n) (hs : ∀ i, i < n → C (i + 1) → C i) : ∀ i, i ≤ n → C i := by
  intro i hi
  obtain ⟨d, rfl⟩ : ∃ d, n = i + d := ⟨n - i, by omega⟩
  clear hi
  induction d generalizing i with
  | zero => exact h0
  | succ d ih =>
    refine hs i (by omega) (ih (i + 1) ?_ ?_)
    · rw [show i + 1 + d = i + (d + 1) by omega]; exact h0
    · intro j hj hc
      exact hs j (by omega) hc
theorem drop_cons {α : Type} {l : List α} {i : Nat} (h : i < l.length) : l.drop i = l[i] :: l.drop (i + 1) := List.drop_eq_getElem_cons h
theorem getD_at {α : Type} {l : List α} {i : Nat} {d : α} (h : i < l.length) : l.getD i d = l[i] := by
  rw [List.getD_eq_getElem?_getD, List.getElem?_eq_getElem h]
  rfl
theorem nat_lt_len {α : Type} {l : List α} {i : Nat} (h : i < l.length) : (i : Int) < (l.length : Int) := by omega
theorem not_lt_len {α : Type} {l : List α} : ¬ (l.length : Int) < (l.length : Int) := by omega
theorem nat_nonneg (i : Nat) : (0 : Int) ≤ (i : Int) := by omega

/-- A loop over a list, from place i on, with what it carries. -/
theorem loop {α σ R : Type} {l : List α} {L : σ → Int → R} {M : σ → List α → R} (hnil : ∀ s, L s (l.length : Int) = M s [])
    (hcons : ∀ (i : Nat) (x : α) (r : List α), i < l.length → l[i]? = some x → (∀ s, L s ((i + 1 : Nat) : Int) = M s r) → ∀ s, L s (i : Int) = M s (x :: r)) :
    ∀ i, i ≤ l.length → ∀ s, L s (i : Int) = M s (l.drop i) := by
  refine down ?_ ?_
  · intro s
    rw [List.drop_length]
    exact hnil s
  · intro i hi ih s
    rw [drop_cons hi]
    exact hcons i _ _ hi (List.getElem?_eq_getElem hi) ih s
theorem loop0 {α σ R : Type} {l : List α} (L : σ → Int → R) (M : σ → List α → R) (hnil : ∀ s, L s (l.length : Int) = M s [])
    (hcons : ∀ (i : Nat) (x : α) (r : List α), i < l.length → l[i]? = some x → (∀ s, L s ((i + 1 : Nat) : Int) = M s r) → ∀ s, L s (i : Int) = M s (x :: r)) (s : σ) : L s 0 = M s l := by
  have := loop hnil hcons 0 (by omega) s
  simpa using this
/-- .. that carries nothing. -/
theorem loop1 {α R : Type} {l : List α} (L : Int → R) (M : List α → R) (hnil : L (l.length : Int) = M [])
    (hcons : ∀ (i : Nat) (x : α) (r : List α), i < l.length → l[i]? = some x → L ((i + 1 : Nat) : Int) = M r → L (i : Int) = M (x :: r)) : L 0 = M l :=
  loop0 (σ := Unit) (fun _ i => L i) (fun _ r => M r) (fun _ => hnil) (fun i x r hi hx ih _ => hcons i x r hi hx (ih ())) ()
theorem getD_x {α : Type} {l : List α} {i : Nat} {x d : α} (h : l[i]? = some x) : l.getD (i : Int).toNat d = x := by
  rw [Int.toNat_natCast, List.getD_eq_getElem?_getD, h]
  rfl

/-- .. under a condition on what it carries. -/
theorem loopP {α σ R : Type} {l : List α} (L : σ → Int → R) (M : σ → List α → R) (P : σ → Prop) (hnil : ∀ s, P s → L s (l.length : Int) = M s [])
    (hcons : ∀ (i : Nat) (x : α) (r : List α), i < l.length → l[i]? = some x → (∀ s, P s → L s ((i + 1 : Nat) : Int) = M s r) → ∀ s, P s → L s (i : Int) = M s (x :: r)) (s : σ) (hs : P s) : L s 0 = M s l := by
  have key : ∀ i, i ≤ l.length → ∀ s, P s → L s (i : Int) = M s (l.drop i) := by
    refine down ?_ ?_
    · intro s hs
      rw [List.drop_length]
      exact hnil s hs
    · intro i hi ih s hs
      rw [drop_cons hi]
      exact hcons i _ _ hi (List.getElem?_eq_getElem hi) ih s hs
  have := key 0 (by omega) s hs
  simpa using this

/-- What is left of a measure, -1 where it does not reach. -/
def sub (left : Int) (n : Nat) : Int := if (n : Int) ≤ left then left - n else -1
theorem sub_neg {left : Int} {n : Nat} (h : left < (n : Int)) : some (-1) = some (sub left n) := by
  unfold sub
  rw [if_neg (by omega)]
theorem sub_lt {left : Int} {n : Nat} (h : left < (n : Int)) : sub left n < 0 := by
  unfold sub
  rw [if_neg (by omega)]
  omega
theorem sub_nlt {left : Int} {n : Nat} (h0 : 0 ≤ left) (h : ¬ left < (n : Int)) : ¬ sub left n < 0 := by
  unfold sub
  rw [if_pos (by omega)]
  omega
theorem sub_ge {left : Int} {n : Nat} (h : ¬ left < (n : Int)) : sub left n = left - n := by
  unfold sub
  rw [if_pos (by omega)]
theorem sub_add {left : Int} {n m : Nat} (h : ¬ left < (n : Int)) : sub (left - n) m = sub left (n + m) := by
  unfold sub
  by_cases c : (m : Int) ≤ left - n
  · rw [if_pos c, if_pos (by omega)]; omega
  · rw [if_neg c, if_neg (by omega)]
theorem sub_step {left : Int} {n m : Nat} (h : ¬ left < (n : Int)) : some (sub (left - n) m) = some (sub left (n + m)) := by rw [sub_add h]

theorem set_append {α : Type} (xs : List α) (y : α) (z : α) (n : Nat) : (xs ++ y :: List.replicate n z).set xs.length = fun v => xs ++ v :: List.replicate n z := by
  funext v
  rw [List.set_append_right _ _ (Nat.le_refl _)]
  simp
/-- The way that a list is copied: place by place into a made one. -/
theorem copied {α β : Type} (f : α → β) (z : β) (l : List α) (i : Nat) (hi : i < l.length) :
    ((l.take i).map f ++ List.replicate (l.length - i) z).set i (f l[i]) = (l.take (i + 1)).map f ++ List.replicate (l.length - (i + 1)) z := by
  have hlen : ((l.take i).map f).length = i := by simp; omega
  rw [List.set_append_right _ _ (by omega), hlen, Nat.sub_self]
  obtain ⟨m, hm⟩ : ∃ m, l.length - i = m + 1 := ⟨l.length - i - 1, by omega⟩
  rw [hm, show l.length - (i + 1) = m by omega, List.replicate_succ, List.set_cons_zero, List.take_succ_eq_append_getElem hi, List.map_append]
  simp
theorem pure_of {g : Nat → Option Bool} {x : Option Bool} (h : Lim g x) (hx : x = some true) : ∃ k, g k = some true := h.rounds hx

end Go.Proofs.Ytelmcjohkifeeaa.Base

namespace Go.Proofs.Ytelmcjohkifeeaa.PA
open Go.RowKit Go.Proofs.YtelmcjohkifeeaaW.PrintWords Go.Proofs.YtelmcjohkifeeaaW.PrintLast Go.Proofs.YtelmcjohkifeeaaW.PrintMore Go.Proofs.Ytelmcjohkifeeaa.Lim
set_option linter.unusedVariables false
set_option linter.unusedSimpArgs false
noncomputable def laws_szFieldS.l0g (y0 : List (S145)) (y1 : Int) (y2 : Int) : Option (Int) := lim (fun k => laws_szFieldS.l0 k y0 y1 y2)
theorem laws_szFieldS.l0L (y0 : List (S145)) (y1 : Int) (y2 : Int) : Lim (fun k => laws_szFieldS.l0 k y0 y1 y2) (laws_szFieldS.l0g y0 y1 y2) := Lim.of (fun k => (laws_szFieldS.mono_l k) y0 y1 y2)
theorem laws_szFieldS.l0e (x0 : List (S145)) (x1 : Int) (x5 : Int) : laws_szFieldS.l0g x0 x1 x5 = (if x5 < (x0.length : Int) then (if 0 ≤ x5 then ((laws_szField.f ((rd_T145 x0 x5).f0) ((rd_T145 x0 x5).f1) x1).bind fun t261 => (if t261 < 0 then (some (-1)) else (laws_szFieldS.l0g x0 t261 (wrap64 (x5 + 1))))) else (none)) else (some x1)) := by
  refine Lim.round (laws_szFieldS.l0L x0 x1 x5) ?_
  show Lim (fun k => if x5 < (x0.length : Int) then (if 0 ≤ x5 then ((laws_szField.f ((rd_T145 x0 x5).f0) ((rd_T145 x0 x5).f1) x1).bind fun t261 => (if t261 < 0 then (some (-1)) else (laws_szFieldS.l0 k x0 t261 (wrap64 (x5 + 1))))) else (none)) else (some x1)) _
  repeat' first | (with_reducible exact Lim.const _) | (with_reducible exact laws_szFieldS.l0L _ _ _) | (with_reducible refine Lim.ite ?_ ?_) | (with_reducible refine Lim.bind ?_ (fun _ => ?_)) | exact Lim.const _ | refine Lim.ite ?_ ?_ | refine Lim.bind ?_ (fun _ => ?_) | exact laws_szFieldS.l0L _ _ _
noncomputable def laws_szFieldS.g (l0 : List (S145)) (a1 : Int) : Option (Int) := lim (fun k => laws_szFieldS.f k l0 a1)
theorem laws_szFieldS.L (l0 : List (S145)) (a1 : Int) : Lim (fun k => laws_szFieldS.f k l0 a1) (laws_szFieldS.g l0 a1) := Lim.of (fun k => laws_szFieldS.mono l0 a1 k)
theorem laws_szFieldS.ge (l0 : List (S145)) (a1 : Int) : laws_szFieldS.g l0 a1 = (if (wrap64 (a1 - (l0.length : Int))) < 0 then (some (-1)) else (laws_szFieldS.l0g l0 (wrap64 (a1 - (l0.length : Int))) 0)) := by
  refine Lim.uniq (laws_szFieldS.L l0 a1) ?_
  show Lim (fun k => if (wrap64 (a1 - (l0.length : Int))) < 0 then (some (-1)) else (laws_szFieldS.l0 k l0 (wrap64 (a1 - (l0.length : Int))) 0)) _
  repeat' first | (with_reducible exact Lim.const _) | (with_reducible exact laws_szFieldS.l0L _ _ _) | (with_reducible refine Lim.ite ?_ ?_) | (with_reducible refine Lim.bind ?_ (fun _ => ?_)) | exact Lim.const _ | refine Lim.ite ?_ ?_ | refine Lim.bind ?_ (fun _ => ?_) | exact laws_szFieldS.l0L _ _ _
end Go.Proofs.Ytelmcjohkifeeaa.PA

namespace Go.Proofs.Ytelmcjohkifeeaa.PA
open Go.RowKit Go.Proofs.YtelmcjohkifeeaaW.PrintWords Go.Proofs.YtelmcjohkifeeaaW.PrintLast Go.Proofs.YtelmcjohkifeeaaW.PrintMore Go.Proofs.Ytelmcjohkifeeaa.Lim
set_option linter.unusedVariables false
set_option linter.unusedSimpArgs false
noncomputable def laws_toFieldS.l0g (y0 : List (S145)) (y1 : List (S146)) (y2 : Int) : Option ((List (S146))) := lim (fun k => laws_toFieldS.l0 k y0 y1 y2)
theorem laws_toFieldS.l0L (y0 : List (S145)) (y1 : List (S146)) (y2 : Int) : Lim (fun k => laws_toFieldS.l0 k y0 y1 y2) (laws_toFieldS.l0g y0 y1 y2) := Lim.of (fun k => (laws_toFieldS.mono_l k) y0 y1 y2)
theorem laws_toFieldS.l0e (x0 : List (S145)) (x3 : List (S146)) (x4 : Int) : laws_toFieldS.l0g x0 x3 x4 = (if x4 < (x0.length : Int) then (if 0 ≤ x4 then ((laws_toField.f ((rd_T145 x0 x4).f0) ((rd_T145 x0 x4).f1)).bind fun bt287 => (if x4 < (x3.length : Int) then (laws_toFieldS.l0g x0 (x3.set (x4 : Int).toNat (⟨bt287.1, bt287.2⟩ : S146)) (wrap64 (x4 + 1))) else (none))) else (none)) else (some x3)) := by
  refine Lim.round (laws_toFieldS.l0L x0 x3 x4) ?_
  show Lim (fun k => if x4 < (x0.length : Int) then (if 0 ≤ x4 then ((laws_toField.f ((rd_T145 x0 x4).f0) ((rd_T145 x0 x4).f1)).bind fun bt287 => (if x4 < (x3.length : Int) then (laws_toFieldS.l0 k x0 (x3.set (x4 : Int).toNat (⟨bt287.1, bt287.2⟩ : S146)) (wrap64 (x4 + 1))) else (none))) else (none)) else (some x3)) _
  repeat' first | (with_reducible exact Lim.const _) | (with_reducible exact laws_toFieldS.l0L _ _ _) | (with_reducible refine Lim.ite ?_ ?_) | (with_reducible refine Lim.bind ?_ (fun _ => ?_)) | exact Lim.const _ | refine Lim.ite ?_ ?_ | refine Lim.bind ?_ (fun _ => ?_) | exact laws_toFieldS.l0L _ _ _
noncomputable def laws_toFieldS.g (l0 : List (S145)) : Option ((List (S146))) := lim (fun k => laws_toFieldS.f k l0)
theorem laws_toFieldS.L (l0 : List (S145)) : Lim (fun k => laws_toFieldS.f k l0) (laws_toFieldS.g l0) := Lim.of (fun k => laws_toFieldS.mono l0 k)
theorem laws_toFieldS.ge (l0 : List (S145)) : laws_toFieldS.g l0 = (if 0 ≤ (l0.length : Int) then (if ((l0.length : Int) : Int).toNat ≤ 8796093022208 then (laws_toFieldS.l0g l0 (List.replicate ((l0.length : Int) : Int).toNat z146) 0) else (none)) else (none)) := by
  refine Lim.uniq (laws_toFieldS.L l0) ?_
  show Lim (fun k => if 0 ≤ (l0.length : Int) then (if ((l0.length : Int) : Int).toNat ≤ 8796093022208 then (laws_toFieldS.l0 k l0 (List.replicate ((l0.length : Int) : Int).toNat z146) 0) else (none)) else (none)) _
  repeat' first | (with_reducible exact Lim.const _) | (with_reducible exact laws_toFieldS.l0L _ _ _) | (with_reducible refine Lim.ite ?_ ?_) | (with_reducible refine Lim.bind ?_ (fun _ => ?_)) | exact Lim.const _ | refine Lim.ite ?_ ?_ | refine Lim.bind ?_ (fun _ => ?_) | exact laws_toFieldS.l0L _ _ _
end Go.Proofs.Ytelmcjohkifeeaa.PA

namespace Go.Proofs.Ytelmcjohkifeeaa.PA
open Go.RowKit Go.Proofs.YtelmcjohkifeeaaW.PrintWords Go.Proofs.YtelmcjohkifeeaaW.PrintLast Go.Proofs.YtelmcjohkifeeaaW.PrintMore Go.Proofs.Ytelmcjohkifeeaa.Lim
set_option linter.unusedVariables false
set_option linter.unusedSimpArgs false
noncomputable def laws_eqFieldS.l0g (y0 : List (S146)) (y1 : List (S146)) (y2 : Int) : Option (Bool) := lim (fun k => laws_eqFieldS.l0 k y0 y1 y2)
theorem laws_eqFieldS.l0L (y0 : List (S146)) (y1 : List (S146)) (y2 : Int) : Lim (fun k => laws_eqFieldS.l0 k y0 y1 y2) (laws_eqFieldS.l0g y0 y1 y2) := Lim.of (fun k => (laws_eqFieldS.mono_l k) y0 y1 y2)
theorem laws_eqFieldS.l0e (x0 : List (S146)) (x1 : List (S146)) (x5 : Int) : laws_eqFieldS.l0g x0 x1 x5 = (if x5 < (x0.length : Int) then (if 0 ≤ x5 then (if x5 < (x1.length : Int) then ((laws_eqField.f ((rd_T146 x0 x5).f0) ((rd_T146 x0 x5).f1) ((rd_T146 x1 x5).f0) ((rd_T146 x1 x5).f1)).bind fun t316 => (if t316 = true then (laws_eqFieldS.l0g x0 x1 (wrap64 (x5 + 1))) else (some false))) else (none)) else (none)) else (some true)) := by
  refine Lim.round (laws_eqFieldS.l0L x0 x1 x5) ?_
  show Lim (fun k => if x5 < (x0.length : Int) then (if 0 ≤ x5 then (if x5 < (x1.length : Int) then ((laws_eqField.f ((rd_T146 x0 x5).f0) ((rd_T146 x0 x5).f1) ((rd_T146 x1 x5).f0) ((rd_T146 x1 x5).f1)).bind fun t316 => (if t316 = true then (laws_eqFieldS.l0 k x0 x1 (wrap64 (x5 + 1))) else (some false))) else (none)) else (none)) else (some true)) _
  repeat' first | (with_reducible exact Lim.const _) | (with_reducible exact laws_eqFieldS.l0L _ _ _) | (with_reducible refine Lim.ite ?_ ?_) | (with_reducible refine Lim.bind ?_ (fun _ => ?_)) | exact Lim.const _ | refine Lim.ite ?_ ?_ | refine Lim.bind ?_ (fun _ => ?_) | exact laws_eqFieldS.l0L _ _ _
noncomputable def laws_eqFieldS.g (l0 : List (S146)) (l1 : List (S146)) : Option (Bool) := lim (fun k => laws_eqFieldS.f k l0 l1)
theorem laws_eqFieldS.L (l0 : List (S146)) (l1 : List (S146)) : Lim (fun k => laws_eqFieldS.f k l0 l1) (laws_eqFieldS.g l0 l1) := Lim.of (fun k => laws_eqFieldS.mono l0 l1 k)
theorem laws_eqFieldS.ge (l0 : List (S146)) (l1 : List (S146)) : laws_eqFieldS.g l0 l1 = (if (l0.length : Int) = (l1.length : Int) then (laws_eqFieldS.l0g l0 l1 0) else (some false)) := by
  refine Lim.uniq (laws_eqFieldS.L l0 l1) ?_
  show Lim (fun k => if (l0.length : Int) = (l1.length : Int) then (laws_eqFieldS.l0 k l0 l1 0) else (some false)) _
  repeat' first | (with_reducible exact Lim.const _) | (with_reducible exact laws_eqFieldS.l0L _ _ _) | (with_reducible refine Lim.ite ?_ ?_) | (with_reducible refine Lim.bind ?_ (fun _ => ?_)) | exact Lim.const _ | refine Lim.ite ?_ ?_ | refine Lim.bind ?_ (fun _ => ?_) | exact laws_eqFieldS.l0L _ _ _
end Go.Proofs.Ytelmcjohkifeeaa.PA

namespace Go.Proofs.Ytelmcjohkifeeaa.PA
open Go.RowKit Go.Proofs.YtelmcjohkifeeaaW.PrintWords Go.Proofs.YtelmcjohkifeeaaW.PrintLast Go.Proofs.YtelmcjohkifeeaaW.PrintMore Go.Proofs.Ytelmcjohkifeeaa.Base Go.Proofs.Ytelmcjohkifeeaa.Lim
set_option linter.unusedVariables false
set_option linter.unusedSimpArgs false

def Bd145 (x : S145) : Prop := x.f0.size ≤ 140737488351232 ∧ x.f1.size ≤ 140737488351232
def wt_Field (x : S145) : Nat := x.f0.size + x.f1.size
def conv_Field (x : S145) : S146 := ⟨x.f0, x.f1⟩
theorem sz_Field (a0 : ByteArray) (a1 : ByteArray) (left : Int) (h0 : a0.size ≤ 140737488351232) (h1 : a1.size ≤ 140737488351232) (hl : 0 ≤ left) (hm : left ≤ 4611686018427387904) : laws_szField.f a0 a1 left = some (sub left (a0.size + a1.size)) := by
  unfold laws_szField.f
  rw [w64 (x := left - (a0.size : Int)) (by omega) (by omega)]
  by_cases c0 : left - (a0.size : Int) < 0
  · rw [if_pos c0]; exact sub_neg (by omega)
  rw [if_neg c0]
  rw [w64 (x := (left - (a0.size : Int)) - (a1.size : Int)) (by omega) (by omega)]
  by_cases c1 : (left - (a0.size : Int)) - (a1.size : Int) < 0
  · rw [if_pos c1]; exact sub_neg (by omega)
  rw [if_neg c1]
  all_goals (refine congrArg some ?_; first | (rw [sub_ge (by omega)]; done) | (rw [sub_ge (by omega)]; omega))
theorem to_Field (a0 : ByteArray) (a1 : ByteArray)  : laws_toField.f a0 a1 = some (a0, a1) := by
  rfl
theorem eq_Field (a0 : ByteArray) (a1 : ByteArray)  : laws_eqField.f a0 a1 a0 a1 = some true := by
  unfold laws_eqField.f
  simp
def wtS_Field : List S145 → Nat := fun l => l.length + (l.map wt_Field).sum
theorem szS_Field (l : List S145) (left : Int) (h : l.length * 32 ≤ 140737488351232 ∧ l.length ≤ maxLen ∧ ∀ y ∈ l, Bd145 y) (hl : 0 ≤ left) (hm : left ≤ 4611686018427387904) : laws_szFieldS.g l left = some (sub left (wtS_Field l)) := by
  obtain ⟨h1, h2, h3⟩ := h
  have hn : Sm l.length := by unfold Sm; omega
  rw [laws_szFieldS.ge, w64 (by omega) (by omega)]
  unfold wtS_Field
  by_cases c : left - (l.length : Int) < 0
  · rw [if_pos c]; exact sub_neg (by omega)
  rw [if_neg c]
  have key := loopP (l := l) (fun s i => laws_szFieldS.l0g l s i) (fun s r => some (sub s ((r.map wt_Field).sum))) (fun s => 0 ≤ s ∧ s ≤ 4611686018427387904) ?_ ?_ (left - (l.length : Int)) ⟨by omega, by omega⟩
  · rw [key, sub_add (by omega)]
  · rintro s ⟨hs0, hs1⟩
    rw [laws_szFieldS.l0e, if_neg not_lt_len]
    simp [sub, hs0]
  · rintro i x r hi hx ih s ⟨hs0, hs1⟩
    have hb := h3 x (List.mem_of_getElem? hx)
    rw [laws_szFieldS.l0e, if_pos (nat_lt_len hi), if_pos (nat_nonneg i), w64_succ hi hn]
    simp only [rd_T145, getD_x hx]
    rw [sz_Field x.f0 x.f1 s hb.1 hb.2 hs0 hs1, Option.bind_some]
    rw [List.map_cons, List.sum_cons]
    show (if sub s (wt_Field x) < 0 then some (-1) else laws_szFieldS.l0g l (sub s (wt_Field x)) _) = _
    by_cases c2 : s < ((wt_Field x : Nat) : Int)
    · rw [if_pos (sub_lt c2)]; exact sub_neg (by omega)
    rw [if_neg (sub_nlt hs0 c2), sub_ge c2, ih _ ⟨by omega, by omega⟩]; exact sub_step (by omega)
theorem toS_Field (l : List S145) (h : l.length * 32 ≤ 140737488351232 ∧ l.length ≤ maxLen ∧ ∀ y ∈ l, Bd145 y) : laws_toFieldS.g l = some (l.map conv_Field) := by
  obtain ⟨h1, h2, h3⟩ := h
  have key : ∀ i, i ≤ l.length → laws_toFieldS.l0g l ((l.take i).map conv_Field ++ List.replicate (l.length - i) z146) (i : Int) = some (l.map conv_Field) := by
    refine down ?_ ?_
    · rw [laws_toFieldS.l0e, if_neg not_lt_len]
      simp
    · intro i hi ih
      have hb := h3 l[i] (List.getElem_mem hi)
      rw [laws_toFieldS.l0e, if_pos (nat_lt_len hi), if_pos (nat_nonneg i)]
      simp only [rd_T145, Int.toNat_natCast, getD_at hi]
      rw [to_Field l[i].f0 l[i].f1 , Option.bind_some, if_pos (by simp; omega), w64_succ hi (by unfold Sm; omega)]
      have e := copied conv_Field z146 l i hi
      rw [← e] at ih
      exact ih
  rw [laws_toFieldS.ge, if_pos (by omega), if_pos (by rw [Int.toNat_natCast]; omega)]
  have := key 0 (by omega)
  simpa using this
theorem eqS_Field (l : List S146) (h : Sm l.length) : laws_eqFieldS.g l l = some true := by
  have hn := h
  rw [laws_eqFieldS.ge, if_pos rfl]
  refine loop1 (l := l) (fun i => laws_eqFieldS.l0g l l i) (fun _ => some true) ?_ ?_
  · rw [laws_eqFieldS.l0e, if_neg not_lt_len]
  · intro i x r hi hx ih
    rw [laws_eqFieldS.l0e, if_pos (nat_lt_len hi), if_pos (nat_nonneg i), if_pos (nat_lt_len hi), w64_succ hi hn, ih]
    simp only [rd_T146, getD_x hx]
    rw [eq_Field x.f0 x.f1 , Option.bind_some, if_pos rfl]
end Go.Proofs.Ytelmcjohkifeeaa.PA

namespace Go.Proofs.Ytelmcjohkifeeaa.PA
open Go.RowKit Go.Proofs.YtelmcjohkifeeaaW.PrintWords Go.Proofs.YtelmcjohkifeeaaW.PrintLast Go.Proofs.YtelmcjohkifeeaaW.PrintMore Go.Proofs.Ytelmcjohkifeeaa.Lim
set_option linter.unusedVariables false
set_option linter.unusedSimpArgs false
noncomputable def laws_szResponse.g (a0_0 : Int) (l0_1 : List (S145)) (a0_2 : ByteArray) (a1 : Int) : Option (Int) := lim (fun k => laws_szResponse.f k a0_0 l0_1 a0_2 a1)
theorem laws_szResponse.L (a0_0 : Int) (l0_1 : List (S145)) (a0_2 : ByteArray) (a1 : Int) : Lim (fun k => laws_szResponse.f k a0_0 l0_1 a0_2 a1) (laws_szResponse.g a0_0 l0_1 a0_2 a1) := Lim.of (fun k => laws_szResponse.mono a0_0 l0_1 a0_2 a1 k)
theorem laws_szResponse.ge (a0_0 : Int) (l0_1 : List (S145)) (a0_2 : ByteArray) (a1 : Int) : laws_szResponse.g a0_0 l0_1 a0_2 a1 = ((laws_szFieldS.g l0_1 a1).bind fun t263 => (if t263 < 0 then (some (-1)) else (if (wrap64 (t263 - (a0_2.size : Int))) < 0 then (some (-1)) else (some (wrap64 (t263 - (a0_2.size : Int))))))) := by
  refine Lim.uniq (laws_szResponse.L a0_0 l0_1 a0_2 a1) ?_
  show Lim (fun k => (laws_szFieldS.f k l0_1 a1).bind fun t263 => (if t263 < 0 then (some (-1)) else (if (wrap64 (t263 - (a0_2.size : Int))) < 0 then (some (-1)) else (some (wrap64 (t263 - (a0_2.size : Int))))))) _
  repeat' first | (with_reducible exact Lim.const _) | (with_reducible exact laws_szFieldS.L _ _) | (with_reducible refine Lim.ite ?_ ?_) | (with_reducible refine Lim.bind ?_ (fun _ => ?_)) | exact Lim.const _ | refine Lim.ite ?_ ?_ | refine Lim.bind ?_ (fun _ => ?_) | exact laws_szFieldS.L _ _
end Go.Proofs.Ytelmcjohkifeeaa.PA

namespace Go.Proofs.Ytelmcjohkifeeaa.PA
open Go.RowKit Go.Proofs.YtelmcjohkifeeaaW.PrintWords Go.Proofs.YtelmcjohkifeeaaW.PrintLast Go.Proofs.YtelmcjohkifeeaaW.PrintMore Go.Proofs.Ytelmcjohkifeeaa.Lim
set_option linter.unusedVariables false
set_option linter.unusedSimpArgs false
noncomputable def laws_toResponse.g (a0_0 : Int) (l0_1 : List (S145)) (a0_2 : ByteArray) : Option (Int × (List (S146)) × ByteArray) := lim (fun k => laws_toResponse.f k a0_0 l0_1 a0_2)
theorem laws_toResponse.L (a0_0 : Int) (l0_1 : List (S145)) (a0_2 : ByteArray) : Lim (fun k => laws_toResponse.f k a0_0 l0_1 a0_2) (laws_toResponse.g a0_0 l0_1 a0_2) := Lim.of (fun k => laws_toResponse.mono a0_0 l0_1 a0_2 k)
theorem laws_toResponse.ge (a0_0 : Int) (l0_1 : List (S145)) (a0_2 : ByteArray) : laws_toResponse.g a0_0 l0_1 a0_2 = ((laws_toFieldS.g l0_1).bind fun t293 => (some (a0_0, t293, a0_2))) := by
  refine Lim.uniq (laws_toResponse.L a0_0 l0_1 a0_2) ?_
  show Lim (fun k => (laws_toFieldS.f k l0_1).bind fun t293 => (some (a0_0, t293, a0_2))) _
  repeat' first | (with_reducible exact Lim.const _) | (with_reducible exact laws_toFieldS.L _) | (with_reducible refine Lim.ite ?_ ?_) | (with_reducible refine Lim.bind ?_ (fun _ => ?_)) | exact Lim.const _ | refine Lim.ite ?_ ?_ | refine Lim.bind ?_ (fun _ => ?_) | exact laws_toFieldS.L _
end Go.Proofs.Ytelmcjohkifeeaa.PA

namespace Go.Proofs.Ytelmcjohkifeeaa.PA
open Go.RowKit Go.Proofs.YtelmcjohkifeeaaW.PrintWords Go.Proofs.YtelmcjohkifeeaaW.PrintLast Go.Proofs.YtelmcjohkifeeaaW.PrintMore Go.Proofs.Ytelmcjohkifeeaa.Lim
set_option linter.unusedVariables false
set_option linter.unusedSimpArgs false
noncomputable def laws_eqResponse.g (a0_0 : Int) (l0_1 : List (S146)) (a0_2 : ByteArray) (a1_0 : Int) (l1_1 : List (S146)) (a1_2 : ByteArray) : Option (Bool) := lim (fun k => laws_eqResponse.f k a0_0 l0_1 a0_2 a1_0 l1_1 a1_2)
theorem laws_eqResponse.L (a0_0 : Int) (l0_1 : List (S146)) (a0_2 : ByteArray) (a1_0 : Int) (l1_1 : List (S146)) (a1_2 : ByteArray) : Lim (fun k => laws_eqResponse.f k a0_0 l0_1 a0_2 a1_0 l1_1 a1_2) (laws_eqResponse.g a0_0 l0_1 a0_2 a1_0 l1_1 a1_2) := Lim.of (fun k => laws_eqResponse.mono a0_0 l0_1 a0_2 a1_0 l1_1 a1_2 k)
theorem laws_eqResponse.ge (a0_0 : Int) (l0_1 : List (S146)) (a0_2 : ByteArray) (a1_0 : Int) (l1_1 : List (S146)) (a1_2 : ByteArray) : laws_eqResponse.g a0_0 l0_1 a0_2 a1_0 l1_1 a1_2 = (if a0_0 = a1_0 then ((laws_eqFieldS.g l0_1 l1_1).bind fun t319 => (if t319 = true then (if a0_2.toList = a1_2.toList then (some true) else (some false)) else (some false))) else (some false)) := by
  refine Lim.uniq (laws_eqResponse.L a0_0 l0_1 a0_2 a1_0 l1_1 a1_2) ?_
  show Lim (fun k => if a0_0 = a1_0 then ((laws_eqFieldS.f k l0_1 l1_1).bind fun t319 => (if t319 = true then (if a0_2.toList = a1_2.toList then (some true) else (some false)) else (some false))) else (some false)) _
  repeat' first | (with_reducible exact Lim.const _) | (with_reducible exact laws_eqFieldS.L _ _) | (with_reducible refine Lim.ite ?_ ?_) | (with_reducible refine Lim.bind ?_ (fun _ => ?_)) | exact Lim.const _ | refine Lim.ite ?_ ?_ | refine Lim.bind ?_ (fun _ => ?_) | exact laws_eqFieldS.L _ _
end Go.Proofs.Ytelmcjohkifeeaa.PA

namespace Go.Proofs.Ytelmcjohkifeeaa.PA
open Go.RowKit Go.Proofs.YtelmcjohkifeeaaW.PrintWords Go.Proofs.YtelmcjohkifeeaaW.PrintLast Go.Proofs.YtelmcjohkifeeaaW.PrintMore Go.Proofs.Ytelmcjohkifeeaa.Base Go.Proofs.Ytelmcjohkifeeaa.Lim
set_option linter.unusedVariables false
set_option linter.unusedSimpArgs false

def Bd47 (x : S47) : Prop := (Lit.int .i64 x.f0).wf = true ∧ (x.f1.length * 32 ≤ 140737488351232 ∧ x.f1.length ≤ maxLen ∧ ∀ y ∈ x.f1, Bd145 y) ∧ x.f2.size ≤ 140737488351232
def wt_Response (x : S47) : Nat := wtS_Field x.f1 + x.f2.size
def conv_Response (x : S47) : S51 := ⟨x.f0, (x.f1.map conv_Field), x.f2⟩
theorem sz_Response (a0 : Int) (a1 : (List S145)) (a2 : ByteArray) (left : Int) (h1 : (a1.length * 32 ≤ 140737488351232 ∧ a1.length ≤ maxLen ∧ ∀ y ∈ a1, Bd145 y)) (h2 : a2.size ≤ 140737488351232) (hl : 0 ≤ left) (hm : left ≤ 4611686018427387904) : laws_szResponse.g a0 a1 a2 left = some (sub left (wtS_Field a1 + a2.size)) := by
  rw [laws_szResponse.ge]
  rw [szS_Field a1 left h1 (by omega) (by omega), Option.bind_some]
  by_cases c0 : left < ((wtS_Field a1 : Nat) : Int)
  · rw [if_pos (sub_lt c0)]; exact sub_neg (by omega)
  rw [if_neg (sub_nlt (by omega) c0), sub_ge c0]
  rw [w64 (x := (left - ((wtS_Field a1 : Nat) : Int)) - (a2.size : Int)) (by omega) (by omega)]
  by_cases c1 : (left - ((wtS_Field a1 : Nat) : Int)) - (a2.size : Int) < 0
  · rw [if_pos c1]; exact sub_neg (by omega)
  rw [if_neg c1]
  all_goals (refine congrArg some ?_; first | (rw [sub_ge (by omega)]; done) | (rw [sub_ge (by omega)]; omega))
theorem to_Response (a0 : Int) (a1 : (List S145)) (a2 : ByteArray) (h1 : (a1.length * 32 ≤ 140737488351232 ∧ a1.length ≤ maxLen ∧ ∀ y ∈ a1, Bd145 y)) : laws_toResponse.g a0 a1 a2 = some (a0, (a1.map conv_Field), a2) := by
  rw [laws_toResponse.ge]
  simp only [toS_Field a1 h1, Option.bind_some]
theorem eq_Response (a0 : Int) (a1 : (List S146)) (a2 : ByteArray) (h1 : Sm a1.length) : laws_eqResponse.g a0 a1 a2 a0 a1 a2 = some true := by
  rw [laws_eqResponse.ge]
  simp [eqS_Field a1 h1]
def Ok_Response (x : S51) : Prop := Sm x.f1.length
end Go.Proofs.Ytelmcjohkifeeaa.PA

namespace Go.Proofs.Ytelmcjohkifeeaa.PA
open Go.RowKit Go.Proofs.YtelmcjohkifeeaaW.PrintWords Go.Proofs.YtelmcjohkifeeaaW.PrintLast Go.Proofs.YtelmcjohkifeeaaW.PrintMore Go.Proofs.Ytelmcjohkifeeaa.Lim
set_option linter.unusedVariables false
set_option linter.unusedSimpArgs false
noncomputable def laws_szPieceS.l0g (y0 : List (S150)) (y1 : Int) (y2 : Int) : Option (Int) := lim (fun k => laws_szPieceS.l0 k y0 y1 y2)
theorem laws_szPieceS.l0L (y0 : List (S150)) (y1 : Int) (y2 : Int) : Lim (fun k => laws_szPieceS.l0 k y0 y1 y2) (laws_szPieceS.l0g y0 y1 y2) := Lim.of (fun k => (laws_szPieceS.mono_l k) y0 y1 y2)
theorem laws_szPieceS.l0e (x0 : List (S150)) (x1 : Int) (x5 : Int) : laws_szPieceS.l0g x0 x1 x5 = (if x5 < (x0.length : Int) then (if 0 ≤ x5 then ((laws_szPiece.f ((rd_T150 x0 x5).f0) ((rd_T150 x0 x5).f1) x1).bind fun t445 => (if t445 < 0 then (some (-1)) else (laws_szPieceS.l0g x0 t445 (wrap64 (x5 + 1))))) else (none)) else (some x1)) := by
  refine Lim.round (laws_szPieceS.l0L x0 x1 x5) ?_
  show Lim (fun k => if x5 < (x0.length : Int) then (if 0 ≤ x5 then ((laws_szPiece.f ((rd_T150 x0 x5).f0) ((rd_T150 x0 x5).f1) x1).bind fun t445 => (if t445 < 0 then (some (-1)) else (laws_szPieceS.l0 k x0 t445 (wrap64 (x5 + 1))))) else (none)) else (some x1)) _
  repeat' first | (with_reducible exact Lim.const _) | (with_reducible exact laws_szPieceS.l0L _ _ _) | (with_reducible refine Lim.ite ?_ ?_) | (with_reducible refine Lim.bind ?_ (fun _ => ?_)) | exact Lim.const _ | refine Lim.ite ?_ ?_ | refine Lim.bind ?_ (fun _ => ?_) | exact laws_szPieceS.l0L _ _ _
noncomputable def laws_szPieceS.g (l0 : List (S150)) (a1 : Int) : Option (Int) := lim (fun k => laws_szPieceS.f k l0 a1)
theorem laws_szPieceS.L (l0 : List (S150)) (a1 : Int) : Lim (fun k => laws_szPieceS.f k l0 a1) (laws_szPieceS.g l0 a1) := Lim.of (fun k => laws_szPieceS.mono l0 a1 k)
theorem laws_szPieceS.ge (l0 : List (S150)) (a1 : Int) : laws_szPieceS.g l0 a1 = (if (wrap64 (a1 - (l0.length : Int))) < 0 then (some (-1)) else (laws_szPieceS.l0g l0 (wrap64 (a1 - (l0.length : Int))) 0)) := by
  refine Lim.uniq (laws_szPieceS.L l0 a1) ?_
  show Lim (fun k => if (wrap64 (a1 - (l0.length : Int))) < 0 then (some (-1)) else (laws_szPieceS.l0 k l0 (wrap64 (a1 - (l0.length : Int))) 0)) _
  repeat' first | (with_reducible exact Lim.const _) | (with_reducible exact laws_szPieceS.l0L _ _ _) | (with_reducible refine Lim.ite ?_ ?_) | (with_reducible refine Lim.bind ?_ (fun _ => ?_)) | exact Lim.const _ | refine Lim.ite ?_ ?_ | refine Lim.bind ?_ (fun _ => ?_) | exact laws_szPieceS.l0L _ _ _
end Go.Proofs.Ytelmcjohkifeeaa.PA

namespace Go.Proofs.Ytelmcjohkifeeaa.PA
open Go.RowKit Go.Proofs.YtelmcjohkifeeaaW.PrintWords Go.Proofs.YtelmcjohkifeeaaW.PrintLast Go.Proofs.YtelmcjohkifeeaaW.PrintMore Go.Proofs.Ytelmcjohkifeeaa.Lim
set_option linter.unusedVariables false
set_option linter.unusedSimpArgs false
noncomputable def laws_toPieceS.l0g (y0 : List (S150)) (y1 : List (S133)) (y2 : Int) : Option ((List (S133))) := lim (fun k => laws_toPieceS.l0 k y0 y1 y2)
theorem laws_toPieceS.l0L (y0 : List (S150)) (y1 : List (S133)) (y2 : Int) : Lim (fun k => laws_toPieceS.l0 k y0 y1 y2) (laws_toPieceS.l0g y0 y1 y2) := Lim.of (fun k => (laws_toPieceS.mono_l k) y0 y1 y2)
theorem laws_toPieceS.l0e (x0 : List (S150)) (x3 : List (S133)) (x4 : Int) : laws_toPieceS.l0g x0 x3 x4 = (if x4 < (x0.length : Int) then (if 0 ≤ x4 then ((laws_toPiece.f ((rd_T150 x0 x4).f0) ((rd_T150 x0 x4).f1)).bind fun bt463 => (if x4 < (x3.length : Int) then (laws_toPieceS.l0g x0 (x3.set (x4 : Int).toNat (⟨bt463.1, bt463.2⟩ : S133)) (wrap64 (x4 + 1))) else (none))) else (none)) else (some x3)) := by
  refine Lim.round (laws_toPieceS.l0L x0 x3 x4) ?_
  show Lim (fun k => if x4 < (x0.length : Int) then (if 0 ≤ x4 then ((laws_toPiece.f ((rd_T150 x0 x4).f0) ((rd_T150 x0 x4).f1)).bind fun bt463 => (if x4 < (x3.length : Int) then (laws_toPieceS.l0 k x0 (x3.set (x4 : Int).toNat (⟨bt463.1, bt463.2⟩ : S133)) (wrap64 (x4 + 1))) else (none))) else (none)) else (some x3)) _
  repeat' first | (with_reducible exact Lim.const _) | (with_reducible exact laws_toPieceS.l0L _ _ _) | (with_reducible refine Lim.ite ?_ ?_) | (with_reducible refine Lim.bind ?_ (fun _ => ?_)) | exact Lim.const _ | refine Lim.ite ?_ ?_ | refine Lim.bind ?_ (fun _ => ?_) | exact laws_toPieceS.l0L _ _ _
noncomputable def laws_toPieceS.g (l0 : List (S150)) : Option ((List (S133))) := lim (fun k => laws_toPieceS.f k l0)
theorem laws_toPieceS.L (l0 : List (S150)) : Lim (fun k => laws_toPieceS.f k l0) (laws_toPieceS.g l0) := Lim.of (fun k => laws_toPieceS.mono l0 k)
theorem laws_toPieceS.ge (l0 : List (S150)) : laws_toPieceS.g l0 = (if 0 ≤ (l0.length : Int) then (if ((l0.length : Int) : Int).toNat ≤ 11728124029610 then (laws_toPieceS.l0g l0 (List.replicate ((l0.length : Int) : Int).toNat z133) 0) else (none)) else (none)) := by
  refine Lim.uniq (laws_toPieceS.L l0) ?_
  show Lim (fun k => if 0 ≤ (l0.length : Int) then (if ((l0.length : Int) : Int).toNat ≤ 11728124029610 then (laws_toPieceS.l0 k l0 (List.replicate ((l0.length : Int) : Int).toNat z133) 0) else (none)) else (none)) _
  repeat' first | (with_reducible exact Lim.const _) | (with_reducible exact laws_toPieceS.l0L _ _ _) | (with_reducible refine Lim.ite ?_ ?_) | (with_reducible refine Lim.bind ?_ (fun _ => ?_)) | exact Lim.const _ | refine Lim.ite ?_ ?_ | refine Lim.bind ?_ (fun _ => ?_) | exact laws_toPieceS.l0L _ _ _
end Go.Proofs.Ytelmcjohkifeeaa.PA

namespace Go.Proofs.Ytelmcjohkifeeaa.PA
open Go.RowKit Go.Proofs.YtelmcjohkifeeaaW.PrintWords Go.Proofs.YtelmcjohkifeeaaW.PrintLast Go.Proofs.YtelmcjohkifeeaaW.PrintMore Go.Proofs.Ytelmcjohkifeeaa.Lim
set_option linter.unusedVariables false
set_option linter.unusedSimpArgs false
noncomputable def laws_eqPieceS.l0g (y0 : List (S133)) (y1 : List (S133)) (y2 : Int) : Option (Bool) := lim (fun k => laws_eqPieceS.l0 k y0 y1 y2)
theorem laws_eqPieceS.l0L (y0 : List (S133)) (y1 : List (S133)) (y2 : Int) : Lim (fun k => laws_eqPieceS.l0 k y0 y1 y2) (laws_eqPieceS.l0g y0 y1 y2) := Lim.of (fun k => (laws_eqPieceS.mono_l k) y0 y1 y2)
theorem laws_eqPieceS.l0e (x0 : List (S133)) (x1 : List (S133)) (x5 : Int) : laws_eqPieceS.l0g x0 x1 x5 = (if x5 < (x0.length : Int) then (if 0 ≤ x5 then (if x5 < (x1.length : Int) then ((laws_eqPiece.f ((rd_T133 x0 x5).f0) ((rd_T133 x0 x5).f1) ((rd_T133 x1 x5).f0) ((rd_T133 x1 x5).f1)).bind fun t486 => (if t486 = true then (laws_eqPieceS.l0g x0 x1 (wrap64 (x5 + 1))) else (some false))) else (none)) else (none)) else (some true)) := by
  refine Lim.round (laws_eqPieceS.l0L x0 x1 x5) ?_
  show Lim (fun k => if x5 < (x0.length : Int) then (if 0 ≤ x5 then (if x5 < (x1.length : Int) then ((laws_eqPiece.f ((rd_T133 x0 x5).f0) ((rd_T133 x0 x5).f1) ((rd_T133 x1 x5).f0) ((rd_T133 x1 x5).f1)).bind fun t486 => (if t486 = true then (laws_eqPieceS.l0 k x0 x1 (wrap64 (x5 + 1))) else (some false))) else (none)) else (none)) else (some true)) _
  repeat' first | (with_reducible exact Lim.const _) | (with_reducible exact laws_eqPieceS.l0L _ _ _) | (with_reducible refine Lim.ite ?_ ?_) | (with_reducible refine Lim.bind ?_ (fun _ => ?_)) | exact Lim.const _ | refine Lim.ite ?_ ?_ | refine Lim.bind ?_ (fun _ => ?_) | exact laws_eqPieceS.l0L _ _ _
noncomputable def laws_eqPieceS.g (l0 : List (S133)) (l1 : List (S133)) : Option (Bool) := lim (fun k => laws_eqPieceS.f k l0 l1)
theorem laws_eqPieceS.L (l0 : List (S133)) (l1 : List (S133)) : Lim (fun k => laws_eqPieceS.f k l0 l1) (laws_eqPieceS.g l0 l1) := Lim.of (fun k => laws_eqPieceS.mono l0 l1 k)
theorem laws_eqPieceS.ge (l0 : List (S133)) (l1 : List (S133)) : laws_eqPieceS.g l0 l1 = (if (l0.length : Int) = (l1.length : Int) then (laws_eqPieceS.l0g l0 l1 0) else (some false)) := by
  refine Lim.uniq (laws_eqPieceS.L l0 l1) ?_
  show Lim (fun k => if (l0.length : Int) = (l1.length : Int) then (laws_eqPieceS.l0 k l0 l1 0) else (some false)) _
  repeat' first | (with_reducible exact Lim.const _) | (with_reducible exact laws_eqPieceS.l0L _ _ _) | (with_reducible refine Lim.ite ?_ ?_) | (with_reducible refine Lim.bind ?_ (fun _ => ?_)) | exact Lim.const _ | refine Lim.ite ?_ ?_ | refine Lim.bind ?_ (fun _ => ?_) | exact laws_eqPieceS.l0L _ _ _
end Go.Proofs.Ytelmcjohkifeeaa.PA

namespace Go.Proofs.Ytelmcjohkifeeaa.PA
open Go.RowKit Go.Proofs.YtelmcjohkifeeaaW.PrintWords Go.Proofs.YtelmcjohkifeeaaW.PrintLast Go.Proofs.YtelmcjohkifeeaaW.PrintMore Go.Proofs.Ytelmcjohkifeeaa.Base Go.Proofs.Ytelmcjohkifeeaa.Lim
set_option linter.unusedVariables false
set_option linter.unusedSimpArgs false

def Bd150 (x : S150) : Prop := (Lit.int .i64 x.f0).wf = true ∧ x.f1.size ≤ 140737488351232
def wt_Piece (x : S150) : Nat := x.f1.size
def conv_Piece (x : S150) : S133 := ⟨x.f0, x.f1⟩
theorem sz_Piece (a0 : Int) (a1 : ByteArray) (left : Int) (h1 : a1.size ≤ 140737488351232) (hl : 0 ≤ left) (hm : left ≤ 4611686018427387904) : laws_szPiece.f a0 a1 left = some (sub left (a1.size)) := by
  unfold laws_szPiece.f
  rw [w64 (x := left - (a1.size : Int)) (by omega) (by omega)]
  by_cases c0 : left - (a1.size : Int) < 0
  · rw [if_pos c0]; exact sub_neg (by omega)
  rw [if_neg c0]
  all_goals (refine congrArg some ?_; first | (rw [sub_ge (by omega)]; done) | (rw [sub_ge (by omega)]; omega))
theorem to_Piece (a0 : Int) (a1 : ByteArray)  : laws_toPiece.f a0 a1 = some (a0, a1) := by
  rfl
theorem eq_Piece (a0 : Int) (a1 : ByteArray)  : laws_eqPiece.f a0 a1 a0 a1 = some true := by
  unfold laws_eqPiece.f
  simp
def wtS_Piece : List S150 → Nat := fun l => l.length + (l.map wt_Piece).sum
theorem szS_Piece (l : List S150) (left : Int) (h : l.length * 24 ≤ 140737488351232 ∧ l.length ≤ maxLen ∧ ∀ y ∈ l, Bd150 y) (hl : 0 ≤ left) (hm : left ≤ 4611686018427387904) : laws_szPieceS.g l left = some (sub left (wtS_Piece l)) := by
  obtain ⟨h1, h2, h3⟩ := h
  have hn : Sm l.length := by unfold Sm; omega
  rw [laws_szPieceS.ge, w64 (by omega) (by omega)]
  unfold wtS_Piece
  by_cases c : left - (l.length : Int) < 0
  · rw [if_pos c]; exact sub_neg (by omega)
  rw [if_neg c]
  have key := loopP (l := l) (fun s i => laws_szPieceS.l0g l s i) (fun s r => some (sub s ((r.map wt_Piece).sum))) (fun s => 0 ≤ s ∧ s ≤ 4611686018427387904) ?_ ?_ (left - (l.length : Int)) ⟨by omega, by omega⟩
  · rw [key, sub_add (by omega)]
  · rintro s ⟨hs0, hs1⟩
    rw [laws_szPieceS.l0e, if_neg not_lt_len]
    simp [sub, hs0]
  · rintro i x r hi hx ih s ⟨hs0, hs1⟩
    have hb := h3 x (List.mem_of_getElem? hx)
    rw [laws_szPieceS.l0e, if_pos (nat_lt_len hi), if_pos (nat_nonneg i), w64_succ hi hn]
    simp only [rd_T150, getD_x hx]
    rw [sz_Piece x.f0 x.f1 s hb.2 hs0 hs1, Option.bind_some]
    rw [List.map_cons, List.sum_cons]
    show (if sub s (wt_Piece x) < 0 then some (-1) else laws_szPieceS.l0g l (sub s (wt_Piece x)) _) = _
    by_cases c2 : s < ((wt_Piece x : Nat) : Int)
    · rw [if_pos (sub_lt c2)]; exact sub_neg (by omega)
    rw [if_neg (sub_nlt hs0 c2), sub_ge c2, ih _ ⟨by omega, by omega⟩]; exact sub_step (by omega)
theorem toS_Piece (l : List S150) (h : l.length * 24 ≤ 140737488351232 ∧ l.length ≤ maxLen ∧ ∀ y ∈ l, Bd150 y) : laws_toPieceS.g l = some (l.map conv_Piece) := by
  obtain ⟨h1, h2, h3⟩ := h
  have key : ∀ i, i ≤ l.length → laws_toPieceS.l0g l ((l.take i).map conv_Piece ++ List.replicate (l.length - i) z133) (i : Int) = some (l.map conv_Piece) := by
    refine down ?_ ?_
    · rw [laws_toPieceS.l0e, if_neg not_lt_len]
      simp
    · intro i hi ih
      have hb := h3 l[i] (List.getElem_mem hi)
      rw [laws_toPieceS.l0e, if_pos (nat_lt_len hi), if_pos (nat_nonneg i)]
      simp only [rd_T150, Int.toNat_natCast, getD_at hi]
      rw [to_Piece l[i].f0 l[i].f1 , Option.bind_some, if_pos (by simp; omega), w64_succ hi (by unfold Sm; omega)]
      have e := copied conv_Piece z133 l i hi
      rw [← e] at ih
      exact ih
  rw [laws_toPieceS.ge, if_pos (by omega), if_pos (by rw [Int.toNat_natCast]; omega)]
  have := key 0 (by omega)
  simpa using this
theorem eqS_Piece (l : List S133) (h : Sm l.length) : laws_eqPieceS.g l l = some true := by
  have hn := h
  rw [laws_eqPieceS.ge, if_pos rfl]
  refine loop1 (l := l) (fun i => laws_eqPieceS.l0g l l i) (fun _ => some true) ?_ ?_
  · rw [laws_eqPieceS.l0e, if_neg not_lt_len]
  · intro i x r hi hx ih
    rw [laws_eqPieceS.l0e, if_pos (nat_lt_len hi), if_pos (nat_nonneg i), if_pos (nat_lt_len hi), w64_succ hi hn, ih]
    simp only [rd_T133, getD_x hx]
    rw [eq_Piece x.f0 x.f1 , Option.bind_some, if_pos rfl]
end Go.Proofs.Ytelmcjohkifeeaa.PA

namespace Go.Proofs.Ytelmcjohkifeeaa.PA
open Go.RowKit Go.Proofs.YtelmcjohkifeeaaW.PrintWords Go.Proofs.YtelmcjohkifeeaaW.PrintLast Go.Proofs.YtelmcjohkifeeaaW.PrintMore Go.Proofs.Ytelmcjohkifeeaa.Lim
set_option linter.unusedVariables false
set_option linter.unusedSimpArgs false
noncomputable def laws_szEntry.g (a0_0 : ByteArray) (l0_1 : List (S145)) (a0_2 : Int) (l0_3 : List (S145)) (a0_4 : ByteArray) (l0_5 : List (S150)) (a0_6 : Int) (a0_7 : Int) (a0_8 : Int) (a0_9 : Int) (a1 : Int) : Option (Int) := lim (fun k => laws_szEntry.f k a0_0 l0_1 a0_2 l0_3 a0_4 l0_5 a0_6 a0_7 a0_8 a0_9 a1)
theorem laws_szEntry.L (a0_0 : ByteArray) (l0_1 : List (S145)) (a0_2 : Int) (l0_3 : List (S145)) (a0_4 : ByteArray) (l0_5 : List (S150)) (a0_6 : Int) (a0_7 : Int) (a0_8 : Int) (a0_9 : Int) (a1 : Int) : Lim (fun k => laws_szEntry.f k a0_0 l0_1 a0_2 l0_3 a0_4 l0_5 a0_6 a0_7 a0_8 a0_9 a1) (laws_szEntry.g a0_0 l0_1 a0_2 l0_3 a0_4 l0_5 a0_6 a0_7 a0_8 a0_9 a1) := Lim.of (fun k => laws_szEntry.mono a0_0 l0_1 a0_2 l0_3 a0_4 l0_5 a0_6 a0_7 a0_8 a0_9 a1 k)
theorem laws_szEntry.ge (a0_0 : ByteArray) (l0_1 : List (S145)) (a0_2 : Int) (l0_3 : List (S145)) (a0_4 : ByteArray) (l0_5 : List (S150)) (a0_6 : Int) (a0_7 : Int) (a0_8 : Int) (a0_9 : Int) (a1 : Int) : laws_szEntry.g a0_0 l0_1 a0_2 l0_3 a0_4 l0_5 a0_6 a0_7 a0_8 a0_9 a1 = (if (wrap64 (a1 - (a0_0.size : Int))) < 0 then (some (-1)) else ((laws_szFieldS.g l0_1 (wrap64 (a1 - (a0_0.size : Int)))).bind fun t447 => (if t447 < 0 then (some (-1)) else ((laws_szResponse.g a0_2 l0_3 a0_4 t447).bind fun t448 => (if t448 < 0 then (some (-1)) else ((laws_szPieceS.g l0_5 t448).bind fun t449 => (if t449 < 0 then (some (-1)) else (some t449)))))))) := by
  refine Lim.uniq (laws_szEntry.L a0_0 l0_1 a0_2 l0_3 a0_4 l0_5 a0_6 a0_7 a0_8 a0_9 a1) ?_
  show Lim (fun k => if (wrap64 (a1 - (a0_0.size : Int))) < 0 then (some (-1)) else ((laws_szFieldS.f k l0_1 (wrap64 (a1 - (a0_0.size : Int)))).bind fun t447 => (if t447 < 0 then (some (-1)) else ((laws_szResponse.f k a0_2 l0_3 a0_4 t447).bind fun t448 => (if t448 < 0 then (some (-1)) else ((laws_szPieceS.f k l0_5 t448).bind fun t449 => (if t449 < 0 then (some (-1)) else (some t449)))))))) _
  repeat' first | (with_reducible exact Lim.const _) | (with_reducible exact laws_szFieldS.L _ _) | (with_reducible exact laws_szResponse.L _ _ _ _) | (with_reducible exact laws_szPieceS.L _ _) | (with_reducible refine Lim.ite ?_ ?_) | (with_reducible refine Lim.bind ?_ (fun _ => ?_)) | exact Lim.const _ | refine Lim.ite ?_ ?_ | refine Lim.bind ?_ (fun _ => ?_) | exact laws_szFieldS.L _ _ | exact laws_szResponse.L _ _ _ _ | exact laws_szPieceS.L _ _
end Go.Proofs.Ytelmcjohkifeeaa.PA

namespace Go.Proofs.Ytelmcjohkifeeaa.PA
open Go.RowKit Go.Proofs.YtelmcjohkifeeaaW.PrintWords Go.Proofs.YtelmcjohkifeeaaW.PrintLast Go.Proofs.YtelmcjohkifeeaaW.PrintMore Go.Proofs.Ytelmcjohkifeeaa.Lim
set_option linter.unusedVariables false
set_option linter.unusedSimpArgs false
noncomputable def laws_szEntryS.l0g (y0 : List (S61)) (y1 : Int) (y2 : Int) : Option (Int) := lim (fun k => laws_szEntryS.l0 k y0 y1 y2)
theorem laws_szEntryS.l0L (y0 : List (S61)) (y1 : Int) (y2 : Int) : Lim (fun k => laws_szEntryS.l0 k y0 y1 y2) (laws_szEntryS.l0g y0 y1 y2) := Lim.of (fun k => (laws_szEntryS.mono_l k) y0 y1 y2)
theorem laws_szEntryS.l0e (x0 : List (S61)) (x1 : Int) (x5 : Int) : laws_szEntryS.l0g x0 x1 x5 = (if x5 < (x0.length : Int) then (if 0 ≤ x5 then ((laws_szEntry.g ((rd_T61 x0 x5).f0) ((rd_T61 x0 x5).f1) ((rd_T61 x0 x5).f2.f0) ((rd_T61 x0 x5).f2.f1) ((rd_T61 x0 x5).f2.f2) ((rd_T61 x0 x5).f3) ((rd_T61 x0 x5).f4) ((rd_T61 x0 x5).f5) ((rd_T61 x0 x5).f6) ((rd_T61 x0 x5).f7) x1).bind fun t635 => (if t635 < 0 then (some (-1)) else (laws_szEntryS.l0g x0 t635 (wrap64 (x5 + 1))))) else (none)) else (some x1)) := by
  refine Lim.round (laws_szEntryS.l0L x0 x1 x5) ?_
  show Lim (fun k => if x5 < (x0.length : Int) then (if 0 ≤ x5 then ((laws_szEntry.f k ((rd_T61 x0 x5).f0) ((rd_T61 x0 x5).f1) ((rd_T61 x0 x5).f2.f0) ((rd_T61 x0 x5).f2.f1) ((rd_T61 x0 x5).f2.f2) ((rd_T61 x0 x5).f3) ((rd_T61 x0 x5).f4) ((rd_T61 x0 x5).f5) ((rd_T61 x0 x5).f6) ((rd_T61 x0 x5).f7) x1).bind fun t635 => (if t635 < 0 then (some (-1)) else (laws_szEntryS.l0 k x0 t635 (wrap64 (x5 + 1))))) else (none)) else (some x1)) _
  repeat' first | (with_reducible exact Lim.const _) | (with_reducible exact laws_szEntryS.l0L _ _ _) | (with_reducible exact laws_szEntry.L _ _ _ _ _ _ _ _ _ _ _) | (with_reducible refine Lim.ite ?_ ?_) | (with_reducible refine Lim.bind ?_ (fun _ => ?_)) | exact Lim.const _ | refine Lim.ite ?_ ?_ | refine Lim.bind ?_ (fun _ => ?_) | exact laws_szEntryS.l0L _ _ _ | exact laws_szEntry.L _ _ _ _ _ _ _ _ _ _ _
noncomputable def laws_szEntryS.g (l0 : List (S61)) (a1 : Int) : Option (Int) := lim (fun k => laws_szEntryS.f k l0 a1)
theorem laws_szEntryS.L (l0 : List (S61)) (a1 : Int) : Lim (fun k => laws_szEntryS.f k l0 a1) (laws_szEntryS.g l0 a1) := Lim.of (fun k => laws_szEntryS.mono l0 a1 k)
theorem laws_szEntryS.ge (l0 : List (S61)) (a1 : Int) : laws_szEntryS.g l0 a1 = (if (wrap64 (a1 - (l0.length : Int))) < 0 then (some (-1)) else (laws_szEntryS.l0g l0 (wrap64 (a1 - (l0.length : Int))) 0)) := by
  refine Lim.uniq (laws_szEntryS.L l0 a1) ?_
  show Lim (fun k => if (wrap64 (a1 - (l0.length : Int))) < 0 then (some (-1)) else (laws_szEntryS.l0 k l0 (wrap64 (a1 - (l0.length : Int))) 0)) _
  repeat' first | (with_reducible exact Lim.const _) | (with_reducible exact laws_szEntryS.l0L _ _ _) | (with_reducible exact laws_szEntry.L _ _ _ _ _ _ _ _ _ _ _) | (with_reducible refine Lim.ite ?_ ?_) | (with_reducible refine Lim.bind ?_ (fun _ => ?_)) | exact Lim.const _ | refine Lim.ite ?_ ?_ | refine Lim.bind ?_ (fun _ => ?_) | exact laws_szEntryS.l0L _ _ _ | exact laws_szEntry.L _ _ _ _ _ _ _ _ _ _ _
end Go.Proofs.Ytelmcjohkifeeaa.PA

namespace Go.Proofs.Ytelmcjohkifeeaa.PA
open Go.RowKit Go.Proofs.YtelmcjohkifeeaaW.PrintWords Go.Proofs.YtelmcjohkifeeaaW.PrintLast Go.Proofs.YtelmcjohkifeeaaW.PrintMore Go.Proofs.Ytelmcjohkifeeaa.Lim
set_option linter.unusedVariables false
set_option linter.unusedSimpArgs false
noncomputable def laws_toEntry.g (a0_0 : ByteArray) (l0_1 : List (S145)) (a0_2 : Int) (l0_3 : List (S145)) (a0_4 : ByteArray) (l0_5 : List (S150)) (a0_6 : Int) (a0_7 : Int) (a0_8 : Int) (a0_9 : Int) : Option (ByteArray × (List (S146)) × Int × (List (S146)) × ByteArray × (List (S133)) × Int × Int × Int × Int) := lim (fun k => laws_toEntry.f k a0_0 l0_1 a0_2 l0_3 a0_4 l0_5 a0_6 a0_7 a0_8 a0_9)
theorem laws_toEntry.L (a0_0 : ByteArray) (l0_1 : List (S145)) (a0_2 : Int) (l0_3 : List (S145)) (a0_4 : ByteArray) (l0_5 : List (S150)) (a0_6 : Int) (a0_7 : Int) (a0_8 : Int) (a0_9 : Int) : Lim (fun k => laws_toEntry.f k a0_0 l0_1 a0_2 l0_3 a0_4 l0_5 a0_6 a0_7 a0_8 a0_9) (laws_toEntry.g a0_0 l0_1 a0_2 l0_3 a0_4 l0_5 a0_6 a0_7 a0_8 a0_9) := Lim.of (fun k => laws_toEntry.mono a0_0 l0_1 a0_2 l0_3 a0_4 l0_5 a0_6 a0_7 a0_8 a0_9 k)
theorem laws_toEntry.ge (a0_0 : ByteArray) (l0_1 : List (S145)) (a0_2 : Int) (l0_3 : List (S145)) (a0_4 : ByteArray) (l0_5 : List (S150)) (a0_6 : Int) (a0_7 : Int) (a0_8 : Int) (a0_9 : Int) : laws_toEntry.g a0_0 l0_1 a0_2 l0_3 a0_4 l0_5 a0_6 a0_7 a0_8 a0_9 = ((laws_toFieldS.g l0_1).bind fun t469 => ((laws_toResponse.g a0_2 l0_3 a0_4).bind fun bt472 => ((laws_toPieceS.g l0_5).bind fun t477 => (some (a0_0, t469, bt472.1, bt472.2.1, bt472.2.2, t477, a0_6, a0_7, a0_8, a0_9))))) := by
  refine Lim.uniq (laws_toEntry.L a0_0 l0_1 a0_2 l0_3 a0_4 l0_5 a0_6 a0_7 a0_8 a0_9) ?_
  show Lim (fun k => (laws_toFieldS.f k l0_1).bind fun t469 => ((laws_toResponse.f k a0_2 l0_3 a0_4).bind fun bt472 => ((laws_toPieceS.f k l0_5).bind fun t477 => (some (a0_0, t469, bt472.1, bt472.2.1, bt472.2.2, t477, a0_6, a0_7, a0_8, a0_9))))) _
  repeat' first | (with_reducible exact Lim.const _) | (with_reducible exact laws_toFieldS.L _) | (with_reducible exact laws_toResponse.L _ _ _) | (with_reducible exact laws_toPieceS.L _) | (with_reducible refine Lim.ite ?_ ?_) | (with_reducible refine Lim.bind ?_ (fun _ => ?_)) | exact Lim.const _ | refine Lim.ite ?_ ?_ | refine Lim.bind ?_ (fun _ => ?_) | exact laws_toFieldS.L _ | exact laws_toResponse.L _ _ _ | exact laws_toPieceS.L _
end Go.Proofs.Ytelmcjohkifeeaa.PA

namespace Go.Proofs.Ytelmcjohkifeeaa.PA
open Go.RowKit Go.Proofs.YtelmcjohkifeeaaW.PrintWords Go.Proofs.YtelmcjohkifeeaaW.PrintLast Go.Proofs.YtelmcjohkifeeaaW.PrintMore Go.Proofs.Ytelmcjohkifeeaa.Lim
set_option linter.unusedVariables false
set_option linter.unusedSimpArgs false
noncomputable def laws_toEntryS.l0g (y0 : List (S61)) (y1 : List (S66)) (y2 : Int) : Option ((List (S66))) := lim (fun k => laws_toEntryS.l0 k y0 y1 y2)
theorem laws_toEntryS.l0L (y0 : List (S61)) (y1 : List (S66)) (y2 : Int) : Lim (fun k => laws_toEntryS.l0 k y0 y1 y2) (laws_toEntryS.l0g y0 y1 y2) := Lim.of (fun k => (laws_toEntryS.mono_l k) y0 y1 y2)
theorem laws_toEntryS.l0e (x0 : List (S61)) (x3 : List (S66)) (x4 : Int) : laws_toEntryS.l0g x0 x3 x4 = (if x4 < (x0.length : Int) then (if 0 ≤ x4 then ((laws_toEntry.g ((rd_T61 x0 x4).f0) ((rd_T61 x0 x4).f1) ((rd_T61 x0 x4).f2.f0) ((rd_T61 x0 x4).f2.f1) ((rd_T61 x0 x4).f2.f2) ((rd_T61 x0 x4).f3) ((rd_T61 x0 x4).f4) ((rd_T61 x0 x4).f5) ((rd_T61 x0 x4).f6) ((rd_T61 x0 x4).f7)).bind fun bt659 => (if x4 < (x3.length : Int) then (laws_toEntryS.l0g x0 (x3.set (x4 : Int).toNat (⟨bt659.1, bt659.2.1, (⟨bt659.2.2.1, bt659.2.2.2.1, bt659.2.2.2.2.1⟩ : S51), bt659.2.2.2.2.2.1, bt659.2.2.2.2.2.2.1, bt659.2.2.2.2.2.2.2.1, bt659.2.2.2.2.2.2.2.2.1, bt659.2.2.2.2.2.2.2.2.2⟩ : S66)) (wrap64 (x4 + 1))) else (none))) else (none)) else (some x3)) := by
  refine Lim.round (laws_toEntryS.l0L x0 x3 x4) ?_
  show Lim (fun k => if x4 < (x0.length : Int) then (if 0 ≤ x4 then ((laws_toEntry.f k ((rd_T61 x0 x4).f0) ((rd_T61 x0 x4).f1) ((rd_T61 x0 x4).f2.f0) ((rd_T61 x0 x4).f2.f1) ((rd_T61 x0 x4).f2.f2) ((rd_T61 x0 x4).f3) ((rd_T61 x0 x4).f4) ((rd_T61 x0 x4).f5) ((rd_T61 x0 x4).f6) ((rd_T61 x0 x4).f7)).bind fun bt659 => (if x4 < (x3.length : Int) then (laws_toEntryS.l0 k x0 (x3.set (x4 : Int).toNat (⟨bt659.1, bt659.2.1, (⟨bt659.2.2.1, bt659.2.2.2.1, bt659.2.2.2.2.1⟩ : S51), bt659.2.2.2.2.2.1, bt659.2.2.2.2.2.2.1, bt659.2.2.2.2.2.2.2.1, bt659.2.2.2.2.2.2.2.2.1, bt659.2.2.2.2.2.2.2.2.2⟩ : S66)) (wrap64 (x4 + 1))) else (none))) else (none)) else (some x3)) _
  repeat' first | (with_reducible exact Lim.const _) | (with_reducible exact laws_toEntryS.l0L _ _ _) | (with_reducible exact laws_toEntry.L _ _ _ _ _ _ _ _ _ _) | (with_reducible refine Lim.ite ?_ ?_) | (with_reducible refine Lim.bind ?_ (fun _ => ?_)) | exact Lim.const _ | refine Lim.ite ?_ ?_ | refine Lim.bind ?_ (fun _ => ?_) | exact laws_toEntryS.l0L _ _ _ | exact laws_toEntry.L _ _ _ _ _ _ _ _ _ _
noncomputable def laws_toEntryS.g (l0 : List (S61)) : Option ((List (S66))) := lim (fun k => laws_toEntryS.f k l0)
theorem laws_toEntryS.L (l0 : List (S61)) : Lim (fun k => laws_toEntryS.f k l0) (laws_toEntryS.g l0) := Lim.of (fun k => laws_toEntryS.mono l0 k)
theorem laws_toEntryS.ge (l0 : List (S61)) : laws_toEntryS.g l0 = (if 0 ≤ (l0.length : Int) then (if ((l0.length : Int) : Int).toNat ≤ 1954687338268 then (laws_toEntryS.l0g l0 (List.replicate ((l0.length : Int) : Int).toNat z66) 0) else (none)) else (none)) := by
  refine Lim.uniq (laws_toEntryS.L l0) ?_
  show Lim (fun k => if 0 ≤ (l0.length : Int) then (if ((l0.length : Int) : Int).toNat ≤ 1954687338268 then (laws_toEntryS.l0 k l0 (List.replicate ((l0.length : Int) : Int).toNat z66) 0) else (none)) else (none)) _
  repeat' first | (with_reducible exact Lim.const _) | (with_reducible exact laws_toEntryS.l0L _ _ _) | (with_reducible exact laws_toEntry.L _ _ _ _ _ _ _ _ _ _) | (with_reducible refine Lim.ite ?_ ?_) | (with_reducible refine Lim.bind ?_ (fun _ => ?_)) | exact Lim.const _ | refine Lim.ite ?_ ?_ | refine Lim.bind ?_ (fun _ => ?_) | exact laws_toEntryS.l0L _ _ _ | exact laws_toEntry.L _ _ _ _ _ _ _ _ _ _
end Go.Proofs.Ytelmcjohkifeeaa.PA

namespace Go.Proofs.Ytelmcjohkifeeaa.PA
open Go.RowKit Go.Proofs.YtelmcjohkifeeaaW.PrintWords Go.Proofs.YtelmcjohkifeeaaW.PrintLast Go.Proofs.YtelmcjohkifeeaaW.PrintMore Go.Proofs.Ytelmcjohkifeeaa.Lim
set_option linter.unusedVariables false
set_option linter.unusedSimpArgs false
noncomputable def laws_eqEntry.g (a0_0 : ByteArray) (l0_1 : List (S146)) (a0_2 : Int) (l0_3 : List (S146)) (a0_4 : ByteArray) (l0_5 : List (S133)) (a0_6 : Int) (a0_7 : Int) (a0_8 : Int) (a0_9 : Int) (a1_0 : ByteArray) (l1_1 : List (S146)) (a1_2 : Int) (l1_3 : List (S146)) (a1_4 : ByteArray) (l1_5 : List (S133)) (a1_6 : Int) (a1_7 : Int) (a1_8 : Int) (a1_9 : Int) : Option (Bool) := lim (fun k => laws_eqEntry.f k a0_0 l0_1 a0_2 l0_3 a0_4 l0_5 a0_6 a0_7 a0_8 a0_9 a1_0 l1_1 a1_2 l1_3 a1_4 l1_5 a1_6 a1_7 a1_8 a1_9)
theorem laws_eqEntry.L (a0_0 : ByteArray) (l0_1 : List (S146)) (a0_2 : Int) (l0_3 : List (S146)) (a0_4 : ByteArray) (l0_5 : List (S133)) (a0_6 : Int) (a0_7 : Int) (a0_8 : Int) (a0_9 : Int) (a1_0 : ByteArray) (l1_1 : List (S146)) (a1_2 : Int) (l1_3 : List (S146)) (a1_4 : ByteArray) (l1_5 : List (S133)) (a1_6 : Int) (a1_7 : Int) (a1_8 : Int) (a1_9 : Int) : Lim (fun k => laws_eqEntry.f k a0_0 l0_1 a0_2 l0_3 a0_4 l0_5 a0_6 a0_7 a0_8 a0_9 a1_0 l1_1 a1_2 l1_3 a1_4 l1_5 a1_6 a1_7 a1_8 a1_9) (laws_eqEntry.g a0_0 l0_1 a0_2 l0_3 a0_4 l0_5 a0_6 a0_7 a0_8 a0_9 a1_0 l1_1 a1_2 l1_3 a1_4 l1_5 a1_6 a1_7 a1_8 a1_9) := Lim.of (fun k => laws_eqEntry.mono a0_0 l0_1 a0_2 l0_3 a0_4 l0_5 a0_6 a0_7 a0_8 a0_9 a1_0 l1_1 a1_2 l1_3 a1_4 l1_5 a1_6 a1_7 a1_8 a1_9 k)
theorem laws_eqEntry.ge (a0_0 : ByteArray) (l0_1 : List (S146)) (a0_2 : Int) (l0_3 : List (S146)) (a0_4 : ByteArray) (l0_5 : List (S133)) (a0_6 : Int) (a0_7 : Int) (a0_8 : Int) (a0_9 : Int) (a1_0 : ByteArray) (l1_1 : List (S146)) (a1_2 : Int) (l1_3 : List (S146)) (a1_4 : ByteArray) (l1_5 : List (S133)) (a1_6 : Int) (a1_7 : Int) (a1_8 : Int) (a1_9 : Int) : laws_eqEntry.g a0_0 l0_1 a0_2 l0_3 a0_4 l0_5 a0_6 a0_7 a0_8 a0_9 a1_0 l1_1 a1_2 l1_3 a1_4 l1_5 a1_6 a1_7 a1_8 a1_9 = (if a0_0.toList = a1_0.toList then ((laws_eqFieldS.g l0_1 l1_1).bind fun t489 => (if t489 = true then ((laws_eqResponse.g a0_2 l0_3 a0_4 a1_2 l1_3 a1_4).bind fun t490 => (if t490 = true then ((laws_eqPieceS.g l0_5 l1_5).bind fun t491 => (if t491 = true then (if a0_6 = a1_6 then (if a0_7 = a1_7 then (if a0_8 = a1_8 then (if a0_9 = a1_9 then (some true) else (some false)) else (some false)) else (some false)) else (some false)) else (some false))) else (some false))) else (some false))) else (some false)) := by
  refine Lim.uniq (laws_eqEntry.L a0_0 l0_1 a0_2 l0_3 a0_4 l0_5 a0_6 a0_7 a0_8 a0_9 a1_0 l1_1 a1_2 l1_3 a1_4 l1_5 a1_6 a1_7 a1_8 a1_9) ?_
  show Lim (fun k => if a0_0.toList = a1_0.toList then ((laws_eqFieldS.f k l0_1 l1_1).bind fun t489 => (if t489 = true then ((laws_eqResponse.f k a0_2 l0_3 a0_4 a1_2 l1_3 a1_4).bind fun t490 => (if t490 = true then ((laws_eqPieceS.f k l0_5 l1_5).bind fun t491 => (if t491 = true then (if a0_6 = a1_6 then (if a0_7 = a1_7 then (if a0_8 = a1_8 then (if a0_9 = a1_9 then (some true) else (some false)) else (some false)) else (some false)) else (some false)) else (some false))) else (some false))) else (some false))) else (some false)) _
  repeat' first | (with_reducible exact Lim.const _) | (with_reducible exact laws_eqFieldS.L _ _) | (with_reducible exact laws_eqResponse.L _ _ _ _ _ _) | (with_reducible exact laws_eqPieceS.L _ _) | (with_reducible refine Lim.ite ?_ ?_) | (with_reducible refine Lim.bind ?_ (fun _ => ?_)) | exact Lim.const _ | refine Lim.ite ?_ ?_ | refine Lim.bind ?_ (fun _ => ?_) | exact laws_eqFieldS.L _ _ | exact laws_eqResponse.L _ _ _ _ _ _ | exact laws_eqPieceS.L _ _
end Go.Proofs.Ytelmcjohkifeeaa.PA

namespace Go.Proofs.Ytelmcjohkifeeaa.PA
open Go.RowKit Go.Proofs.YtelmcjohkifeeaaW.PrintWords Go.Proofs.YtelmcjohkifeeaaW.PrintLast Go.Proofs.YtelmcjohkifeeaaW.PrintMore Go.Proofs.Ytelmcjohkifeeaa.Lim
set_option linter.unusedVariables false
set_option linter.unusedSimpArgs false
noncomputable def laws_eqEntryS.l0g (y0 : List (S66)) (y1 : List (S66)) (y2 : Int) : Option (Bool) := lim (fun k => laws_eqEntryS.l0 k y0 y1 y2)
theorem laws_eqEntryS.l0L (y0 : List (S66)) (y1 : List (S66)) (y2 : Int) : Lim (fun k => laws_eqEntryS.l0 k y0 y1 y2) (laws_eqEntryS.l0g y0 y1 y2) := Lim.of (fun k => (laws_eqEntryS.mono_l k) y0 y1 y2)
theorem laws_eqEntryS.l0e (x0 : List (S66)) (x1 : List (S66)) (x5 : Int) : laws_eqEntryS.l0g x0 x1 x5 = (if x5 < (x0.length : Int) then (if 0 ≤ x5 then (if x5 < (x1.length : Int) then ((laws_eqEntry.g ((rd_T66 x0 x5).f0) ((rd_T66 x0 x5).f1) ((rd_T66 x0 x5).f2.f0) ((rd_T66 x0 x5).f2.f1) ((rd_T66 x0 x5).f2.f2) ((rd_T66 x0 x5).f3) ((rd_T66 x0 x5).f4) ((rd_T66 x0 x5).f5) ((rd_T66 x0 x5).f6) ((rd_T66 x0 x5).f7) ((rd_T66 x1 x5).f0) ((rd_T66 x1 x5).f1) ((rd_T66 x1 x5).f2.f0) ((rd_T66 x1 x5).f2.f1) ((rd_T66 x1 x5).f2.f2) ((rd_T66 x1 x5).f3) ((rd_T66 x1 x5).f4) ((rd_T66 x1 x5).f5) ((rd_T66 x1 x5).f6) ((rd_T66 x1 x5).f7)).bind fun t689 => (if t689 = true then (laws_eqEntryS.l0g x0 x1 (wrap64 (x5 + 1))) else (some false))) else (none)) else (none)) else (some true)) := by
  refine Lim.round (laws_eqEntryS.l0L x0 x1 x5) ?_
  show Lim (fun k => if x5 < (x0.length : Int) then (if 0 ≤ x5 then (if x5 < (x1.length : Int) then ((laws_eqEntry.f k ((rd_T66 x0 x5).f0) ((rd_T66 x0 x5).f1) ((rd_T66 x0 x5).f2.f0) ((rd_T66 x0 x5).f2.f1) ((rd_T66 x0 x5).f2.f2) ((rd_T66 x0 x5).f3) ((rd_T66 x0 x5).f4) ((rd_T66 x0 x5).f5) ((rd_T66 x0 x5).f6) ((rd_T66 x0 x5).f7) ((rd_T66 x1 x5).f0) ((rd_T66 x1 x5).f1) ((rd_T66 x1 x5).f2.f0) ((rd_T66 x1 x5).f2.f1) ((rd_T66 x1 x5).f2.f2) ((rd_T66 x1 x5).f3) ((rd_T66 x1 x5).f4) ((rd_T66 x1 x5).f5) ((rd_T66 x1 x5).f6) ((rd_T66 x1 x5).f7)).bind fun t689 => (if t689 = true then (laws_eqEntryS.l0 k x0 x1 (wrap64 (x5 + 1))) else (some false))) else (none)) else (none)) else (some true)) _
  repeat' first | (with_reducible exact Lim.const _) | (with_reducible exact laws_eqEntryS.l0L _ _ _) | (with_reducible exact laws_eqEntry.L _ _ _ _ _ _ _ _ _ _ _ _ _ _ _ _ _ _ _ _) | (with_reducible refine Lim.ite ?_ ?_) | (with_reducible refine Lim.bind ?_ (fun _ => ?_)) | exact Lim.const _ | refine Lim.ite ?_ ?_ | refine Lim.bind ?_ (fun _ => ?_) | exact laws_eqEntryS.l0L _ _ _ | exact laws_eqEntry.L _ _ _ _ _ _ _ _ _ _ _ _ _ _ _ _ _ _ _ _
noncomputable def laws_eqEntryS.g (l0 : List (S66)) (l1 : List (S66)) : Option (Bool) := lim (fun k => laws_eqEntryS.f k l0 l1)
theorem laws_eqEntryS.L (l0 : List (S66)) (l1 : List (S66)) : Lim (fun k => laws_eqEntryS.f k l0 l1) (laws_eqEntryS.g l0 l1) := Lim.of (fun k => laws_eqEntryS.mono l0 l1 k)
theorem laws_eqEntryS.ge (l0 : List (S66)) (l1 : List (S66)) : laws_eqEntryS.g l0 l1 = (if (l0.length : Int) = (l1.length : Int) then (laws_eqEntryS.l0g l0 l1 0) else (some false)) := by
  refine Lim.uniq (laws_eqEntryS.L l0 l1) ?_
  show Lim (fun k => if (l0.length : Int) = (l1.length : Int) then (laws_eqEntryS.l0 k l0 l1 0) else (some false)) _
  repeat' first | (with_reducible exact Lim.const _) | (with_reducible exact laws_eqEntryS.l0L _ _ _) | (with_reducible exact laws_eqEntry.L _ _ _ _ _ _ _ _ _ _ _ _ _ _ _ _ _ _ _ _) | (with_reducible refine Lim.ite ?_ ?_) | (with_reducible refine Lim.bind ?_ (fun _ => ?_)) | exact Lim.const _ | refine Lim.ite ?_ ?_ | refine Lim.bind ?_ (fun _ => ?_) | exact laws_eqEntryS.l0L _ _ _ | exact laws_eqEntry.L _ _ _ _ _ _ _ _ _ _ _ _ _ _ _ _ _ _ _ _
end Go.Proofs.Ytelmcjohkifeeaa.PA

namespace Go.Proofs.Ytelmcjohkifeeaa.PA
open Go.RowKit Go.Proofs.YtelmcjohkifeeaaW.PrintWords Go.Proofs.YtelmcjohkifeeaaW.PrintLast Go.Proofs.YtelmcjohkifeeaaW.PrintMore Go.Proofs.Ytelmcjohkifeeaa.Base Go.Proofs.Ytelmcjohkifeeaa.Lim
set_option linter.unusedVariables false
set_option linter.unusedSimpArgs false

def Bd61 (x : S61) : Prop := x.f0.size ≤ 140737488351232 ∧ (x.f1.length * 32 ≤ 140737488351232 ∧ x.f1.length ≤ maxLen ∧ ∀ y ∈ x.f1, Bd145 y) ∧ Bd47 x.f2 ∧ (x.f3.length * 24 ≤ 140737488351232 ∧ x.f3.length ≤ maxLen ∧ ∀ y ∈ x.f3, Bd150 y) ∧ (Lit.int .i64 x.f4).wf = true ∧ (Lit.int .i64 x.f5).wf = true ∧ (Lit.int .i64 x.f6).wf = true ∧ (Lit.int .i64 x.f7).wf = true
def wt_Entry (x : S61) : Nat := x.f0.size + wtS_Field x.f1 + wt_Response x.f2 + wtS_Piece x.f3
def conv_Entry (x : S61) : S66 := ⟨x.f0, (x.f1.map conv_Field), (conv_Response x.f2), (x.f3.map conv_Piece), x.f4, x.f5, x.f6, x.f7⟩
theorem sz_Entry (a0 : ByteArray) (a1 : (List S145)) (a2 : Int) (a3 : (List S145)) (a4 : ByteArray) (a5 : (List S150)) (a6 : Int) (a7 : Int) (a8 : Int) (a9 : Int) (left : Int) (h0 : a0.size ≤ 140737488351232) (h1 : (a1.length * 32 ≤ 140737488351232 ∧ a1.length ≤ maxLen ∧ ∀ y ∈ a1, Bd145 y)) (h3 : (a3.length * 32 ≤ 140737488351232 ∧ a3.length ≤ maxLen ∧ ∀ y ∈ a3, Bd145 y)) (h4 : a4.size ≤ 140737488351232) (h5 : (a5.length * 24 ≤ 140737488351232 ∧ a5.length ≤ maxLen ∧ ∀ y ∈ a5, Bd150 y)) (hl : 0 ≤ left) (hm : left ≤ 4611686018427387904) : laws_szEntry.g a0 a1 a2 a3 a4 a5 a6 a7 a8 a9 left = some (sub left (a0.size + wtS_Field a1 + (wtS_Field a3 + a4.size) + wtS_Piece a5)) := by
  rw [laws_szEntry.ge]
  rw [w64 (x := left - (a0.size : Int)) (by omega) (by omega)]
  by_cases c0 : left - (a0.size : Int) < 0
  · rw [if_pos c0]; exact sub_neg (by omega)
  rw [if_neg c0]
  rw [szS_Field a1 (left - (a0.size : Int)) h1 (by omega) (by omega), Option.bind_some]
  by_cases c1 : (left - (a0.size : Int)) < ((wtS_Field a1 : Nat) : Int)
  · rw [if_pos (sub_lt c1)]; exact sub_neg (by omega)
  rw [if_neg (sub_nlt (by omega) c1), sub_ge c1]
  rw [sz_Response a2 a3 a4 ((left - (a0.size : Int)) - ((wtS_Field a1 : Nat) : Int)) h3 h4 (by omega) (by omega), Option.bind_some]
  by_cases c2 : ((left - (a0.size : Int)) - ((wtS_Field a1 : Nat) : Int)) < ((wtS_Field a3 + a4.size : Nat) : Int)
  · rw [if_pos (sub_lt c2)]; exact sub_neg (by omega)
  rw [if_neg (sub_nlt (by omega) c2), sub_ge c2]
  rw [szS_Piece a5 (((left - (a0.size : Int)) - ((wtS_Field a1 : Nat) : Int)) - ((wtS_Field a3 + a4.size : Nat) : Int)) h5 (by omega) (by omega), Option.bind_some]
  by_cases c3 : (((left - (a0.size : Int)) - ((wtS_Field a1 : Nat) : Int)) - ((wtS_Field a3 + a4.size : Nat) : Int)) < ((wtS_Piece a5 : Nat) : Int)
  · rw [if_pos (sub_lt c3)]; exact sub_neg (by omega)
  rw [if_neg (sub_nlt (by omega) c3), sub_ge c3]
  all_goals (refine congrArg some ?_; first | (rw [sub_ge (by omega)]; done) | (rw [sub_ge (by omega)]; omega))
theorem to_Entry (a0 : ByteArray) (a1 : (List S145)) (a2 : Int) (a3 : (List S145)) (a4 : ByteArray) (a5 : (List S150)) (a6 : Int) (a7 : Int) (a8 : Int) (a9 : Int) (h1 : (a1.length * 32 ≤ 140737488351232 ∧ a1.length ≤ maxLen ∧ ∀ y ∈ a1, Bd145 y)) (h3 : (a3.length * 32 ≤ 140737488351232 ∧ a3.length ≤ maxLen ∧ ∀ y ∈ a3, Bd145 y)) (h5 : (a5.length * 24 ≤ 140737488351232 ∧ a5.length ≤ maxLen ∧ ∀ y ∈ a5, Bd150 y)) : laws_toEntry.g a0 a1 a2 a3 a4 a5 a6 a7 a8 a9 = some (a0, (a1.map conv_Field), a2, (a3.map conv_Field), a4, (a5.map conv_Piece), a6, a7, a8, a9) := by
  rw [laws_toEntry.ge]
  simp only [toS_Field a1 h1, to_Response a2 a3 a4 h3, toS_Piece a5 h5, Option.bind_some]
theorem eq_Entry (a0 : ByteArray) (a1 : (List S146)) (a2 : Int) (a3 : (List S146)) (a4 : ByteArray) (a5 : (List S133)) (a6 : Int) (a7 : Int) (a8 : Int) (a9 : Int) (h1 : Sm a1.length) (h3 : Sm a3.length) (h5 : Sm a5.length) : laws_eqEntry.g a0 a1 a2 a3 a4 a5 a6 a7 a8 a9 a0 a1 a2 a3 a4 a5 a6 a7 a8 a9 = some true := by
  rw [laws_eqEntry.ge]
  simp [eqS_Field a1 h1, eq_Response a2 a3 a4 h3, eqS_Piece a5 h5]
def Ok_Entry (x : S66) : Prop := Sm x.f1.length ∧ Ok_Response x.f2 ∧ Sm x.f3.length
def wtS_Entry : List S61 → Nat := fun l => l.length + (l.map wt_Entry).sum
theorem szS_Entry (l : List S61) (left : Int) (h : l.length * 144 ≤ 140737488351232 ∧ l.length ≤ maxLen ∧ ∀ y ∈ l, Bd61 y) (hl : 0 ≤ left) (hm : left ≤ 4611686018427387904) : laws_szEntryS.g l left = some (sub left (wtS_Entry l)) := by
  obtain ⟨h1, h2, h3⟩ := h
  have hn : Sm l.length := by unfold Sm; omega
  rw [laws_szEntryS.ge, w64 (by omega) (by omega)]
  unfold wtS_Entry
  by_cases c : left - (l.length : Int) < 0
  · rw [if_pos c]; exact sub_neg (by omega)
  rw [if_neg c]
  have key := loopP (l := l) (fun s i => laws_szEntryS.l0g l s i) (fun s r => some (sub s ((r.map wt_Entry).sum))) (fun s => 0 ≤ s ∧ s ≤ 4611686018427387904) ?_ ?_ (left - (l.length : Int)) ⟨by omega, by omega⟩
  · rw [key, sub_add (by omega)]
  · rintro s ⟨hs0, hs1⟩
    rw [laws_szEntryS.l0e, if_neg not_lt_len]
    simp [sub, hs0]
  · rintro i x r hi hx ih s ⟨hs0, hs1⟩
    have hb := h3 x (List.mem_of_getElem? hx)
    rw [laws_szEntryS.l0e, if_pos (nat_lt_len hi), if_pos (nat_nonneg i), w64_succ hi hn]
    simp only [rd_T61, getD_x hx]
    rw [sz_Entry x.f0 x.f1 x.f2.f0 x.f2.f1 x.f2.f2 x.f3 x.f4 x.f5 x.f6 x.f7 s hb.1 hb.2.1 hb.2.2.1.2.1 hb.2.2.1.2.2 hb.2.2.2.1 hs0 hs1, Option.bind_some]
    rw [List.map_cons, List.sum_cons]
    show (if sub s (wt_Entry x) < 0 then some (-1) else laws_szEntryS.l0g l (sub s (wt_Entry x)) _) = _
    by_cases c2 : s < ((wt_Entry x : Nat) : Int)
    · rw [if_pos (sub_lt c2)]; exact sub_neg (by omega)
    rw [if_neg (sub_nlt hs0 c2), sub_ge c2, ih _ ⟨by omega, by omega⟩]; exact sub_step (by omega)
theorem toS_Entry (l : List S61) (h : l.length * 144 ≤ 140737488351232 ∧ l.length ≤ maxLen ∧ ∀ y ∈ l, Bd61 y) : laws_toEntryS.g l = some (l.map conv_Entry) := by
  obtain ⟨h1, h2, h3⟩ := h
  have key : ∀ i, i ≤ l.length → laws_toEntryS.l0g l ((l.take i).map conv_Entry ++ List.replicate (l.length - i) z66) (i : Int) = some (l.map conv_Entry) := by
    refine down ?_ ?_
    · rw [laws_toEntryS.l0e, if_neg not_lt_len]
      simp
    · intro i hi ih
      have hb := h3 l[i] (List.getElem_mem hi)
      rw [laws_toEntryS.l0e, if_pos (nat_lt_len hi), if_pos (nat_nonneg i)]
      simp only [rd_T61, Int.toNat_natCast, getD_at hi]
      rw [to_Entry l[i].f0 l[i].f1 l[i].f2.f0 l[i].f2.f1 l[i].f2.f2 l[i].f3 l[i].f4 l[i].f5 l[i].f6 l[i].f7 hb.2.1 hb.2.2.1.2.1 hb.2.2.2.1, Option.bind_some, if_pos (by simp; omega), w64_succ hi (by unfold Sm; omega)]
      have e := copied conv_Entry z66 l i hi
      rw [← e] at ih
      exact ih
  rw [laws_toEntryS.ge, if_pos (by omega), if_pos (by rw [Int.toNat_natCast]; omega)]
  have := key 0 (by omega)
  simpa using this
theorem eqS_Entry (l : List S66) (h : Sm l.length ∧ ∀ y ∈ l, Ok_Entry y) : laws_eqEntryS.g l l = some true := by
  obtain ⟨hn, h3⟩ := h
  rw [laws_eqEntryS.ge, if_pos rfl]
  refine loop1 (l := l) (fun i => laws_eqEntryS.l0g l l i) (fun _ => some true) ?_ ?_
  · rw [laws_eqEntryS.l0e, if_neg not_lt_len]
  · intro i x r hi hx ih
    rw [laws_eqEntryS.l0e, if_pos (nat_lt_len hi), if_pos (nat_nonneg i), if_pos (nat_lt_len hi), w64_succ hi hn, ih]
    have hb := h3 x (List.mem_of_getElem? hx)
    simp only [rd_T66, getD_x hx]
    rw [eq_Entry x.f0 x.f1 x.f2.f0 x.f2.f1 x.f2.f2 x.f3 x.f4 x.f5 x.f6 x.f7 hb.1 hb.2.1 hb.2.2, Option.bind_some, if_pos rfl]
end Go.Proofs.Ytelmcjohkifeeaa.PA

namespace Go.Proofs.Ytelmcjohkifeeaa.PA
open Go.RowKit Go.Proofs.YtelmcjohkifeeaaW.PrintWords Go.Proofs.YtelmcjohkifeeaaW.PrintLast Go.Proofs.YtelmcjohkifeeaaW.PrintMore Go.Proofs.Ytelmcjohkifeeaa.Lim
set_option linter.unusedVariables false
set_option linter.unusedSimpArgs false
noncomputable def laws_szStore.g (l0_0 : List (S61)) (a1 : Int) : Option (Int) := lim (fun k => laws_szStore.f k l0_0 a1)
theorem laws_szStore.L (l0_0 : List (S61)) (a1 : Int) : Lim (fun k => laws_szStore.f k l0_0 a1) (laws_szStore.g l0_0 a1) := Lim.of (fun k => laws_szStore.mono l0_0 a1 k)
theorem laws_szStore.ge (l0_0 : List (S61)) (a1 : Int) : laws_szStore.g l0_0 a1 = ((laws_szEntryS.g l0_0 a1).bind fun t637 => (if t637 < 0 then (some (-1)) else (some t637))) := by
  refine Lim.uniq (laws_szStore.L l0_0 a1) ?_
  show Lim (fun k => (laws_szEntryS.f k l0_0 a1).bind fun t637 => (if t637 < 0 then (some (-1)) else (some t637))) _
  repeat' first | (with_reducible exact Lim.const _) | (with_reducible exact laws_szEntryS.L _ _) | (with_reducible refine Lim.ite ?_ ?_) | (with_reducible refine Lim.bind ?_ (fun _ => ?_)) | exact Lim.const _ | refine Lim.ite ?_ ?_ | refine Lim.bind ?_ (fun _ => ?_) | exact laws_szEntryS.L _ _
end Go.Proofs.Ytelmcjohkifeeaa.PA

namespace Go.Proofs.Ytelmcjohkifeeaa.PA
open Go.RowKit Go.Proofs.YtelmcjohkifeeaaW.PrintWords Go.Proofs.YtelmcjohkifeeaaW.PrintLast Go.Proofs.YtelmcjohkifeeaaW.PrintMore Go.Proofs.Ytelmcjohkifeeaa.Lim
set_option linter.unusedVariables false
set_option linter.unusedSimpArgs false
noncomputable def laws_toStore.g (l0_0 : List (S61)) : Option ((List (S66))) := lim (fun k => laws_toStore.f k l0_0)
theorem laws_toStore.L (l0_0 : List (S61)) : Lim (fun k => laws_toStore.f k l0_0) (laws_toStore.g l0_0) := Lim.of (fun k => laws_toStore.mono l0_0 k)
theorem laws_toStore.ge (l0_0 : List (S61)) : laws_toStore.g l0_0 = ((laws_toEntryS.g l0_0).bind fun t679 => (some t679)) := by
  refine Lim.uniq (laws_toStore.L l0_0) ?_
  show Lim (fun k => (laws_toEntryS.f k l0_0).bind fun t679 => (some t679)) _
  repeat' first | (with_reducible exact Lim.const _) | (with_reducible exact laws_toEntryS.L _) | (with_reducible refine Lim.ite ?_ ?_) | (with_reducible refine Lim.bind ?_ (fun _ => ?_)) | exact Lim.const _ | refine Lim.ite ?_ ?_ | refine Lim.bind ?_ (fun _ => ?_) | exact laws_toEntryS.L _
end Go.Proofs.Ytelmcjohkifeeaa.PA

namespace Go.Proofs.Ytelmcjohkifeeaa.PA
open Go.RowKit Go.Proofs.YtelmcjohkifeeaaW.PrintWords Go.Proofs.YtelmcjohkifeeaaW.PrintLast Go.Proofs.YtelmcjohkifeeaaW.PrintMore Go.Proofs.Ytelmcjohkifeeaa.Lim
set_option linter.unusedVariables false
set_option linter.unusedSimpArgs false
noncomputable def spec_SpansOf.l0g (y0 : List (S133)) (y1 : List (S156)) (y2 : Int) : Option ((List (S156))) := lim (fun k => spec_SpansOf.l0 k y0 y1 y2)
theorem spec_SpansOf.l0L (y0 : List (S133)) (y1 : List (S156)) (y2 : Int) : Lim (fun k => spec_SpansOf.l0 k y0 y1 y2) (spec_SpansOf.l0g y0 y1 y2) := Lim.of (fun k => (spec_SpansOf.mono_l k) y0 y1 y2)
theorem spec_SpansOf.l0e (x0 : List (S133)) (x3 : List (S156)) (x4 : Int) : spec_SpansOf.l0g x0 x3 x4 = (if x4 < (x0.length : Int) then (if 0 ≤ x4 then (if x3.length < 8796093022208 then (spec_SpansOf.l0g x0 (x3 ++ [(⟨(rd_T133 x0 x4).f0, wrap64 (((rd_T133 x0 x4).f0) + (((rd_T133 x0 x4).f1).size : Int))⟩ : S156)]) (wrap64 (x4 + 1))) else (none)) else (none)) else (some x3)) := by
  refine Lim.round (spec_SpansOf.l0L x0 x3 x4) ?_
  show Lim (fun k => if x4 < (x0.length : Int) then (if 0 ≤ x4 then (if x3.length < 8796093022208 then (spec_SpansOf.l0 k x0 (x3 ++ [(⟨(rd_T133 x0 x4).f0, wrap64 (((rd_T133 x0 x4).f0) + (((rd_T133 x0 x4).f1).size : Int))⟩ : S156)]) (wrap64 (x4 + 1))) else (none)) else (none)) else (some x3)) _
  repeat' first | (with_reducible exact Lim.const _) | (with_reducible exact spec_SpansOf.l0L _ _ _) | (with_reducible refine Lim.ite ?_ ?_) | (with_reducible refine Lim.bind ?_ (fun _ => ?_)) | exact Lim.const _ | refine Lim.ite ?_ ?_ | refine Lim.bind ?_ (fun _ => ?_) | exact spec_SpansOf.l0L _ _ _
noncomputable def spec_SpansOf.g (l0 : List (S133)) : Option ((List (S156))) := lim (fun k => spec_SpansOf.f k l0)
theorem spec_SpansOf.L (l0 : List (S133)) : Lim (fun k => spec_SpansOf.f k l0) (spec_SpansOf.g l0) := Lim.of (fun k => spec_SpansOf.mono l0 k)
theorem spec_SpansOf.ge (l0 : List (S133)) : spec_SpansOf.g l0 = (spec_SpansOf.l0g l0 (([] : List (S156))) 0) := by
  refine Lim.uniq (spec_SpansOf.L l0) ?_
  show Lim (fun k => spec_SpansOf.l0 k l0 (([] : List (S156))) 0) _
  repeat' first | (with_reducible exact Lim.const _) | (with_reducible exact spec_SpansOf.l0L _ _ _) | (with_reducible refine Lim.ite ?_ ?_) | (with_reducible refine Lim.bind ?_ (fun _ => ?_)) | exact Lim.const _ | refine Lim.ite ?_ ?_ | refine Lim.bind ?_ (fun _ => ?_) | exact spec_SpansOf.l0L _ _ _
end Go.Proofs.Ytelmcjohkifeeaa.PA

namespace Go.Proofs.Ytelmcjohkifeeaa.PA
open Go.RowKit Go.Proofs.YtelmcjohkifeeaaW.PrintWords Go.Proofs.YtelmcjohkifeeaaW.PrintLast Go.Proofs.YtelmcjohkifeeaaW.PrintMore Go.Proofs.Ytelmcjohkifeeaa.Lim
set_option linter.unusedVariables false
set_option linter.unusedSimpArgs false
noncomputable def spec_SpanSize.l0g (y0 : List (S156)) (y1 : Int) (y2 : Int) : Option (Int) := lim (fun k => spec_SpanSize.l0 k y0 y1 y2)
theorem spec_SpanSize.l0L (y0 : List (S156)) (y1 : Int) (y2 : Int) : Lim (fun k => spec_SpanSize.l0 k y0 y1 y2) (spec_SpanSize.l0g y0 y1 y2) := Lim.of (fun k => (spec_SpanSize.mono_l k) y0 y1 y2)
theorem spec_SpanSize.l0e (x0 : List (S156)) (x3 : Int) (x4 : Int) : spec_SpanSize.l0g x0 x3 x4 = (if x4 < (x0.length : Int) then (if 0 ≤ x4 then (spec_SpanSize.l0g x0 (wrap64 ((wrap64 (x3 + ((rd_T156 x0 x4).f1))) - ((rd_T156 x0 x4).f0))) (wrap64 (x4 + 1))) else (none)) else (some x3)) := by
  refine Lim.round (spec_SpanSize.l0L x0 x3 x4) ?_
  show Lim (fun k => if x4 < (x0.length : Int) then (if 0 ≤ x4 then (spec_SpanSize.l0 k x0 (wrap64 ((wrap64 (x3 + ((rd_T156 x0 x4).f1))) - ((rd_T156 x0 x4).f0))) (wrap64 (x4 + 1))) else (none)) else (some x3)) _
  repeat' first | (with_reducible exact Lim.const _) | (with_reducible exact spec_SpanSize.l0L _ _ _) | (with_reducible refine Lim.ite ?_ ?_) | (with_reducible refine Lim.bind ?_ (fun _ => ?_)) | exact Lim.const _ | refine Lim.ite ?_ ?_ | refine Lim.bind ?_ (fun _ => ?_) | exact spec_SpanSize.l0L _ _ _
noncomputable def spec_SpanSize.g (l0 : List (S156)) : Option (Int) := lim (fun k => spec_SpanSize.f k l0)
theorem spec_SpanSize.L (l0 : List (S156)) : Lim (fun k => spec_SpanSize.f k l0) (spec_SpanSize.g l0) := Lim.of (fun k => spec_SpanSize.mono l0 k)
theorem spec_SpanSize.ge (l0 : List (S156)) : spec_SpanSize.g l0 = (spec_SpanSize.l0g l0 0 0) := by
  refine Lim.uniq (spec_SpanSize.L l0) ?_
  show Lim (fun k => spec_SpanSize.l0 k l0 0 0) _
  repeat' first | (with_reducible exact Lim.const _) | (with_reducible exact spec_SpanSize.l0L _ _ _) | (with_reducible refine Lim.ite ?_ ?_) | (with_reducible refine Lim.bind ?_ (fun _ => ?_)) | exact Lim.const _ | refine Lim.ite ?_ ?_ | refine Lim.bind ?_ (fun _ => ?_) | exact spec_SpanSize.l0L _ _ _
end Go.Proofs.Ytelmcjohkifeeaa.PA

namespace Go.Proofs.Ytelmcjohkifeeaa.PA
open Go.RowKit Go.Proofs.YtelmcjohkifeeaaW.PrintWords Go.Proofs.YtelmcjohkifeeaaW.PrintLast Go.Proofs.YtelmcjohkifeeaaW.PrintMore Go.Proofs.Ytelmcjohkifeeaa.Lim
set_option linter.unusedVariables false
set_option linter.unusedSimpArgs false
noncomputable def spec_StoreSize.l0g (y0 : Int) (y1 : Int) (y2 : List (S66)) : Option (Int) := lim (fun k => spec_StoreSize.l0 k y0 y1 y2)
theorem spec_StoreSize.l0L (y0 : Int) (y1 : Int) (y2 : List (S66)) : Lim (fun k => spec_StoreSize.l0 k y0 y1 y2) (spec_StoreSize.l0g y0 y1 y2) := Lim.of (fun k => (spec_StoreSize.mono_l k) y0 y1 y2)
theorem spec_StoreSize.l0e (x3 : Int) (x4 : Int) (x650000 : List (S66)) : spec_StoreSize.l0g x3 x4 x650000 = (if x4 < (x650000.length : Int) then (if 0 ≤ x4 then ((spec_SpansOf.g ((rd_T66 x650000 x4).f3)).bind fun t651 => ((spec_SpanSize.g t651).bind fun t654 => (spec_StoreSize.l0g (wrap64 (x3 + t654)) (wrap64 (x4 + 1)) x650000))) else (none)) else (some x3)) := by
  refine Lim.round (spec_StoreSize.l0L x3 x4 x650000) ?_
  show Lim (fun k => if x4 < (x650000.length : Int) then (if 0 ≤ x4 then ((spec_SpansOf.f k ((rd_T66 x650000 x4).f3)).bind fun t651 => ((spec_SpanSize.f k t651).bind fun t654 => (spec_StoreSize.l0 k (wrap64 (x3 + t654)) (wrap64 (x4 + 1)) x650000))) else (none)) else (some x3)) _
  repeat' first | (with_reducible exact Lim.const _) | (with_reducible exact spec_StoreSize.l0L _ _ _) | (with_reducible exact spec_SpansOf.L _) | (with_reducible exact spec_SpanSize.L _) | (with_reducible refine Lim.ite ?_ ?_) | (with_reducible refine Lim.bind ?_ (fun _ => ?_)) | exact Lim.const _ | refine Lim.ite ?_ ?_ | refine Lim.bind ?_ (fun _ => ?_) | exact spec_StoreSize.l0L _ _ _ | exact spec_SpansOf.L _ | exact spec_SpanSize.L _
noncomputable def spec_StoreSize.g (l0_0 : List (S66)) : Option (Int) := lim (fun k => spec_StoreSize.f k l0_0)
theorem spec_StoreSize.L (l0_0 : List (S66)) : Lim (fun k => spec_StoreSize.f k l0_0) (spec_StoreSize.g l0_0) := Lim.of (fun k => spec_StoreSize.mono l0_0 k)
theorem spec_StoreSize.ge (l0_0 : List (S66)) : spec_StoreSize.g l0_0 = (spec_StoreSize.l0g 0 0 l0_0) := by
  refine Lim.uniq (spec_StoreSize.L l0_0) ?_
  show Lim (fun k => spec_StoreSize.l0 k 0 0 l0_0) _
  repeat' first | (with_reducible exact Lim.const _) | (with_reducible exact spec_StoreSize.l0L _ _ _) | (with_reducible exact spec_SpansOf.L _) | (with_reducible exact spec_SpanSize.L _) | (with_reducible refine Lim.ite ?_ ?_) | (with_reducible refine Lim.bind ?_ (fun _ => ?_)) | exact Lim.const _ | refine Lim.ite ?_ ?_ | refine Lim.bind ?_ (fun _ => ?_) | exact spec_StoreSize.l0L _ _ _ | exact spec_SpansOf.L _ | exact spec_SpanSize.L _
end Go.Proofs.Ytelmcjohkifeeaa.PA

namespace Go.Proofs.Ytelmcjohkifeeaa.PA
open Go.RowKit Go.Proofs.YtelmcjohkifeeaaW.PrintWords Go.Proofs.YtelmcjohkifeeaaW.PrintLast Go.Proofs.YtelmcjohkifeeaaW.PrintMore Go.Proofs.Ytelmcjohkifeeaa.Lim
set_option linter.unusedVariables false
set_option linter.unusedSimpArgs false
noncomputable def impl_StoreSize.l0g (y0 : Int) (y1 : List (S66)) (y2 : Int) (y3 : Int) : Option (Int) := lim (fun k => impl_StoreSize.l0 k y0 y1 y2 y3)
noncomputable def impl_StoreSize.l1g (y0 : Int) (y1 : List (S66)) (y2 : Int) (y3 : Int) (y4 : List (S133)) (y5 : Int) (y6 : Int) : Option (Int) := lim (fun k => impl_StoreSize.l1 k y0 y1 y2 y3 y4 y5 y6)
theorem impl_StoreSize.l0L (y0 : Int) (y1 : List (S66)) (y2 : Int) (y3 : Int) : Lim (fun k => impl_StoreSize.l0 k y0 y1 y2 y3) (impl_StoreSize.l0g y0 y1 y2 y3) := Lim.of (fun k => (impl_StoreSize.mono_l k).1 y0 y1 y2 y3)
theorem impl_StoreSize.l1L (y0 : Int) (y1 : List (S66)) (y2 : Int) (y3 : Int) (y4 : List (S133)) (y5 : Int) (y6 : Int) : Lim (fun k => impl_StoreSize.l1 k y0 y1 y2 y3 y4 y5 y6) (impl_StoreSize.l1g y0 y1 y2 y3 y4 y5 y6) := Lim.of (fun k => (impl_StoreSize.mono_l k).2 y0 y1 y2 y3 y4 y5 y6)
theorem impl_StoreSize.l0e (x3 : Int) (x9 : List (S66)) (x10 : Int) (x11 : Int) : impl_StoreSize.l0g x3 x9 x10 x11 = (if x11 < x10 then (if 0 ≤ x11 then (if x11 < (x9.length : Int) then (impl_StoreSize.l1g x3 x9 x10 x11 ((rd_T66 x9 x11).f3) (((rd_T66 x9 x11).f3).length : Int) 0) else (none)) else (none)) else (some x3)) := by
  refine Lim.round (impl_StoreSize.l0L x3 x9 x10 x11) ?_
  show Lim (fun k => if x11 < x10 then (if 0 ≤ x11 then (if x11 < (x9.length : Int) then (impl_StoreSize.l1 k x3 x9 x10 x11 ((rd_T66 x9 x11).f3) (((rd_T66 x9 x11).f3).length : Int) 0) else (none)) else (none)) else (some x3)) _
  repeat' first | (with_reducible exact Lim.const _) | (with_reducible exact impl_StoreSize.l0L _ _ _ _) | (with_reducible exact impl_StoreSize.l1L _ _ _ _ _ _ _) | (with_reducible refine Lim.ite ?_ ?_) | (with_reducible refine Lim.bind ?_ (fun _ => ?_)) | exact Lim.const _ | refine Lim.ite ?_ ?_ | refine Lim.bind ?_ (fun _ => ?_) | exact impl_StoreSize.l0L _ _ _ _ | exact impl_StoreSize.l1L _ _ _ _ _ _ _
theorem impl_StoreSize.l1e (x3 : Int) (x9 : List (S66)) (x10 : Int) (x11 : Int) (x16 : List (S133)) (x17 : Int) (x18 : Int) : impl_StoreSize.l1g x3 x9 x10 x11 x16 x17 x18 = (if x18 < x17 then (if 0 ≤ x18 then (if x18 < (x16.length : Int) then (impl_StoreSize.l1g (wrap64 (x3 + (((rd_T133 x16 x18).f1).size : Int))) x9 x10 x11 x16 x17 (wrap64 (x18 + 1))) else (none)) else (none)) else (impl_StoreSize.l0g x3 x9 x10 (wrap64 (x11 + 1)))) := by
  refine Lim.round (impl_StoreSize.l1L x3 x9 x10 x11 x16 x17 x18) ?_
  show Lim (fun k => if x18 < x17 then (if 0 ≤ x18 then (if x18 < (x16.length : Int) then (impl_StoreSize.l1 k (wrap64 (x3 + (((rd_T133 x16 x18).f1).size : Int))) x9 x10 x11 x16 x17 (wrap64 (x18 + 1))) else (none)) else (none)) else (impl_StoreSize.l0 k x3 x9 x10 (wrap64 (x11 + 1)))) _
  repeat' first | (with_reducible exact Lim.const _) | (with_reducible exact impl_StoreSize.l0L _ _ _ _) | (with_reducible exact impl_StoreSize.l1L _ _ _ _ _ _ _) | (with_reducible refine Lim.ite ?_ ?_) | (with_reducible refine Lim.bind ?_ (fun _ => ?_)) | exact Lim.const _ | refine Lim.ite ?_ ?_ | refine Lim.bind ?_ (fun _ => ?_) | exact impl_StoreSize.l0L _ _ _ _ | exact impl_StoreSize.l1L _ _ _ _ _ _ _
noncomputable def impl_StoreSize.g (l0_0 : List (S66)) : Option (Int) := lim (fun k => impl_StoreSize.f k l0_0)
theorem impl_StoreSize.L (l0_0 : List (S66)) : Lim (fun k => impl_StoreSize.f k l0_0) (impl_StoreSize.g l0_0) := Lim.of (fun k => impl_StoreSize.mono l0_0 k)
theorem impl_StoreSize.ge (l0_0 : List (S66)) : impl_StoreSize.g l0_0 = (impl_StoreSize.l0g 0 l0_0 (l0_0.length : Int) 0) := by
  refine Lim.uniq (impl_StoreSize.L l0_0) ?_
  show Lim (fun k => impl_StoreSize.l0 k 0 l0_0 (l0_0.length : Int) 0) _
  repeat' first | (with_reducible exact Lim.const _) | (with_reducible exact impl_StoreSize.l0L _ _ _ _) | (with_reducible exact impl_StoreSize.l1L _ _ _ _ _ _ _) | (with_reducible refine Lim.ite ?_ ?_) | (with_reducible refine Lim.bind ?_ (fun _ => ?_)) | exact Lim.const _ | refine Lim.ite ?_ ?_ | refine Lim.bind ?_ (fun _ => ?_) | exact impl_StoreSize.l0L _ _ _ _ | exact impl_StoreSize.l1L _ _ _ _ _ _ _
end Go.Proofs.Ytelmcjohkifeeaa.PA

namespace Go.Proofs.Ytelmcjohkifeeaa.PA
open Go.RowKit Go.Proofs.YtelmcjohkifeeaaW.PrintWords Go.Proofs.YtelmcjohkifeeaaW.PrintLast Go.Proofs.YtelmcjohkifeeaaW.PrintMore Go.Proofs.Ytelmcjohkifeeaa.Lim
set_option linter.unusedVariables false
set_option linter.unusedSimpArgs false
noncomputable def laws_eqStore.g (l0_0 : List (S66)) (l1_0 : List (S66)) : Option (Bool) := lim (fun k => laws_eqStore.f k l0_0 l1_0)
theorem laws_eqStore.L (l0_0 : List (S66)) (l1_0 : List (S66)) : Lim (fun k => laws_eqStore.f k l0_0 l1_0) (laws_eqStore.g l0_0 l1_0) := Lim.of (fun k => laws_eqStore.mono l0_0 l1_0 k)
theorem laws_eqStore.ge (l0_0 : List (S66)) (l1_0 : List (S66)) : laws_eqStore.g l0_0 l1_0 = ((laws_eqEntryS.g l0_0 l1_0).bind fun t692 => (if t692 = true then (some true) else (some false))) := by
  refine Lim.uniq (laws_eqStore.L l0_0 l1_0) ?_
  show Lim (fun k => (laws_eqEntryS.f k l0_0 l1_0).bind fun t692 => (if t692 = true then (some true) else (some false))) _
  repeat' first | (with_reducible exact Lim.const _) | (with_reducible exact laws_eqEntryS.L _ _) | (with_reducible refine Lim.ite ?_ ?_) | (with_reducible refine Lim.bind ?_ (fun _ => ?_)) | exact Lim.const _ | refine Lim.ite ?_ ?_ | refine Lim.bind ?_ (fun _ => ?_) | exact laws_eqEntryS.L _ _
end Go.Proofs.Ytelmcjohkifeeaa.PA

namespace Go.Proofs.Ytelmcjohkifeeaa.PA
open Go.RowKit Go.Proofs.YtelmcjohkifeeaaW.PrintWords Go.Proofs.YtelmcjohkifeeaaW.PrintLast Go.Proofs.YtelmcjohkifeeaaW.PrintMore Go.Proofs.Ytelmcjohkifeeaa.Lim
set_option linter.unusedVariables false
set_option linter.unusedSimpArgs false
noncomputable def laws_FnExactStoreSize.g (l0_0 : List (S61)) : Option (Bool) := lim (fun k => laws_FnExactStoreSize.f k l0_0)
theorem laws_FnExactStoreSize.L (l0_0 : List (S61)) : Lim (fun k => laws_FnExactStoreSize.f k l0_0) (laws_FnExactStoreSize.g l0_0) := Lim.of (fun k => laws_FnExactStoreSize.mono l0_0 k)
theorem laws_FnExactStoreSize.ge (l0_0 : List (S61)) : laws_FnExactStoreSize.g l0_0 = ((laws_szStore.g l0_0 1048576).bind fun t694 => (if t694 < 0 then (some true) else ((laws_toStore.g l0_0).bind fun t695 => ((spec_StoreSize.g t695).bind fun t698 => ((laws_toStore.g l0_0).bind fun t699 => ((impl_StoreSize.g t699).bind fun t703 => (if t703 = t698 then ((laws_toStore.g l0_0).bind fun t704 => ((laws_eqStore.g t699 t704).bind fun t707 => (if t707 = true then (some true) else (some false)))) else (some false)))))))) := by
  refine Lim.uniq (laws_FnExactStoreSize.L l0_0) ?_
  show Lim (fun k => (laws_szStore.f k l0_0 1048576).bind fun t694 => (if t694 < 0 then (some true) else ((laws_toStore.f k l0_0).bind fun t695 => ((spec_StoreSize.f k t695).bind fun t698 => ((laws_toStore.f k l0_0).bind fun t699 => ((impl_StoreSize.f k t699).bind fun t703 => (if t703 = t698 then ((laws_toStore.f k l0_0).bind fun t704 => ((laws_eqStore.f k t699 t704).bind fun t707 => (if t707 = true then (some true) else (some false)))) else (some false)))))))) _
  repeat' first | (with_reducible exact Lim.const _) | (with_reducible exact laws_szStore.L _ _) | (with_reducible exact laws_toStore.L _) | (with_reducible exact spec_StoreSize.L _) | (with_reducible exact impl_StoreSize.L _) | (with_reducible exact laws_eqStore.L _ _) | (with_reducible refine Lim.ite ?_ ?_) | (with_reducible refine Lim.bind ?_ (fun _ => ?_)) | exact Lim.const _ | refine Lim.ite ?_ ?_ | refine Lim.bind ?_ (fun _ => ?_) | exact laws_szStore.L _ _ | exact laws_toStore.L _ | exact spec_StoreSize.L _ | exact impl_StoreSize.L _ | exact laws_eqStore.L _ _
end Go.Proofs.Ytelmcjohkifeeaa.PA

namespace Go.Proofs.Ytelmcjohkifeeaa.PA
open Go.RowKit Go.Proofs.YtelmcjohkifeeaaW.PrintWords Go.Proofs.YtelmcjohkifeeaaW.PrintLast Go.Proofs.YtelmcjohkifeeaaW.PrintMore Go.Proofs.Ytelmcjohkifeeaa.Base Go.Proofs.Ytelmcjohkifeeaa.Lim
set_option linter.unusedVariables false
set_option linter.unusedSimpArgs false

theorem sz_Store (a0 : (List S61)) (left : Int) (h0 : (a0.length * 144 ≤ 140737488351232 ∧ a0.length ≤ maxLen ∧ ∀ y ∈ a0, Bd61 y)) (hl : 0 ≤ left) (hm : left ≤ 4611686018427387904) : laws_szStore.g a0 left = some (sub left (wtS_Entry a0)) := by
  rw [laws_szStore.ge]
  rw [szS_Entry a0 left h0 (by omega) (by omega), Option.bind_some]
  by_cases c0 : left < ((wtS_Entry a0 : Nat) : Int)
  · rw [if_pos (sub_lt c0)]; exact sub_neg (by omega)
  rw [if_neg (sub_nlt (by omega) c0), sub_ge c0]
  all_goals (refine congrArg some ?_; first | (rw [sub_ge (by omega)]; done) | (rw [sub_ge (by omega)]; omega))
theorem to_Store (a0 : (List S61)) (h0 : (a0.length * 144 ≤ 140737488351232 ∧ a0.length ≤ maxLen ∧ ∀ y ∈ a0, Bd61 y)) : laws_toStore.g a0 = some ((a0.map conv_Entry)) := by
  rw [laws_toStore.ge]
  simp only [toS_Entry a0 h0, Option.bind_some]
theorem eq_Store (a0 : (List S66)) (h0 : (Sm a0.length ∧ ∀ y ∈ a0, Ok_Entry y)) : laws_eqStore.g a0 a0 = some true := by
  rw [laws_eqStore.ge]
  simp [eqS_Entry a0 h0]
end Go.Proofs.Ytelmcjohkifeeaa.PA

namespace Go.Proofs.Ytelmcjohkifeeaa.PA
open Go.RowKit Go.Proofs.YtelmcjohkifeeaaW.PrintWords Go.Proofs.YtelmcjohkifeeaaW.PrintLast Go.Proofs.YtelmcjohkifeeaaW.PrintMore Go.Proofs.Ytelmcjohkifeeaa.Base Go.Proofs.Ytelmcjohkifeeaa.Lim
set_option linter.unusedVariables false
set_option linter.unusedSimpArgs false
/-- The sizes, added as an int adds them. -/
def addP (n : Int) (l : List S133) : Int := l.foldl (fun n p => wrap64 (n + (p.f1.size : Int))) n
def addE (n : Int) (l : List S66) : Int := l.foldl (fun n e => addP n e.f3) n
theorem wrap_wrap_add (a b : Int) : wrap64 (wrap64 a + b) = wrap64 (a + b) := by unfold wrap64; omega
theorem wrap_add_wrap (a b : Int) : wrap64 (a + wrap64 b) = wrap64 (a + b) := by unfold wrap64; omega
theorem wrap_wrap_sub (a b : Int) : wrap64 (wrap64 a - b) = wrap64 (a - b) := by unfold wrap64; omega
theorem wrap_wrap (a : Int) : wrap64 (wrap64 a) = wrap64 a := by unfold wrap64; omega
theorem addP_wrap (l : List S133) : ∀ n m : Int, wrap64 (n + addP m l) = addP (wrap64 (n + m)) l := by
  induction l with
  | nil => intro n m; rfl
  | cons x r ih =>
    intro n m
    show wrap64 (n + addP (wrap64 (m + (x.f1.size : Int))) r) = addP (wrap64 (wrap64 (n + m) + (x.f1.size : Int))) r
    rw [ih, wrap_add_wrap, wrap_wrap_add]
    congr 2
    omega
theorem spansOf_eq (l : List S133) (hn : l.length < 4398046511104 + 4398046511104) : spec_SpansOf.g l = some (l.map fun p => (⟨p.f0, wrap64 (p.f0 + (p.f1.size : Int))⟩ : S156)) := by
  have key : ∀ i, i ≤ l.length → spec_SpansOf.l0g l ((l.take i).map fun p => (⟨p.f0, wrap64 (p.f0 + (p.f1.size : Int))⟩ : S156)) (i : Int) = some (l.map fun p => (⟨p.f0, wrap64 (p.f0 + (p.f1.size : Int))⟩ : S156)) := by
    refine down ?_ ?_
    · rw [spec_SpansOf.l0e, if_neg not_lt_len, List.take_length]
    · intro i hi ih
      rw [spec_SpansOf.l0e, if_pos (nat_lt_len hi), if_pos (nat_nonneg i), if_pos (by simp; omega), w64_succ hi (by unfold Sm; omega)]
      rw [List.take_succ_eq_append_getElem hi, List.map_append] at ih
      simp only [rd_T133, Int.toNat_natCast, getD_at hi]
      exact ih
  rw [spec_SpansOf.ge]
  exact key 0 (by omega)
theorem step_eq (n a b : Int) : wrap64 ((wrap64 (n + (wrap64 (a + b)))) - a) = wrap64 (n + b) := by
  rw [wrap_add_wrap, wrap_wrap_sub]
  congr 1
  omega
theorem spanSize_eq (l : List S133) (hn : l.length < 4398046511104 + 4398046511104) : spec_SpanSize.g (l.map fun p => (⟨p.f0, wrap64 (p.f0 + (p.f1.size : Int))⟩ : S156)) = some (addP 0 l) := by
  rw [spec_SpanSize.ge]
  have e : ∀ (s : List S156), Sm s.length → ∀ n, spec_SpanSize.l0g s n 0 = some (s.foldl (fun n x => wrap64 ((wrap64 (n + x.f1)) - x.f0)) n) := by
    intro s hs
    refine loop0 (l := s) (fun n i => spec_SpanSize.l0g s n i) (fun n r => some (r.foldl (fun n x => wrap64 ((wrap64 (n + x.f1)) - x.f0)) n)) ?_ ?_
    · intro n
      rw [spec_SpanSize.l0e, if_neg not_lt_len]; rfl
    · intro i x r hi hx ih n
      rw [spec_SpanSize.l0e, if_pos (nat_lt_len hi), if_pos (nat_nonneg i), w64_succ hi hs]
      simp only [rd_T156, getD_x hx, ih]
      rfl
  rw [e _ (by rw [List.length_map]; unfold Sm; omega), List.foldl_map]
  unfold addP
  congr 2
  funext n p
  exact step_eq n p.f0 (p.f1.size : Int)
theorem addP_in (l : List S133) : ∀ n, wrap64 n = n → wrap64 (addP n l) = addP n l := by
  induction l with
  | nil => intro n h; exact h
  | cons x r ih => intro n h; exact ih _ (wrap_wrap _)
theorem spec_StoreSize_eq (l : List S66) (hn : Sm l.length) (hp : ∀ e ∈ l, e.f3.length < 4398046511104 + 4398046511104) : spec_StoreSize.g l = some (addE 0 l) := by
  rw [spec_StoreSize.ge]
  refine loopP (l := l) (fun n i => spec_StoreSize.l0g n i l) (fun n r => some (addE n r)) (fun n => wrap64 n = n) ?_ ?_ 0 (by unfold wrap64; omega)
  · intro n _
    rw [spec_StoreSize.l0e, if_neg not_lt_len]; rfl
  · intro i x r hi hx ih n h
    have hx3 := hp x (List.mem_of_getElem? hx)
    rw [spec_StoreSize.l0e, if_pos (nat_lt_len hi), if_pos (nat_nonneg i), w64_succ hi hn]
    simp only [rd_T66, getD_x hx, spansOf_eq _ hx3, spanSize_eq _ hx3, Option.bind_some]
    rw [ih _ (wrap_wrap _), addP_wrap]
    show some (addE (addP (wrap64 (n + 0)) x.f3) r) = some (addE (addP n x.f3) r)
    rw [Int.add_zero, h]
theorem impl_StoreSize_eq (l : List S66) (hn : Sm l.length) (hp : ∀ e ∈ l, Sm e.f3.length) : impl_StoreSize.g l = some (addE 0 l) := by
  rw [impl_StoreSize.ge]
  refine loop0 (l := l) (fun n i => impl_StoreSize.l0g n l (l.length : Int) i) (fun n r => some (addE n r)) ?_ ?_ 0
  · intro n
    rw [impl_StoreSize.l0e, if_neg not_lt_len]; rfl
  · intro i x r hi hx ih n
    have hx3 := hp x (List.mem_of_getElem? hx)
    rw [impl_StoreSize.l0e, if_pos (nat_lt_len hi), if_pos (nat_nonneg i), if_pos (nat_lt_len hi)]
    simp only [rd_T66, getD_x hx]
    have inner := loop0 (l := x.f3) (fun n j => impl_StoreSize.l1g n l (l.length : Int) (i : Int) x.f3 (x.f3.length : Int) j) (fun n q => some (addE (addP n q) r)) ?_ ?_ n
    · exact inner
    · intro m
      rw [impl_StoreSize.l1e, if_neg not_lt_len, w64_succ hi hn, ih]; rfl
    · intro j p q hj hp2 ih2 m
      rw [impl_StoreSize.l1e, if_pos (nat_lt_len hj), if_pos (nat_nonneg j), if_pos (nat_lt_len hj), w64_succ hj hx3]
      simp only [rd_T133, getD_x hp2, ih2]
      rfl
end Go.Proofs.Ytelmcjohkifeeaa.PA
