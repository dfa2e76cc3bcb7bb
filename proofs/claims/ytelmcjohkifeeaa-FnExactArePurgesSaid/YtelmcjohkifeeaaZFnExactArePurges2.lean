/- Laws about the functions that FnExactArePurges reaches. Conditions: bounds on sizes. -/
import Derived.Test.YtelmcjohkifeeaaWMore
import Derived.Test.YtelmcjohkifeeaaZFnExactArePurges1
namespace Go.Proofs.Ytelmcjohkifeeaa.Lim
open Go.RowKit Go.Proofs.YtelmcjohkifeeaaW.PrintWords Go.Proofs.YtelmcjohkifeeaaW.PrintLast Go.Proofs.YtelmcjohkifeeaaW.PrintMore
set_option linter.unusedVariables false

def Mono {α : Type} (g : Nat → Option α) : Prop := ∀ k, LeO (g k) (g (k + 1))
open Classical in
noncomputable def lim {α : Type} (g : Nat → Option α) : Option α := if h : ∃ r, ∃ k, g k = some r then some (Classical.choose h) else none

theorem Mono.uniq {α : Type} {g : Nat → Option α} (hg : Mono g) {k k' : Nat} {r r' : α} (h : g k = some r) (h' : g k' = some r') : r = r' := by
  have h1 := at_rounds hg (Nat.le_max_left k k') h
  have h2 := at_rounds hg (Nat.le_max_right k k') h'
  exact Option.some.inj (h1.symm.trans h2)

theorem lim_some {α : Type} {g : Nat → Option α} (hg : Mono g) {r : α} : lim g = some r ↔ ∃ k, g k = some r := by
  unfold lim
  constructor
  · intro h
    split at h
    · rename_i he
      obtain ⟨k, hk⟩ := Classical.choose_spec he
      cases h
      exact ⟨k, hk⟩
    · cases h
  · rintro ⟨k, hk⟩
    have he : ∃ r, ∃ k, g k = some r := ⟨r, k, hk⟩
    rw [dif_pos he]
    obtain ⟨k', hk'⟩ := Classical.choose_spec he
    exact congrArg some (hg.uniq hk' hk)

/-- With enough rounds g comes to x; more rounds tell the same. -/
def Lim {α : Type} (g : Nat → Option α) (x : Option α) : Prop := Mono g ∧ lim g = x

theorem Lim.of {α : Type} {g : Nat → Option α} (h : ∀ k, LeO (g k) (g (k + 1))) : Lim g (lim g) := ⟨h, rfl⟩
theorem Lim.intro {α : Type} {g : Nat → Option α} {x : Option α} (hg : Mono g) (h : ∀ r, x = some r ↔ ∃ k, g k = some r) : Lim g x := by
  refine ⟨hg, ?_⟩
  cases hx : x with
  | some r => exact (lim_some hg).2 ((h r).1 hx)
  | none =>
    cases hl : lim g with
    | none => rfl
    | some r =>
      have := (h r).2 ((lim_some hg).1 hl)
      rw [hx] at this
      cases this
theorem Lim.iff {α : Type} {g : Nat → Option α} {x : Option α} (h : Lim g x) {r : α} : x = some r ↔ ∃ k, g k = some r := by
  rw [← h.2]
  exact lim_some h.1
theorem Lim.const {α : Type} (x : Option α) : Lim (fun _ => x) x := Lim.intro (fun _ => LeO.refl _) (fun r => ⟨fun h => ⟨0, h⟩, fun ⟨_, h⟩ => h⟩)
theorem Lim.ite {α : Type} {c : Prop} [Decidable c] {g f : Nat → Option α} {x y : Option α} (hg : Lim g x) (hf : Lim f y) : Lim (fun k => if c then g k else f k) (if c then x else y) := by
  by_cases h : c
  · simp only [if_pos h]; exact hg
  · simp only [if_neg h]; exact hf
theorem Lim.bind {α β : Type} {g : Nat → Option α} {f : Nat → α → Option β} {x : Option α} {y : α → Option β} (hg : Lim g x) (hf : ∀ a, Lim (fun k => f k a) (y a)) : Lim (fun k => (g k).bind (f k)) (x.bind y) := by
  refine Lim.intro (fun k => LeO.bind (hg.1 k) (fun a => (hf a).1 k)) (fun r => ?_)
  constructor
  · intro h
    obtain ⟨a, ha, hr⟩ := Option.bind_eq_some_iff.1 h
    obtain ⟨k, hk⟩ := hg.iff.1 ha
    obtain ⟨k', hk'⟩ := (hf a).iff.1 hr
    refine ⟨max k k', Option.bind_eq_some_iff.2 ⟨a, at_rounds hg.1 (Nat.le_max_left _ _) hk, ?_⟩⟩
    exact at_rounds (g := fun k => f k a) (hf a).1 (Nat.le_max_right _ _) hk'
  · rintro ⟨k, hk⟩
    obtain ⟨a, ha, hr⟩ := Option.bind_eq_some_iff.1 hk
    exact Option.bind_eq_some_iff.2 ⟨a, hg.iff.2 ⟨k, ha⟩, (hf a).iff.2 ⟨k, hr⟩⟩
theorem Lim.succ {α : Type} {g : Nat → Option α} {x : Option α} (h : Lim g x) : Lim (fun k => g (k + 1)) x := by
  refine Lim.intro (fun k => h.1 (k + 1)) (fun r => ?_)
  rw [h.iff]
  constructor
  · rintro ⟨k, hk⟩; exact ⟨k, h.1 k r hk⟩
  · rintro ⟨k, hk⟩; exact ⟨k + 1, hk⟩
theorem Lim.uniq {α : Type} {g : Nat → Option α} {x y : Option α} (h : Lim g x) (h' : Lim g y) : x = y := h.2.symm.trans h'.2
/-- A loop's equation: one round of it. -/
theorem Lim.round {α : Type} {g : Nat → Option α} {x y : Option α} (h : Lim g x) (h' : Lim (fun k => g (k + 1)) y) : x = y := h.succ.uniq h'
theorem Lim.rounds {α : Type} {g : Nat → Option α} {x : Option α} (h : Lim g x) {r : α} (hx : x = some r) : ∃ k, g k = some r := h.iff.1 hx

end Go.Proofs.Ytelmcjohkifeeaa.Lim

namespace Go.Proofs.Ytelmcjohkifeeaa.Base
open Go.RowKit Go.Proofs.YtelmcjohkifeeaaW.PrintWords Go.Proofs.YtelmcjohkifeeaaW.PrintLast Go.Proofs.YtelmcjohkifeeaaW.PrintMore Go.Proofs.Ytelmcjohkifeeaa.Lim
set_option linter.unusedVariables false

def Big : Nat := 4611686018427387904
theorem Big_eq : Big = 4611686018427387904 := rfl
/-- Far below the bound of an int. -/
abbrev Sm (n : Nat) : Prop := n ≤ 4611686018427387904

theorem w64 {x : Int} (h0 : -9223372036854775808 ≤ x) (h1 : x ≤ 9223372036854775807) : wrap64 x = x := by
  unfold wrap64
  omega
theorem w64_succ {i n : Nat} (h : i < n) (hn : Sm n) : wrap64 ((i : Int) + 1) = ((i + 1 : Nat) : Int) := by
  rw [w64 (by omega) (by unfold Sm at hn; omega)]
  rfl
theorem down {n : Nat} {C : Nat → Prop} (h0 : C n) (hs : ∀ i, i < n → C (i + 1) → C i) : ∀ i, i ≤ n → C i := by
  intro i hi
  obtain ⟨d, rfl⟩ : ∃ d, n = i + d := ⟨n - i, by omega⟩
  clear hi
  induction d generalizing i with
  | zero => exact h0
  | succ d ih =>
    refine hs i (by omega) (ih (i + 1) ?_ ?_)
    · rw [show i + 1 + d = i + (d + 1) by omega]; exact h0
    · intro j hj hc
      exact hs j (by omega) hc
theorem drop_cons {α : Type} {l : List α} {i : Nat} (h : i < l.length) : l.drop i = l[i] :: l.drop (i + 1) := List.drop_eq_getElem_cons h
theorem getD_at {α : Type} {l : List α} {i : Nat} {d : α} (h : i < l.length) : l.getD i d = l[i] := by
  rw [List.getD_eq_getElem?_getD, List.getElem?_eq_getElem h]
  rfl
theorem nat_lt_len {α : Type} {l : List α} {i : Nat} (h : i < l.length) : (i : Int) < (l.length : Int) := by omega
theorem not_lt_len {α : Type} {l : List α} : ¬ (l.length : Int) < (l.length : Int) := by omega
theorem nat_nonneg (i : Nat) : (0 : Int) ≤ (i : Int) := by omega

/-- A loop over a list, from place i on, with what it carries. -/
theorem loop {α σ R : Type} {l : List α} {L : σ → Int → R} {M : σ → List α → R} (hnil : ∀ s, L s (l.length : Int) = M s [])
    (hcons : ∀ (i : Nat) (x : α) (r : List α), i < l.length → l[i]? = some x → (∀ s, L s ((i + 1 : Nat) : Int) = M s r) → ∀ s, L s (i : Int) = M s (x :: r)) :
    ∀ i, i ≤ l.length → ∀ s, L s (i : Int) = M s (l.drop i) := by
  refine down ?_ ?_
  · intro s
    rw [List.drop_length]
    exact hnil s
  · intro i hi ih s
    rw [drop_cons hi]
    exact hcons i _ _ hi (List.getElem?_eq_getElem hi) ih s
theorem loop0 {α σ R : Type} {l : List α} (L : σ → Int → R) (M : σ → List α → R) (hnil : ∀ s, L s (l.length : Int) = M s [])
    (hcons : ∀ (i : Nat) (x : α) (r : List α), i < l.length → l[i]? = some x → (∀ s, L s ((i + 1 : Nat) : Int) = M s r) → ∀ s, L s (i : Int) = M s (x :: r)) (s : σ) : L s 0 = M s l := by
  have := loop hnil hcons 0 (by omega) s
  simpa using this
/-- .. that carries nothing. -/
theorem loop1 {α R : Type} {l : List α} (L : Int → R) (M : List α → R) (hnil : L (l.length : Int) = M [])
    (hcons : ∀ (i : Nat) (x : α) (r : List α), i < l.length → l[i]? = some x → L ((i + 1 : Nat) : Int) = M r → L (i : Int) = M (x :: r)) : L 0 = M l :=
  loop0 (σ := Unit) (fun _ i => L i) (fun _ r => M r) (fun _ => hnil) (fun i x r hi hx ih _ => hcons i x r hi hx (ih ())) ()
theorem getD_x {α : Type} {l : List α} {i : Nat} {x d : α} (h : l[i]? = some x) : l.getD (i : Int).toNat d = x := by
  rw [Int.toNat_natCast, List.getD_eq_getElem?_getD, h]
  rfl

/-- .. under a condition on what it carries. -/
theorem loopP {α σ R : Type} {l : List α} (L : σ → Int → R) (M : σ → List α → R) (P : σ → Prop) (hnil : ∀ s, P s → L s (l.length : Int) = M s [])
    (hcons : ∀ (i : Nat) (x : α) (r : List α), i < l.length → l[i]? = some x → (∀ s, P s → L s ((i + 1 : Nat) : Int) = M s r) → ∀ s, P s → L s (i : Int) = M s (x :: r)) (s : σ) (hs : P s) : L s 0 = M s l := by
  have key : ∀ i, i ≤ l.length → ∀ s, P s → L s (i : Int) = M s (l.drop i) := by
    refine down ?_ ?_
    · intro s hs
      rw [List.drop_length]
      exact hnil s hs
    · intro i hi ih s hs
      rw [drop_cons hi]
      exact hcons i _ _ hi (List.getElem?_eq_getElem hi) ih s hs
  have := key 0 (by omega) s hs
  simpa using this

/-- What is left of a measure, -1 where it does not reach. -/
def sub (left : Int) (n : Nat) : Int := if (n : Int) ≤ left then left - n else -1
theorem sub_neg {left : Int} {n : Nat} (h : left < (n : Int)) : some (-1) = some (sub left n) := by
  unfold sub
  rw [if_neg (by omega)]
theorem sub_lt {left : Int} {n : Nat} (h : left < (n : Int)) : sub left n < 0 := by
  unfold sub
  rw [if_neg (by omega)]
  omega
theorem sub_nlt {left : Int} {n : Nat} (h0 : 0 ≤ left) (h : ¬ left < (n : Int)) : ¬ sub left n < 0 := by
  unfold sub
  rw [if_pos (by omega)]
  omega
theorem sub_ge {left : Int} {n : Nat} (h : ¬ left < (n : Int)) : sub left n = left - n := by
  unfold sub
  rw [if_pos (by omega)]
theorem sub_add {left : Int} {n m : Nat} (h : ¬ left < (n : Int)) : sub (left - n) m = sub left (n + m) := by
  unfold sub
  by_cases c : (m : Int) ≤ left - n
  · rw [if_pos c, if_pos (by omega)]; omega
  · rw [if_neg c, if_neg (by omega)]
theorem sub_step {left : Int} {n m : Nat} (h : ¬ left < (n : Int)) : some (sub (left - n) m) = some (sub left (n + m)) := by rw [sub_add h]

theorem set_append {α : Type} (xs : List α) (y : α) (z : α) (n : Nat) : (xs ++ y :: List.replicate n z).set xs.length = fun v => xs ++ v :: List.replicate n z := by
  funext v
  rw [List.set_append_right _ _ (Nat.le_refl _)]
  simp
/-- The way that a list is copied: place by place into a made one. -/
theorem copied {α β : Type} (f : α → β) (z : β) (l : List α) (i : Nat) (hi : i < l.length) :
    ((l.take i).map f ++ List.replicate (l.length - i) z).set i (f l[i]) = (l.take (i + 1)).map f ++ List.replicate (l.length - (i + 1)) z := by
  have hlen : ((l.take i).map f).length = i := by simp; omega
  rw [List.set_append_right _ _ (by omega), hlen, Nat.sub_self]
  obtain ⟨m, hm⟩ : ∃ m, l.length - i = m + 1 := ⟨l.length - i - 1, by omega⟩
  rw [hm, show l.length - (i + 1) = m by omega, List.replicate_succ, List.set_cons_zero, List.take_succ_eq_append_getElem hi, List.map_append]
  simp
theorem pure_of {g : Nat → Option Bool} {x : Option Bool} (h : Lim g x) (hx : x = some true) : ∃ k, g k = some true := h.rounds hx

end Go.Proofs.Ytelmcjohkifeeaa.Base

namespace Go.Proofs.Ytelmcjohkifeeaa.PA
open Go.RowKit Go.Proofs.YtelmcjohkifeeaaW.PrintWords Go.Proofs.YtelmcjohkifeeaaW.PrintLast Go.Proofs.YtelmcjohkifeeaaW.PrintMore Go.Proofs.Ytelmcjohkifeeaa.Lim
set_option linter.unusedVariables false
set_option linter.unusedSimpArgs false
noncomputable def laws_szPurgeS.l0g (y0 : List (S71)) (y1 : Int) (y2 : Int) : Option (Int) := lim (fun k => laws_szPurgeS.l0 k y0 y1 y2)
theorem laws_szPurgeS.l0L (y0 : List (S71)) (y1 : Int) (y2 : Int) : Lim (fun k => laws_szPurgeS.l0 k y0 y1 y2) (laws_szPurgeS.l0g y0 y1 y2) := Lim.of (fun k => (laws_szPurgeS.mono_l k) y0 y1 y2)
theorem laws_szPurgeS.l0e (x0 : List (S71)) (x1 : Int) (x5 : Int) : laws_szPurgeS.l0g x0 x1 x5 = (if x5 < (x0.length : Int) then (if 0 ≤ x5 then ((laws_szPurge.f ((rd_T71 x0 x5).f0) ((rd_T71 x0 x5).f1) ((rd_T71 x0 x5).f2) x1).bind fun t103 => (if t103 < 0 then (some (-1)) else (laws_szPurgeS.l0g x0 t103 (wrap64 (x5 + 1))))) else (none)) else (some x1)) := by
  refine Lim.round (laws_szPurgeS.l0L x0 x1 x5) ?_
  show Lim (fun k => if x5 < (x0.length : Int) then (if 0 ≤ x5 then ((laws_szPurge.f ((rd_T71 x0 x5).f0) ((rd_T71 x0 x5).f1) ((rd_T71 x0 x5).f2) x1).bind fun t103 => (if t103 < 0 then (some (-1)) else (laws_szPurgeS.l0 k x0 t103 (wrap64 (x5 + 1))))) else (none)) else (some x1)) _
  repeat' first | (with_reducible exact Lim.const _) | (with_reducible exact laws_szPurgeS.l0L _ _ _) | (with_reducible refine Lim.ite ?_ ?_) | (with_reducible refine Lim.bind ?_ (fun _ => ?_)) | exact Lim.const _ | refine Lim.ite ?_ ?_ | refine Lim.bind ?_ (fun _ => ?_) | exact laws_szPurgeS.l0L _ _ _
noncomputable def laws_szPurgeS.g (l0 : List (S71)) (a1 : Int) : Option (Int) := lim (fun k => laws_szPurgeS.f k l0 a1)
theorem laws_szPurgeS.L (l0 : List (S71)) (a1 : Int) : Lim (fun k => laws_szPurgeS.f k l0 a1) (laws_szPurgeS.g l0 a1) := Lim.of (fun k => laws_szPurgeS.mono l0 a1 k)
theorem laws_szPurgeS.ge (l0 : List (S71)) (a1 : Int) : laws_szPurgeS.g l0 a1 = (if (wrap64 (a1 - (l0.length : Int))) < 0 then (some (-1)) else (laws_szPurgeS.l0g l0 (wrap64 (a1 - (l0.length : Int))) 0)) := by
  refine Lim.uniq (laws_szPurgeS.L l0 a1) ?_
  show Lim (fun k => if (wrap64 (a1 - (l0.length : Int))) < 0 then (some (-1)) else (laws_szPurgeS.l0 k l0 (wrap64 (a1 - (l0.length : Int))) 0)) _
  repeat' first | (with_reducible exact Lim.const _) | (with_reducible exact laws_szPurgeS.l0L _ _ _) | (with_reducible refine Lim.ite ?_ ?_) | (with_reducible refine Lim.bind ?_ (fun _ => ?_)) | exact Lim.const _ | refine Lim.ite ?_ ?_ | refine Lim.bind ?_ (fun _ => ?_) | exact laws_szPurgeS.l0L _ _ _
end Go.Proofs.Ytelmcjohkifeeaa.PA

namespace Go.Proofs.Ytelmcjohkifeeaa.PA
open Go.RowKit Go.Proofs.YtelmcjohkifeeaaW.PrintWords Go.Proofs.YtelmcjohkifeeaaW.PrintLast Go.Proofs.YtelmcjohkifeeaaW.PrintMore Go.Proofs.Ytelmcjohkifeeaa.Lim
set_option linter.unusedVariables false
set_option linter.unusedSimpArgs false
noncomputable def laws_toPurgeS.l0g (y0 : List (S71)) (y1 : List (S75)) (y2 : Int) : Option ((List (S75))) := lim (fun k => laws_toPurgeS.l0 k y0 y1 y2)
theorem laws_toPurgeS.l0L (y0 : List (S71)) (y1 : List (S75)) (y2 : Int) : Lim (fun k => laws_toPurgeS.l0 k y0 y1 y2) (laws_toPurgeS.l0g y0 y1 y2) := Lim.of (fun k => (laws_toPurgeS.mono_l k) y0 y1 y2)
theorem laws_toPurgeS.l0e (x0 : List (S71)) (x3 : List (S75)) (x4 : Int) : laws_toPurgeS.l0g x0 x3 x4 = (if x4 < (x0.length : Int) then (if 0 ≤ x4 then ((laws_toPurge.f ((rd_T71 x0 x4).f0) ((rd_T71 x0 x4).f1) ((rd_T71 x0 x4).f2)).bind fun bt118 => (if x4 < (x3.length : Int) then (laws_toPurgeS.l0g x0 (x3.set (x4 : Int).toNat (⟨bt118.1, bt118.2.1, bt118.2.2⟩ : S75)) (wrap64 (x4 + 1))) else (none))) else (none)) else (some x3)) := by
  refine Lim.round (laws_toPurgeS.l0L x0 x3 x4) ?_
  show Lim (fun k => if x4 < (x0.length : Int) then (if 0 ≤ x4 then ((laws_toPurge.f ((rd_T71 x0 x4).f0) ((rd_T71 x0 x4).f1) ((rd_T71 x0 x4).f2)).bind fun bt118 => (if x4 < (x3.length : Int) then (laws_toPurgeS.l0 k x0 (x3.set (x4 : Int).toNat (⟨bt118.1, bt118.2.1, bt118.2.2⟩ : S75)) (wrap64 (x4 + 1))) else (none))) else (none)) else (some x3)) _
  repeat' first | (with_reducible exact Lim.const _) | (with_reducible exact laws_toPurgeS.l0L _ _ _) | (with_reducible refine Lim.ite ?_ ?_) | (with_reducible refine Lim.bind ?_ (fun _ => ?_)) | exact Lim.const _ | refine Lim.ite ?_ ?_ | refine Lim.bind ?_ (fun _ => ?_) | exact laws_toPurgeS.l0L _ _ _
noncomputable def laws_toPurgeS.g (l0 : List (S71)) : Option ((List (S75))) := lim (fun k => laws_toPurgeS.f k l0)
theorem laws_toPurgeS.L (l0 : List (S71)) : Lim (fun k => laws_toPurgeS.f k l0) (laws_toPurgeS.g l0) := Lim.of (fun k => laws_toPurgeS.mono l0 k)
theorem laws_toPurgeS.ge (l0 : List (S71)) : laws_toPurgeS.g l0 = (if 0 ≤ (l0.length : Int) then (if ((l0.length : Int) : Int).toNat ≤ 8796093022208 then (laws_toPurgeS.l0g l0 (List.replicate ((l0.length : Int) : Int).toNat z75) 0) else (none)) else (none)) := by
  refine Lim.uniq (laws_toPurgeS.L l0) ?_
  show Lim (fun k => if 0 ≤ (l0.length : Int) then (if ((l0.length : Int) : Int).toNat ≤ 8796093022208 then (laws_toPurgeS.l0 k l0 (List.replicate ((l0.length : Int) : Int).toNat z75) 0) else (none)) else (none)) _
  repeat' first | (with_reducible exact Lim.const _) | (with_reducible exact laws_toPurgeS.l0L _ _ _) | (with_reducible refine Lim.ite ?_ ?_) | (with_reducible refine Lim.bind ?_ (fun _ => ?_)) | exact Lim.const _ | refine Lim.ite ?_ ?_ | refine Lim.bind ?_ (fun _ => ?_) | exact laws_toPurgeS.l0L _ _ _
end Go.Proofs.Ytelmcjohkifeeaa.PA

namespace Go.Proofs.Ytelmcjohkifeeaa.PA
open Go.RowKit Go.Proofs.YtelmcjohkifeeaaW.PrintWords Go.Proofs.YtelmcjohkifeeaaW.PrintLast Go.Proofs.YtelmcjohkifeeaaW.PrintMore Go.Proofs.Ytelmcjohkifeeaa.Lim
set_option linter.unusedVariables false
set_option linter.unusedSimpArgs false
noncomputable def laws_eqPurgeS.l0g (y0 : List (S75)) (y1 : List (S75)) (y2 : Int) : Option (Bool) := lim (fun k => laws_eqPurgeS.l0 k y0 y1 y2)
theorem laws_eqPurgeS.l0L (y0 : List (S75)) (y1 : List (S75)) (y2 : Int) : Lim (fun k => laws_eqPurgeS.l0 k y0 y1 y2) (laws_eqPurgeS.l0g y0 y1 y2) := Lim.of (fun k => (laws_eqPurgeS.mono_l k) y0 y1 y2)
theorem laws_eqPurgeS.l0e (x0 : List (S75)) (x1 : List (S75)) (x5 : Int) : laws_eqPurgeS.l0g x0 x1 x5 = (if x5 < (x0.length : Int) then (if 0 ≤ x5 then (if x5 < (x1.length : Int) then ((laws_eqPurge.f ((rd_T75 x0 x5).f0) ((rd_T75 x0 x5).f1) ((rd_T75 x0 x5).f2) ((rd_T75 x1 x5).f0) ((rd_T75 x1 x5).f1) ((rd_T75 x1 x5).f2)).bind fun t133 => (if t133 = true then (laws_eqPurgeS.l0g x0 x1 (wrap64 (x5 + 1))) else (some false))) else (none)) else (none)) else (some true)) := by
  refine Lim.round (laws_eqPurgeS.l0L x0 x1 x5) ?_
  show Lim (fun k => if x5 < (x0.length : Int) then (if 0 ≤ x5 then (if x5 < (x1.length : Int) then ((laws_eqPurge.f ((rd_T75 x0 x5).f0) ((rd_T75 x0 x5).f1) ((rd_T75 x0 x5).f2) ((rd_T75 x1 x5).f0) ((rd_T75 x1 x5).f1) ((rd_T75 x1 x5).f2)).bind fun t133 => (if t133 = true then (laws_eqPurgeS.l0 k x0 x1 (wrap64 (x5 + 1))) else (some false))) else (none)) else (none)) else (some true)) _
  repeat' first | (with_reducible exact Lim.const _) | (with_reducible exact laws_eqPurgeS.l0L _ _ _) | (with_reducible refine Lim.ite ?_ ?_) | (with_reducible refine Lim.bind ?_ (fun _ => ?_)) | exact Lim.const _ | refine Lim.ite ?_ ?_ | refine Lim.bind ?_ (fun _ => ?_) | exact laws_eqPurgeS.l0L _ _ _
noncomputable def laws_eqPurgeS.g (l0 : List (S75)) (l1 : List (S75)) : Option (Bool) := lim (fun k => laws_eqPurgeS.f k l0 l1)
theorem laws_eqPurgeS.L (l0 : List (S75)) (l1 : List (S75)) : Lim (fun k => laws_eqPurgeS.f k l0 l1) (laws_eqPurgeS.g l0 l1) := Lim.of (fun k => laws_eqPurgeS.mono l0 l1 k)
theorem laws_eqPurgeS.ge (l0 : List (S75)) (l1 : List (S75)) : laws_eqPurgeS.g l0 l1 = (if (l0.length : Int) = (l1.length : Int) then (laws_eqPurgeS.l0g l0 l1 0) else (some false)) := by
  refine Lim.uniq (laws_eqPurgeS.L l0 l1) ?_
  show Lim (fun k => if (l0.length : Int) = (l1.length : Int) then (laws_eqPurgeS.l0 k l0 l1 0) else (some false)) _
  repeat' first | (with_reducible exact Lim.const _) | (with_reducible exact laws_eqPurgeS.l0L _ _ _) | (with_reducible refine Lim.ite ?_ ?_) | (with_reducible refine Lim.bind ?_ (fun _ => ?_)) | exact Lim.const _ | refine Lim.ite ?_ ?_ | refine Lim.bind ?_ (fun _ => ?_) | exact laws_eqPurgeS.l0L _ _ _
end Go.Proofs.Ytelmcjohkifeeaa.PA

namespace Go.Proofs.Ytelmcjohkifeeaa.PA
open Go.RowKit Go.Proofs.YtelmcjohkifeeaaW.PrintWords Go.Proofs.YtelmcjohkifeeaaW.PrintLast Go.Proofs.YtelmcjohkifeeaaW.PrintMore Go.Proofs.Ytelmcjohkifeeaa.Base Go.Proofs.Ytelmcjohkifeeaa.Lim
set_option linter.unusedVariables false
set_option linter.unusedSimpArgs false

def Bd71 (x : S71) : Prop := (Lit.int .i64 x.f0).wf = true ∧ (Lit.int .i64 x.f1).wf = true ∧ x.f2.size ≤ 140737488351232
def wt_Purge (x : S71) : Nat := x.f2.size
def conv_Purge (x : S71) : S75 := ⟨x.f0, x.f1, x.f2⟩
theorem sz_Purge (a0 : Int) (a1 : Int) (a2 : ByteArray) (left : Int) (h2 : a2.size ≤ 140737488351232) (hl : 0 ≤ left) (hm : left ≤ 4611686018427387904) : laws_szPurge.f a0 a1 a2 left = some (sub left (a2.size)) := by
  unfold laws_szPurge.f
  rw [w64 (x := left - (a2.size : Int)) (by omega) (by omega)]
  by_cases c0 : left - (a2.size : Int) < 0
  · rw [if_pos c0]; exact sub_neg (by omega)
  rw [if_neg c0]
  all_goals (refine congrArg some ?_; first | (rw [sub_ge (by omega)]; done) | (rw [sub_ge (by omega)]; omega))
theorem to_Purge (a0 : Int) (a1 : Int) (a2 : ByteArray)  : laws_toPurge.f a0 a1 a2 = some (a0, a1, a2) := by
  rfl
theorem eq_Purge (a0 : Int) (a1 : Int) (a2 : ByteArray)  : laws_eqPurge.f a0 a1 a2 a0 a1 a2 = some true := by
  unfold laws_eqPurge.f
  simp
def wtS_Purge : List S71 → Nat := fun l => l.length + (l.map wt_Purge).sum
theorem szS_Purge (l : List S71) (left : Int) (h : l.length * 32 ≤ 140737488351232 ∧ l.length ≤ maxLen ∧ ∀ y ∈ l, Bd71 y) (hl : 0 ≤ left) (hm : left ≤ 4611686018427387904) : laws_szPurgeS.g l left = some (sub left (wtS_Purge l)) := by
  obtain ⟨h1, h2, h3⟩ := h
  have hn : Sm l.length := by unfold Sm; omega
  rw [laws_szPurgeS.ge, w64 (by omega) (by omega)]
  unfold wtS_Purge
  by_cases c : left - (l.length : Int) < 0
  · rw [if_pos c]; exact sub_neg (by omega)
  rw [if_neg c]
  have key := loopP (l := l) (fun s i => laws_szPurgeS.l0g l s i) (fun s r => some (sub s ((r.map wt_Purge).sum))) (fun s => 0 ≤ s ∧ s ≤ 4611686018427387904) ?_ ?_ (left - (l.length : Int)) ⟨by omega, by omega⟩
  · rw [key, sub_add (by omega)]
  · rintro s ⟨hs0, hs1⟩
    rw [laws_szPurgeS.l0e, if_neg not_lt_len]
    simp [sub, hs0]
  · rintro i x r hi hx ih s ⟨hs0, hs1⟩
    have hb := h3 x (List.mem_of_getElem? hx)
    rw [laws_szPurgeS.l0e, if_pos (nat_lt_len hi), if_pos (nat_nonneg i), w64_succ hi hn]
    simp only [rd_T71, getD_x hx]
    rw [sz_Purge x.f0 x.f1 x.f2 s hb.2.2 hs0 hs1, Option.bind_some]
    rw [List.map_cons, List.sum_cons]
    show (if sub s (wt_Purge x) < 0 then some (-1) else laws_szPurgeS.l0g l (sub s (wt_Purge x)) _) = _
    by_cases c2 : s < ((wt_Purge x : Nat) : Int)
    · rw [if_pos (sub_lt c2)]; exact sub_neg (by omega)
    rw [if_neg (sub_nlt hs0 c2), sub_ge c2, ih _ ⟨by omega, by omega⟩]; exact sub_step (by omega)
theorem toS_Purge (l : List S71) (h : l.length * 32 ≤ 140737488351232 ∧ l.length ≤ maxLen ∧ ∀ y ∈ l, Bd71 y) : laws_toPurgeS.g l = some (l.map conv_Purge) := by
  obtain ⟨h1, h2, h3⟩ := h
  have key : ∀ i, i ≤ l.length → laws_toPurgeS.l0g l ((l.take i).map conv_Purge ++ List.replicate (l.length - i) z75) (i : Int) = some (l.map conv_Purge) := by
    refine down ?_ ?_
    · rw [laws_toPurgeS.l0e, if_neg not_lt_len]
      simp
    · intro i hi ih
      have hb := h3 l[i] (List.getElem_mem hi)
      rw [laws_toPurgeS.l0e, if_pos (nat_lt_len hi), if_pos (nat_nonneg i)]
      simp only [rd_T71, Int.toNat_natCast, getD_at hi]
      rw [to_Purge l[i].f0 l[i].f1 l[i].f2 , Option.bind_some, if_pos (by simp; omega), w64_succ hi (by unfold Sm; omega)]
      have e := copied conv_Purge z75 l i hi
      rw [← e] at ih
      exact ih
  rw [laws_toPurgeS.ge, if_pos (by omega), if_pos (by rw [Int.toNat_natCast]; omega)]
  have := key 0 (by omega)
  simpa using this
theorem eqS_Purge (l : List S75) (h : Sm l.length) : laws_eqPurgeS.g l l = some true := by
  have hn := h
  rw [laws_eqPurgeS.ge, if_pos rfl]
  refine loop1 (l := l) (fun i => laws_eqPurgeS.l0g l l i) (fun _ => some true) ?_ ?_
  · rw [laws_eqPurgeS.l0e, if_neg not_lt_len]
  · intro i x r hi hx ih
    rw [laws_eqPurgeS.l0e, if_pos (nat_lt_len hi), if_pos (nat_nonneg i), if_pos (nat_lt_len hi), w64_succ hi hn, ih]
    simp only [rd_T75, getD_x hx]
    rw [eq_Purge x.f0 x.f1 x.f2 , Option.bind_some, if_pos rfl]
end Go.Proofs.Ytelmcjohkifeeaa.PA

namespace Go.Proofs.Ytelmcjohkifeeaa.PA
open Go.RowKit Go.Proofs.YtelmcjohkifeeaaW.PrintWords Go.Proofs.YtelmcjohkifeeaaW.PrintLast Go.Proofs.YtelmcjohkifeeaaW.PrintMore Go.Proofs.Ytelmcjohkifeeaa.Lim
set_option linter.unusedVariables false
set_option linter.unusedSimpArgs false
noncomputable def spec_ArePurges.l0g (y0 : List (S75)) (y1 : Int) : Option (Bool) := lim (fun k => spec_ArePurges.l0 k y0 y1)
theorem spec_ArePurges.l0L (y0 : List (S75)) (y1 : Int) : Lim (fun k => spec_ArePurges.l0 k y0 y1) (spec_ArePurges.l0g y0 y1) := Lim.of (fun k => (spec_ArePurges.mono_l k) y0 y1)
theorem spec_ArePurges.l0e (x0 : List (S75)) (x3 : Int) : spec_ArePurges.l0g x0 x3 = (if x3 < (x0.length : Int) then (if 0 ≤ x3 then ((spec_IsPurge.f ((rd_T75 x0 x3).f0) ((rd_T75 x0 x3).f1) ((rd_T75 x0 x3).f2)).bind fun t108 => (if t108 = true then (if x3 > 0 then (if 0 ≤ (wrap64 (x3 - 1)) then (if (wrap64 (x3 - 1)) < (x0.length : Int) then (if ((rd_T75 x0 (wrap64 (x3 - 1))).f0) ≥ ((rd_T75 x0 x3).f0) then (some false) else (spec_ArePurges.l0g x0 (wrap64 (x3 + 1)))) else (none)) else (none)) else (spec_ArePurges.l0g x0 (wrap64 (x3 + 1)))) else (some false))) else (none)) else (some (decide ((x0.length : Int) ≤ 20)))) := by
  refine Lim.round (spec_ArePurges.l0L x0 x3) ?_
  show Lim (fun k => if x3 < (x0.length : Int) then (if 0 ≤ x3 then ((spec_IsPurge.f ((rd_T75 x0 x3).f0) ((rd_T75 x0 x3).f1) ((rd_T75 x0 x3).f2)).bind fun t108 => (if t108 = true then (if x3 > 0 then (if 0 ≤ (wrap64 (x3 - 1)) then (if (wrap64 (x3 - 1)) < (x0.length : Int) then (if ((rd_T75 x0 (wrap64 (x3 - 1))).f0) ≥ ((rd_T75 x0 x3).f0) then (some false) else (spec_ArePurges.l0 k x0 (wrap64 (x3 + 1)))) else (none)) else (none)) else (spec_ArePurges.l0 k x0 (wrap64 (x3 + 1)))) else (some false))) else (none)) else (some (decide ((x0.length : Int) ≤ 20)))) _
  repeat' first | (with_reducible exact Lim.const _) | (with_reducible exact spec_ArePurges.l0L _ _) | (with_reducible refine Lim.ite ?_ ?_) | (with_reducible refine Lim.bind ?_ (fun _ => ?_)) | exact Lim.const _ | refine Lim.ite ?_ ?_ | refine Lim.bind ?_ (fun _ => ?_) | exact spec_ArePurges.l0L _ _
noncomputable def spec_ArePurges.g (l0 : List (S75)) : Option (Bool) := lim (fun k => spec_ArePurges.f k l0)
theorem spec_ArePurges.L (l0 : List (S75)) : Lim (fun k => spec_ArePurges.f k l0) (spec_ArePurges.g l0) := Lim.of (fun k => spec_ArePurges.mono l0 k)
theorem spec_ArePurges.ge (l0 : List (S75)) : spec_ArePurges.g l0 = (spec_ArePurges.l0g l0 0) := by
  refine Lim.uniq (spec_ArePurges.L l0) ?_
  show Lim (fun k => spec_ArePurges.l0 k l0 0) _
  repeat' first | (with_reducible exact Lim.const _) | (with_reducible exact spec_ArePurges.l0L _ _) | (with_reducible refine Lim.ite ?_ ?_) | (with_reducible refine Lim.bind ?_ (fun _ => ?_)) | exact Lim.const _ | refine Lim.ite ?_ ?_ | refine Lim.bind ?_ (fun _ => ?_) | exact spec_ArePurges.l0L _ _
end Go.Proofs.Ytelmcjohkifeeaa.PA

namespace Go.Proofs.Ytelmcjohkifeeaa.PA
open Go.RowKit Go.Proofs.YtelmcjohkifeeaaW.PrintWords Go.Proofs.YtelmcjohkifeeaaW.PrintLast Go.Proofs.YtelmcjohkifeeaaW.PrintMore Go.Proofs.Ytelmcjohkifeeaa.Lim
set_option linter.unusedVariables false
set_option linter.unusedSimpArgs false
noncomputable def impl_ArePurges.l0g (y0 : List (S75)) (y1 : List (S75)) (y2 : Int) (y3 : Int) : Option (Bool) := lim (fun k => impl_ArePurges.l0 k y0 y1 y2 y3)
theorem impl_ArePurges.l0L (y0 : List (S75)) (y1 : List (S75)) (y2 : Int) (y3 : Int) : Lim (fun k => impl_ArePurges.l0 k y0 y1 y2 y3) (impl_ArePurges.l0g y0 y1 y2 y3) := Lim.of (fun k => (impl_ArePurges.mono_l k) y0 y1 y2 y3)
theorem impl_ArePurges.l0e (x0 : List (S75)) (x5 : List (S75)) (x6 : Int) (x7 : Int) : impl_ArePurges.l0g x0 x5 x6 x7 = (if x7 < x6 then (if 0 ≤ x7 then (if x7 < (x5.length : Int) then ((impl_IsPurge.f ((rd_T75 x5 x7).f0) ((rd_T75 x5 x7).f1) ((rd_T75 x5 x7).f2)).bind fun t127 => (if t127 = true then (if x7 > 0 then (if 0 ≤ (wrap64 (x7 - 1)) then (if (wrap64 (x7 - 1)) < (x0.length : Int) then (if ((rd_T75 x0 (wrap64 (x7 - 1))).f0) ≥ ((rd_T75 x5 x7).f0) then (some false) else (impl_ArePurges.l0g x0 x5 x6 (wrap64 (x7 + 1)))) else (none)) else (none)) else (impl_ArePurges.l0g x0 x5 x6 (wrap64 (x7 + 1)))) else (some false))) else (none)) else (none)) else (some (decide ((x0.length : Int) ≤ 20)))) := by
  refine Lim.round (impl_ArePurges.l0L x0 x5 x6 x7) ?_
  show Lim (fun k => if x7 < x6 then (if 0 ≤ x7 then (if x7 < (x5.length : Int) then ((impl_IsPurge.f ((rd_T75 x5 x7).f0) ((rd_T75 x5 x7).f1) ((rd_T75 x5 x7).f2)).bind fun t127 => (if t127 = true then (if x7 > 0 then (if 0 ≤ (wrap64 (x7 - 1)) then (if (wrap64 (x7 - 1)) < (x0.length : Int) then (if ((rd_T75 x0 (wrap64 (x7 - 1))).f0) ≥ ((rd_T75 x5 x7).f0) then (some false) else (impl_ArePurges.l0 k x0 x5 x6 (wrap64 (x7 + 1)))) else (none)) else (none)) else (impl_ArePurges.l0 k x0 x5 x6 (wrap64 (x7 + 1)))) else (some false))) else (none)) else (none)) else (some (decide ((x0.length : Int) ≤ 20)))) _
  repeat' first | (with_reducible exact Lim.const _) | (with_reducible exact impl_ArePurges.l0L _ _ _ _) | (with_reducible refine Lim.ite ?_ ?_) | (with_reducible refine Lim.bind ?_ (fun _ => ?_)) | exact Lim.const _ | refine Lim.ite ?_ ?_ | refine Lim.bind ?_ (fun _ => ?_) | exact impl_ArePurges.l0L _ _ _ _
noncomputable def impl_ArePurges.g (l0 : List (S75)) : Option (Bool) := lim (fun k => impl_ArePurges.f k l0)
theorem impl_ArePurges.L (l0 : List (S75)) : Lim (fun k => impl_ArePurges.f k l0) (impl_ArePurges.g l0) := Lim.of (fun k => impl_ArePurges.mono l0 k)
theorem impl_ArePurges.ge (l0 : List (S75)) : impl_ArePurges.g l0 = (impl_ArePurges.l0g l0 l0 (l0.length : Int) 0) := by
  refine Lim.uniq (impl_ArePurges.L l0) ?_
  show Lim (fun k => impl_ArePurges.l0 k l0 l0 (l0.length : Int) 0) _
  repeat' first | (with_reducible exact Lim.const _) | (with_reducible exact impl_ArePurges.l0L _ _ _ _) | (with_reducible refine Lim.ite ?_ ?_) | (with_reducible refine Lim.bind ?_ (fun _ => ?_)) | exact Lim.const _ | refine Lim.ite ?_ ?_ | refine Lim.bind ?_ (fun _ => ?_) | exact impl_ArePurges.l0L _ _ _ _
end Go.Proofs.Ytelmcjohkifeeaa.PA

namespace Go.Proofs.Ytelmcjohkifeeaa.PA
open Go.RowKit Go.Proofs.YtelmcjohkifeeaaW.PrintWords Go.Proofs.YtelmcjohkifeeaaW.PrintLast Go.Proofs.YtelmcjohkifeeaaW.PrintMore Go.Proofs.Ytelmcjohkifeeaa.Lim
set_option linter.unusedVariables false
set_option linter.unusedSimpArgs false
noncomputable def laws_FnExactArePurges.g (l0 : List (S71)) : Option (Bool) := lim (fun k => laws_FnExactArePurges.f k l0)
theorem laws_FnExactArePurges.L (l0 : List (S71)) : Lim (fun k => laws_FnExactArePurges.f k l0) (laws_FnExactArePurges.g l0) := Lim.of (fun k => laws_FnExactArePurges.mono l0 k)
theorem laws_FnExactArePurges.ge (l0 : List (S71)) : laws_FnExactArePurges.g l0 = ((laws_szPurgeS.g l0 1048576).bind fun t134 => (if t134 < 0 then (some true) else ((laws_toPurgeS.g l0).bind fun t135 => ((spec_ArePurges.g t135).bind fun t138 => ((laws_toPurgeS.g l0).bind fun t139 => ((impl_ArePurges.g t139).bind fun t142 => (if (t142 != t138) = true then (some false) else ((laws_toPurgeS.g l0).bind fun t143 => ((laws_eqPurgeS.g t139 t143).bind fun t146 => (if t146 = true then (some true) else (some false))))))))))) := by
  refine Lim.uniq (laws_FnExactArePurges.L l0) ?_
  show Lim (fun k => (laws_szPurgeS.f k l0 1048576).bind fun t134 => (if t134 < 0 then (some true) else ((laws_toPurgeS.f k l0).bind fun t135 => ((spec_ArePurges.f k t135).bind fun t138 => ((laws_toPurgeS.f k l0).bind fun t139 => ((impl_ArePurges.f k t139).bind fun t142 => (if (t142 != t138) = true then (some false) else ((laws_toPurgeS.f k l0).bind fun t143 => ((laws_eqPurgeS.f k t139 t143).bind fun t146 => (if t146 = true then (some true) else (some false))))))))))) _
  repeat' first | (with_reducible exact Lim.const _) | (with_reducible exact laws_szPurgeS.L _ _) | (with_reducible exact laws_toPurgeS.L _) | (with_reducible exact spec_ArePurges.L _) | (with_reducible exact impl_ArePurges.L _) | (with_reducible exact laws_eqPurgeS.L _ _) | (with_reducible refine Lim.ite ?_ ?_) | (with_reducible refine Lim.bind ?_ (fun _ => ?_)) | exact Lim.const _ | refine Lim.ite ?_ ?_ | refine Lim.bind ?_ (fun _ => ?_) | exact laws_szPurgeS.L _ _ | exact laws_toPurgeS.L _ | exact spec_ArePurges.L _ | exact impl_ArePurges.L _ | exact laws_eqPurgeS.L _ _
end Go.Proofs.Ytelmcjohkifeeaa.PA

namespace Go.Proofs.Ytelmcjohkifeeaa.PA
open Go.RowKit Go.Proofs.YtelmcjohkifeeaaW.PrintWords Go.Proofs.YtelmcjohkifeeaaW.PrintLast Go.Proofs.YtelmcjohkifeeaaW.PrintMore Go.Proofs.Ytelmcjohkifeeaa.Base Go.Proofs.Ytelmcjohkifeeaa.Lim
set_option linter.unusedVariables false
set_option linter.unusedSimpArgs false
def inR (a b c : Int) : Bool := decide (b ≤ a) && decide (a ≤ c)
theorem l1In_eq (a b c : Int) : spec_l1In.f a b c = some (inR a b c) := by
  unfold spec_l1In.f inR
  by_cases h : b ≤ a <;> simp [h]
theorem inRange_eq (a b c : Int) : impl_inRange.f a b c = some (inR a b c) := by
  unfold impl_inRange.f inR
  by_cases h : b ≤ a <;> simp [h]
theorem inR_iff (a b c : Int) : inR a b c = true ↔ b ≤ a ∧ a ≤ c := by simp [inR]
end Go.Proofs.Ytelmcjohkifeeaa.PA

namespace Go.Proofs.Ytelmcjohkifeeaa.PA
open Go.RowKit Go.Proofs.YtelmcjohkifeeaaW.PrintWords Go.Proofs.YtelmcjohkifeeaaW.PrintLast Go.Proofs.YtelmcjohkifeeaaW.PrintMore Go.Proofs.Ytelmcjohkifeeaa.Base Go.Proofs.Ytelmcjohkifeeaa.Lim
set_option linter.unusedVariables false
set_option linter.unusedSimpArgs false
def isPurge (a b : Int) (c : ByteArray) : Bool := inR a 1 1000000000000 && (inR b 1 3 && (decide (c.size ≤ 160) && (if b = 1 then c.toList == [] else true)))
theorem spec_IsPurge_eq (a b : Int) (c : ByteArray) : spec_IsPurge.f a b c = some (isPurge a b c) := by
  simp only [spec_IsPurge.f, l1In_eq, Option.bind_some, isPurge]
  cases inR a 1 1000000000000 <;> cases inR b 1 3 <;> simp
  by_cases h : c.size ≤ 160
  · rw [if_pos (by omega)]
    by_cases h2 : b = 1 <;> simp [h, h2]
  · rw [if_neg (by omega)]; simp [h]
theorem impl_IsPurge_eq (a b : Int) (c : ByteArray) : impl_IsPurge.f a b c = some (isPurge a b c) := by
  rw [← spec_IsPurge_eq]
  simp only [spec_IsPurge.f, impl_IsPurge.f, l1In_eq, inRange_eq]
theorem rdP (l : List S75) (i : Nat) : rd_T75 l (i : Int) = l.getD i z75 := by
  unfold rd_T75
  rw [Int.toNat_natCast]
/-- From place i on. -/
def arePFrom (l : List S75) (i : Nat) : Bool := (List.range' i (l.length - i)).all (fun j => let x := l.getD j z75; isPurge x.f0 x.f1 x.f2 && (decide (j = 0) || decide ((l.getD (j - 1) z75).f0 < x.f0)))
def arePurges (l : List S75) : Bool := arePFrom l 0 && decide (l.length ≤ 20)
theorem arePFrom_step (l : List S75) (i : Nat) (h : i < l.length) : arePFrom l i = ((isPurge (l.getD i z75).f0 (l.getD i z75).f1 (l.getD i z75).f2 && (decide (i = 0) || decide ((l.getD (i - 1) z75).f0 < (l.getD i z75).f0))) && arePFrom l (i + 1)) := by
  unfold arePFrom
  obtain ⟨m, hm⟩ : ∃ m, l.length - i = m + 1 := ⟨l.length - i - 1, by omega⟩
  rw [hm, show l.length - (i + 1) = m by omega, List.range'_succ, List.all_cons]
theorem spec_ArePurges_eq (l : List S75) (hn : Sm l.length) : spec_ArePurges.g l = some (arePurges l) := by
  have key : ∀ i, i ≤ l.length → spec_ArePurges.l0g l (i : Int) = some (arePFrom l i && decide (l.length ≤ 20)) := by
    refine down ?_ ?_
    · rw [spec_ArePurges.l0e, if_neg not_lt_len]
      simp [arePFrom]; omega
    · intro i hi ih
      rw [spec_ArePurges.l0e, if_pos (nat_lt_len hi), if_pos (nat_nonneg i), spec_IsPurge_eq, Option.bind_some, w64_succ hi hn, ih, arePFrom_step l i hi]
      rw [rdP]
      by_cases hp : isPurge (l.getD i z75).f0 (l.getD i z75).f1 (l.getD i z75).f2 = true
      rotate_left
      · rw [if_neg hp, Bool.eq_false_iff.mpr hp]; simp
      · rw [if_pos hp, hp]
        by_cases h0 : i = 0
        · subst h0; simp
        · rw [if_pos (by omega), w64 (x := (i : Int) - 1) (by omega) (by unfold Sm at hn; omega), if_pos (by omega), if_pos (by omega), show ((i : Int) - 1) = ((i - 1 : Nat) : Int) by omega, rdP]
          by_cases h1 : (l.getD (i - 1) z75).f0 < (l.getD i z75).f0
          · rw [if_neg (by omega), decide_eq_true h1]; simp
          · rw [if_pos (by omega), decide_eq_false h1, decide_eq_false h0]; simp
  rw [spec_ArePurges.ge]
  exact key 0 (by omega)
theorem impl_ArePurges_eq (l : List S75) (hn : Sm l.length) : impl_ArePurges.g l = some (arePurges l) := by
  have key : ∀ i, i ≤ l.length → impl_ArePurges.l0g l l (l.length : Int) (i : Int) = some (arePFrom l i && decide (l.length ≤ 20)) := by
    refine down ?_ ?_
    · rw [impl_ArePurges.l0e, if_neg not_lt_len]
      simp [arePFrom]; omega
    · intro i hi ih
      rw [impl_ArePurges.l0e, if_pos (nat_lt_len hi), if_pos (nat_nonneg i), if_pos (nat_lt_len hi), impl_IsPurge_eq, Option.bind_some, w64_succ hi hn, ih, arePFrom_step l i hi]
      rw [rdP]
      by_cases hp : isPurge (l.getD i z75).f0 (l.getD i z75).f1 (l.getD i z75).f2 = true
      rotate_left
      · rw [if_neg hp, Bool.eq_false_iff.mpr hp]; simp
      · rw [if_pos hp, hp]
        by_cases h0 : i = 0
        · subst h0; simp
        · rw [if_pos (by omega), w64 (x := (i : Int) - 1) (by omega) (by unfold Sm at hn; omega), if_pos (by omega), if_pos (by omega), show ((i : Int) - 1) = ((i - 1 : Nat) : Int) by omega, rdP]
          by_cases h1 : (l.getD (i - 1) z75).f0 < (l.getD i z75).f0
          · rw [if_neg (by omega), decide_eq_true h1]; simp
          · rw [if_pos (by omega), decide_eq_false h1, decide_eq_false h0]; simp
  rw [impl_ArePurges.ge]
  exact key 0 (by omega)
end Go.Proofs.Ytelmcjohkifeeaa.PA
