/- Small laws for the pure statements: loops over lists, whole numbers that do not wrap. Each has its bounds as premises. -/
import Derived.Test.YtplljcjhfbamdaaLim
namespace Go.Proofs.Ytplljcjhfbamdaa.Base
open Go.RowKit Go.Proofs.YtplljcjhfbamdaaW.PrintWords Go.Proofs.YtplljcjhfbamdaaW.PrintLast Go.Proofs.YtplljcjhfbamdaaW.PrintMore Go.Proofs.Ytplljcjhfbamdaa.Lim
set_option linter.unusedVariables false

def Big : Nat := 4611686018427387904
theorem Big_eq : Big = 4611686018427387904 := rfl
/-- Far below the bound of an int. -/
abbrev Sm (n : Nat) : Prop := n ≤ 4611686018427387904

theorem w64 {x : Int} (h0 : -9223372036854775808 ≤ x) (h1 : x ≤ 9223372036854775807) : wrap64 x = x := by
  unfold wrap64
  omega
theorem w64_succ {i n : Nat} (h : i < n) (hn : Sm n) : wrap64 ((i : Int) + 1) = ((i + 1 : Nat) : Int) := by
  rw [w64 (by omega) (by unfold Sm at hn; omega)]
  rfl
theorem down {n : Nat} {C : Nat → Prop} (h0 : C n) (hs : ∀ i, i < n → C (i + 1) → C i) : ∀ i, i ≤ n → C i := by
  intro i hi
  obtain ⟨d, rfl⟩ : ∃ d, n = i + d := ⟨n - i, by omega⟩
  clear hi
  induction d generalizing i with
  | zero => exact h0
  | succ d ih =>
    refine hs i (by omega) (ih (i + 1) ?_ ?_)
    · rw [show i + 1 + d = i + (d + 1) by omega]; exact h0
    · intro j hj hc
      exact hs j (by omega) hc
theorem drop_cons {α : Type} {l : List α} {i : Nat} (h : i < l.length) : l.drop i = l[i] :: l.drop (i + 1) := List.drop_eq_getElem_cons h
theorem getD_at {α : Type} {l : List α} {i : Nat} {d : α} (h : i < l.length) : l.getD i d = l[i] := by
  rw [List.getD_eq_getElem?_getD, List.getElem?_eq_getElem h]
  rfl
theorem nat_lt_len {α : Type} {l : List α} {i : Nat} (h : i < l.length) : (i : Int) < (l.length : Int) := by omega
theorem not_lt_len {α : Type} {l : List α} : ¬ (l.length : Int) < (l.length : Int) := by omega
theorem nat_nonneg (i : Nat) : (0 : Int) ≤ (i : Int) := by omega

/-- A loop over a list, from place i on, with what it carries. -/
theorem loop {α σ R : Type} {l : List α} {L : σ → Int → R} {M : σ → List α → R} (hnil : ∀ s, L s (l.length : Int) = M s [])
    (hcons : ∀ (i : Nat) (x : α) (r : List α), i < l.length → l[i]? = some x → (∀ s, L s ((i + 1 : Nat) : Int) = M s r) → ∀ s, L s (i : Int) = M s (x :: r)) :
    ∀ i, i ≤ l.length → ∀ s, L s (i : Int) = M s (l.drop i) := by
  refine down ?_ ?_
  · intro s
    rw [List.drop_length]
    exact hnil s
  · intro i hi ih s
    rw [drop_cons hi]
    exact hcons i _ _ hi (List.getElem?_eq_getElem hi) ih s
theorem loop0 {α σ R : Type} {l : List α} (L : σ → Int → R) (M : σ → List α → R) (hnil : ∀ s, L s (l.length : Int) = M s [])
    (hcons : ∀ (i : Nat) (x : α) (r : List α), i < l.length → l[i]? = some x → (∀ s, L s ((i + 1 : Nat) : Int) = M s r) → ∀ s, L s (i : Int) = M s (x :: r)) (s : σ) : L s 0 = M s l := by
  have := loop hnil hcons 0 (by omega) s
  simpa using this
/-- .. that carries nothing. -/
theorem loop1 {α R : Type} {l : List α} (L : Int → R) (M : List α → R) (hnil : L (l.length : Int) = M [])
    (hcons : ∀ (i : Nat) (x : α) (r : List α), i < l.length → l[i]? = some x → L ((i + 1 : Nat) : Int) = M r → L (i : Int) = M (x :: r)) : L 0 = M l :=
  loop0 (σ := Unit) (fun _ i => L i) (fun _ r => M r) (fun _ => hnil) (fun i x r hi hx ih _ => hcons i x r hi hx (ih ())) ()
theorem getD_x {α : Type} {l : List α} {i : Nat} {x d : α} (h : l[i]? = some x) : l.getD (i : Int).toNat d = x := by
  rw [Int.toNat_natCast, List.getD_eq_getElem?_getD, h]
  rfl

theorem set_append {α : Type} (xs : List α) (y : α) (z : α) (n : Nat) : (xs ++ y :: List.replicate n z).set xs.length = fun v => xs ++ v :: List.replicate n z := by
  funext v
  rw [List.set_append_right _ _ (Nat.le_refl _)]
  simp
/-- The way that a list is copied: place by place into a made one. -/
theorem copied {α β : Type} (f : α → β) (z : β) (l : List α) (i : Nat) (hi : i < l.length) :
    ((l.take i).map f ++ List.replicate (l.length - i) z).set i (f l[i]) = (l.take (i + 1)).map f ++ List.replicate (l.length - (i + 1)) z := by
  have hlen : ((l.take i).map f).length = i := by simp; omega
  rw [List.set_append_right _ _ (by omega), hlen, Nat.sub_self]
  obtain ⟨m, hm⟩ : ∃ m, l.length - i = m + 1 := ⟨l.length - i - 1, by omega⟩
  rw [hm, show l.length - (i + 1) = m by omega, List.replicate_succ, List.set_cons_zero, List.take_succ_eq_append_getElem hi, List.map_append]
  simp
theorem pure_of {g : Nat → Option Bool} {x : Option Bool} (h : Lim g x) (hx : x = some true) : ∃ k, g k = some true := h.rounds hx

end Go.Proofs.Ytplljcjhfbamdaa.Base
