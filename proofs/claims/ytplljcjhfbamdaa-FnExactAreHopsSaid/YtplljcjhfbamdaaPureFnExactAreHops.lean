/- FnExactAreHops: the program's AreHops and the reference's answer alike at every list of hops. Conditions: none of its own. -/
import Derived.Test.YtplljcjhfbamdaaArgFnExactAreHops
import Derived.Test.YtplljcjhfbamdaaEqAreHops
import Derived.Test.YtplljcjhfbamdaaBase
namespace Go.Proofs.Ytplljcjhfbamdaa.Pure
open Go.RowKit Go.Proofs.YtplljcjhfbamdaaW.PrintWords Go.Proofs.YtplljcjhfbamdaaW.PrintLast Go.Proofs.YtplljcjhfbamdaaW.PrintMore Go.Proofs.Ytplljcjhfbamdaa.PFnExactAreHops Go.Proofs.Ytplljcjhfbamdaa.ArgFnExactAreHops Go.Proofs.Ytplljcjhfbamdaa.Base Go.Proofs.Ytplljcjhfbamdaa.Lim
namespace AreHops
set_option linter.unusedVariables false

def inR (a b c : Int) : Bool := decide (b ≤ a) && decide (a ≤ c)
theorem l1In_eq (a b c : Int) : spec_l1In.f a b c = some (inR a b c) := by
  unfold spec_l1In.f inR
  by_cases h : b ≤ a <;> simp [h]
theorem inRange_eq (a b c : Int) : impl_inRange.f a b c = some (inR a b c) := by
  unfold impl_inRange.f inR
  by_cases h : b ≤ a <;> simp [h]
def isHop (a b c : Int) : Bool := inR a (-1000) 1000 && inR b 0 1000 && inR c 0 100000
theorem spec_isHop (a b c : Int) : spec_IsHop.f a b c = some (isHop a b c) := by
  simp only [spec_IsHop.f, l1In_eq, Option.bind_some, isHop]
  cases inR a (-1000) 1000 <;> cases inR b 0 1000 <;> cases inR c 0 100000 <;> rfl
theorem impl_isHop (a b c : Int) : impl_IsHop.f a b c = some (isHop a b c) := by
  simp only [impl_IsHop.f, inRange_eq, Option.bind_some, isHop]
  cases inR a (-1000) 1000 <;> cases inR b 0 1000 <;> cases inR c 0 100000 <;> rfl

theorem toHopS_eq (l : List S23) (hn : l.length * 24 ≤ 140737488351232) : laws_toHopS.g l = some (l.map fun h => ⟨h.f0, h.f1, h.f2⟩) := by
  have key : ∀ i, i ≤ l.length → laws_toHopS.l0g l ((l.take i).map (fun h => (⟨h.f0, h.f1, h.f2⟩ : S25)) ++ List.replicate (l.length - i) z25) (i : Int) = some (l.map fun h => ⟨h.f0, h.f1, h.f2⟩) := by
    refine down ?_ ?_
    · rw [laws_toHopS.l0e, if_neg not_lt_len]
      simp
    · intro i hi ih
      rw [laws_toHopS.l0e, if_pos (nat_lt_len hi), if_pos (nat_nonneg i), laws_toHop.f, Option.bind_some, if_pos (by simp; omega), w64_succ hi (by unfold Sm; omega), Int.toNat_natCast]
      simp only [rd_T23, Int.toNat_natCast, getD_at hi]
      rw [copied (fun h : S23 => (⟨h.f0, h.f1, h.f2⟩ : S25)) z25 l i hi]
      exact ih
  rw [laws_toHopS.ge, if_pos (by omega), if_pos (by rw [Int.toNat_natCast]; omega)]
  have := key 0 (by omega)
  simpa using this

def areHops (l : List S25) : Bool := l.all (fun h => isHop h.f0 h.f1 h.f2) && decide (l.length ≤ 8)
theorem spec_eq (l : List S25) (hn : Sm l.length) : spec_AreHops.g l = some (areHops l) := by
  rw [spec_AreHops.ge]
  refine loop1 (l := l) (fun i => spec_AreHops.l0g l i) (fun r => some (r.all (fun h => isHop h.f0 h.f1 h.f2) && decide (l.length ≤ 8))) ?_ ?_
  · rw [spec_AreHops.l0e, if_neg not_lt_len]; simp; omega
  · intro i x r hi hx ih
    rw [spec_AreHops.l0e, if_pos (nat_lt_len hi), if_pos (nat_nonneg i), spec_isHop, Option.bind_some, w64_succ hi hn]
    simp only [rd_T25, getD_x hx, ih]
    cases h : isHop x.f0 x.f1 x.f2 <;> simp [h]
theorem impl_eq (l : List S25) (hn : Sm l.length) : impl_AreHops.g l = some (areHops l) := by
  rw [impl_AreHops.ge]
  refine loop1 (l := l) (fun i => impl_AreHops.l0g l l (l.length : Int) i) (fun r => some (r.all (fun h => isHop h.f0 h.f1 h.f2) && decide (l.length ≤ 8))) ?_ ?_
  · rw [impl_AreHops.l0e, if_neg not_lt_len]; simp; omega
  · intro i x r hi hx ih
    rw [impl_AreHops.l0e, if_pos (nat_lt_len hi), if_pos (nat_nonneg i), if_pos (nat_lt_len hi), impl_isHop, Option.bind_some, w64_succ hi hn]
    simp only [rd_T25, getD_x hx, ih]
    cases h : isHop x.f0 x.f1 x.f2 <;> simp [h]
theorem eqHopS_same (l : List S25) (hn : Sm l.length) : laws_eqHopS.g l l = some true := by
  rw [laws_eqHopS.ge, if_pos rfl]
  refine loop1 (l := l) (fun i => laws_eqHopS.l0g l l i) (fun _ => some true) ?_ ?_
  · rw [laws_eqHopS.l0e, if_neg not_lt_len]
  · intro i x r hi hx ih
    rw [laws_eqHopS.l0e, if_pos (nat_lt_len hi), if_pos (nat_nonneg i), if_pos (nat_lt_len hi), w64_succ hi hn]
    rw [ih]; simp [laws_eqHop.f]
end AreHops
open AreHops in
theorem FnExactAreHops : ArgFnExactAreHops.Pure := by
  rintro l ⟨h1, h2, h3⟩
  refine (laws_FnExactAreHops.L l).rounds ?_
  have hs : Sm (l.map fun h : S23 => (⟨h.f0, h.f1, h.f2⟩ : S25)).length := by rw [List.length_map]; unfold Sm; omega
  rw [laws_FnExactAreHops.ge, laws_szHopS.f]
  split
  · rfl
  · rename_i hc
    simp only [Option.bind_some, if_neg hc, toHopS_eq l h1, spec_eq _ hs, impl_eq _ hs, eqHopS_same _ hs]
    simp
end Go.Proofs.Ytplljcjhfbamdaa.Pure
