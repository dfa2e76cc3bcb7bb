/- FnExactIsHop: the printed functions of the program and of the reference answer alike at every hop. Conditions: none of its own. -/
import Derived.Test.YtplljcjhfbamdaaArgFnExactIsHop
namespace Go.Proofs.Ytplljcjhfbamdaa.Pure
open Go.RowKit Go.Proofs.YtplljcjhfbamdaaW.PrintWords Go.Proofs.YtplljcjhfbamdaaW.PrintLast Go.Proofs.YtplljcjhfbamdaaW.PrintMore Go.Proofs.Ytplljcjhfbamdaa.PFnExactIsHop Go.Proofs.Ytplljcjhfbamdaa.ArgFnExactIsHop

theorem in_eq (a b c : Int) : impl_inRange.f a b c = spec_l1In.f a b c := rfl

theorem in_some (a b c : Int) : ∃ r, spec_l1In.f a b c = some r := by
  unfold spec_l1In.f
  split <;> exact ⟨_, rfl⟩

theorem FnExactIsHop : ArgFnExactIsHop.Pure := by
  intro a b c _ _ _
  have e : impl_IsHop.f a b c = spec_IsHop.f a b c := by
    unfold impl_IsHop.f spec_IsHop.f
    simp only [in_eq]
  have s : ∃ r, spec_IsHop.f a b c = some r := by
    unfold spec_IsHop.f
    obtain ⟨r, h⟩ := in_some a (-1000) 1000
    obtain ⟨r2, h2⟩ := in_some b 0 1000
    obtain ⟨r3, h3⟩ := in_some c 0 100000
    rw [h, h2, h3]
    cases r <;> cases r2 <;> exact ⟨_, rfl⟩
  obtain ⟨r, hr⟩ := s
  simp [laws_FnExactIsHop.f, laws_toHop.f, e, hr]

end Go.Proofs.Ytplljcjhfbamdaa.Pure
