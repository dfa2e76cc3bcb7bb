/- FnExactIsPurge: the program's IsPurge and the reference's answer alike at every purge. Conditions: none of its own. -/
import Derived.Test.YtplljcjhfbamdaaArgFnExactIsPurge
namespace Go.Proofs.Ytplljcjhfbamdaa.Pure
open Go.RowKit Go.Proofs.YtplljcjhfbamdaaW.PrintWords Go.Proofs.YtplljcjhfbamdaaW.PrintLast Go.Proofs.YtplljcjhfbamdaaW.PrintMore Go.Proofs.Ytplljcjhfbamdaa.PFnExactIsPurge Go.Proofs.Ytplljcjhfbamdaa.ArgFnExactIsPurge
namespace IsPurge

theorem in_eq (a b c : Int) : impl_inRange.f a b c = spec_l1In.f a b c := rfl

theorem in_some (a b c : Int) : ∃ r, spec_l1In.f a b c = some r := by
  unfold spec_l1In.f
  split <;> exact ⟨_, rfl⟩
theorem eq (a b : Int) (c : ByteArray) : impl_IsPurge.f a b c = spec_IsPurge.f a b c := by
  unfold impl_IsPurge.f spec_IsPurge.f
  simp only [in_eq]
theorem tells (a b : Int) (c : ByteArray) : ∃ r, spec_IsPurge.f a b c = some r := by
  unfold spec_IsPurge.f
  obtain ⟨r, h⟩ := in_some a 1 1000000000000
  obtain ⟨r2, h2⟩ := in_some b 1 3
  rw [h, h2]
  cases r
  · exact ⟨_, rfl⟩
  cases r2
  · exact ⟨_, rfl⟩
  simp only [Option.bind_some, if_true]
  split
  · split <;> exact ⟨_, rfl⟩
  · exact ⟨_, rfl⟩
end IsPurge
open IsPurge in
theorem FnExactIsPurge : ArgFnExactIsPurge.Pure := by
  intro a b c _ _ _
  obtain ⟨r, hr⟩ := tells a b c
  simp only [laws_FnExactIsPurge.f, laws_szPurge.f]
  split
  · simp
  · simp [laws_toPurge.f, eq, hr]

end Go.Proofs.Ytplljcjhfbamdaa.Pure
