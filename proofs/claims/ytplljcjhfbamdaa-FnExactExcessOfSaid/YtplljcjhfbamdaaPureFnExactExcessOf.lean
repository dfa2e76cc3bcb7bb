/- FnExactExcessOf: the program's ExcessOf and the reference's answer alike at every list of hops. Conditions: none of its own. -/
import Derived.Test.YtplljcjhfbamdaaArgFnExactExcessOf
import Derived.Test.YtplljcjhfbamdaaEqExcessOf
import Derived.Test.YtplljcjhfbamdaaBase
namespace Go.Proofs.Ytplljcjhfbamdaa.Pure
open Go.RowKit Go.Proofs.YtplljcjhfbamdaaW.PrintWords Go.Proofs.YtplljcjhfbamdaaW.PrintLast Go.Proofs.YtplljcjhfbamdaaW.PrintMore Go.Proofs.Ytplljcjhfbamdaa.PFnExactExcessOf Go.Proofs.Ytplljcjhfbamdaa.ArgFnExactExcessOf Go.Proofs.Ytplljcjhfbamdaa.Base Go.Proofs.Ytplljcjhfbamdaa.Lim
namespace ExcessOf
set_option linter.unusedVariables false

theorem toHopS_eq (l : List S23) (hn : l.length * 24 ≤ 140737488351232) : laws_toHopS.g l = some (l.map fun h => ⟨h.f0, h.f1, h.f2⟩) := by
  have key : ∀ i, i ≤ l.length → laws_toHopS.l0g l ((l.take i).map (fun h => (⟨h.f0, h.f1, h.f2⟩ : S25)) ++ List.replicate (l.length - i) z25) (i : Int) = some (l.map fun h => ⟨h.f0, h.f1, h.f2⟩) := by
    refine down ?_ ?_
    · rw [laws_toHopS.l0e, if_neg not_lt_len]
      simp
    · intro i hi ih
      rw [laws_toHopS.l0e, if_pos (nat_lt_len hi), if_pos (nat_nonneg i), laws_toHop.f, Option.bind_some, if_pos (by simp; omega), w64_succ hi (by unfold Sm; omega), Int.toNat_natCast]
      simp only [rd_T23, Int.toNat_natCast, getD_at hi]
      rw [copied (fun h : S23 => (⟨h.f0, h.f1, h.f2⟩ : S25)) z25 l i hi]
      exact ih
  rw [laws_toHopS.ge, if_pos (by omega), if_pos (by rw [Int.toNat_natCast]; omega)]
  have := key 0 (by omega)
  simpa using this

def most (n : Int) (l : List S25) : Int := l.foldl (fun m h => mx m h.f0) n
theorem spec_eq (l : List S25) (hn : Sm l.length) : spec_ExcessOf.g l = some (most 0 l) := by
  rw [spec_ExcessOf.ge]
  refine loop0 (l := l) (fun s i => spec_ExcessOf.l0g l s i) (fun s r => some (most s r)) ?_ ?_ 0
  · intro s
    rw [spec_ExcessOf.l0e, if_neg not_lt_len]; rfl
  · intro i x r hi hx ih s
    have hm : spec_Max.f s x.f0 = some (mx s x.f0) := by
      unfold spec_Max.f mx
      split <;> rfl
    rw [spec_ExcessOf.l0e, if_pos (nat_lt_len hi), if_pos (nat_nonneg i), w64_succ hi hn]
    simp only [rd_T25, getD_x hx, hm, Option.bind_some, ih]
    rfl
theorem impl_eq (l : List S25) (hn : Sm l.length) : impl_ExcessOf.g l = some (most 0 l) := by
  rw [impl_ExcessOf.ge]
  refine loop0 (l := l) (fun s i => impl_ExcessOf.l0g s l (l.length : Int) i) (fun s r => some (most s r)) ?_ ?_ 0
  · intro s
    rw [impl_ExcessOf.l0e, if_neg not_lt_len]; rfl
  · intro i x r hi hx ih s
    rw [impl_ExcessOf.l0e, if_pos (nat_lt_len hi), if_pos (nat_nonneg i), if_pos (nat_lt_len hi), w64_succ hi hn]
    simp only [rd_T25, getD_x hx, ih]
    rfl
theorem eqHopS_same (l : List S25) (hn : Sm l.length) : laws_eqHopS.g l l = some true := by
  rw [laws_eqHopS.ge, if_pos rfl]
  refine loop1 (l := l) (fun i => laws_eqHopS.l0g l l i) (fun _ => some true) ?_ ?_
  · rw [laws_eqHopS.l0e, if_neg not_lt_len]
  · intro i x r hi hx ih
    rw [laws_eqHopS.l0e, if_pos (nat_lt_len hi), if_pos (nat_nonneg i), if_pos (nat_lt_len hi), w64_succ hi hn]
    rw [ih]; simp [laws_eqHop.f]
end ExcessOf
open ExcessOf in
theorem FnExactExcessOf : ArgFnExactExcessOf.Pure := by
  rintro l ⟨h1, h2, h3⟩
  refine (laws_FnExactExcessOf.L l).rounds ?_
  have hs : Sm (l.map fun h : S23 => (⟨h.f0, h.f1, h.f2⟩ : S25)).length := by rw [List.length_map]; unfold Sm; omega
  rw [laws_FnExactExcessOf.ge, laws_szHopS.f]
  split
  · rfl
  · rename_i hc
    simp only [Option.bind_some, if_neg hc, toHopS_eq l h1, spec_eq _ hs, impl_eq _ hs, eqHopS_same _ hs]
    simp
end Go.Proofs.Ytplljcjhfbamdaa.Pure
