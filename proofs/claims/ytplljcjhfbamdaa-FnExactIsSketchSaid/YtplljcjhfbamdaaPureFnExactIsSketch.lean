/- FnExactIsSketch: the program's IsSketch and the reference's answer alike at every sketch. Conditions: none of its own. -/
import Derived.Test.YtplljcjhfbamdaaArgFnExactIsSketch
import Derived.Test.YtplljcjhfbamdaaEqIsSketch
import Derived.Test.YtplljcjhfbamdaaBase
namespace Go.Proofs.Ytplljcjhfbamdaa.Pure
open Go.RowKit Go.Proofs.YtplljcjhfbamdaaW.PrintWords Go.Proofs.YtplljcjhfbamdaaW.PrintLast Go.Proofs.YtplljcjhfbamdaaW.PrintMore Go.Proofs.Ytplljcjhfbamdaa.PFnExactIsSketch Go.Proofs.Ytplljcjhfbamdaa.ArgFnExactIsSketch Go.Proofs.Ytplljcjhfbamdaa.Base Go.Proofs.Ytplljcjhfbamdaa.Lim
namespace IsSketch
set_option linter.unusedVariables false

def inR (a b c : Int) : Bool := decide (b ≤ a) && decide (a ≤ c)
theorem l1In_eq (a b c : Int) : spec_l1In.f a b c = some (inR a b c) := by
  unfold spec_l1In.f inR
  by_cases h : b ≤ a <;> simp [h]
theorem inRange_eq (a b c : Int) : impl_inRange.f a b c = some (inR a b c) := by
  unfold impl_inRange.f inR
  by_cases h : b ≤ a <;> simp [h]
theorem toIntS_eq (l : List Int) (hn : l.length * 8 ≤ 140737488351232) : laws_toIntS.g l = some l := by
  have key : ∀ i, i ≤ l.length → laws_toIntS.l0g l ((l.take i).map id ++ List.replicate (l.length - i) 0) (i : Int) = some l := by
    refine down ?_ ?_
    · rw [laws_toIntS.l0e, if_neg not_lt_len]
      simp
    · intro i hi ih
      rw [laws_toIntS.l0e, if_pos (nat_lt_len hi), if_pos (nat_nonneg i), if_pos (by simp; omega), w64_succ hi (by unfold Sm; omega), Int.toNat_natCast]
      simp only [rd, Int.toNat_natCast, getD_at hi]
      have := copied (id : Int → Int) 0 l i hi
      simp only [id] at this ⊢
      rw [show l[i] = id l[i] from rfl] 
      rw [copied (id : Int → Int) 0 l i hi]
      exact ih
  rw [laws_toIntS.ge, if_pos (by omega), if_pos (by rw [Int.toNat_natCast]; omega)]
  have := key 0 (by omega)
  simpa using this
def isSketch (l : List Int) (t : Int) : Bool := l.all (fun n => inR n 0 64) && ((decide (l.length = 0) || decide (l.length = 64)) && inR t 0 63)
theorem spec_eq (l : List Int) (t : Int) (hn : Sm l.length) : spec_IsSketch.g l t = some (isSketch l t) := by
  rw [spec_IsSketch.ge]
  refine loop1 (l := l) (fun i => spec_IsSketch.l0g i l t) (fun r => some (r.all (fun n => inR n 0 64) && ((decide (l.length = 0) || decide (l.length = 64)) && inR t 0 63))) ?_ ?_
  · rw [spec_IsSketch.l0e, if_neg not_lt_len]
    simp only [l1In_eq, Option.bind_some]
    by_cases h0 : l.length = 0
    · simp [h0]
    · by_cases h1 : l.length = 64
      · simp [h1]
      · rw [if_neg (by omega), if_neg (by omega)]; simp [h0, h1]
  · intro i x r hi hx ih
    rw [spec_IsSketch.l0e, if_pos (nat_lt_len hi), if_pos (nat_nonneg i), w64_succ hi hn]
    simp only [rd, getD_x hx, l1In_eq, Option.bind_some, ih]
    cases h : inR x 0 64 <;> simp [h]
theorem impl_eq (l : List Int) (t : Int) (hn : Sm l.length) : impl_IsSketch.g l t = some (isSketch l t) := by
  rw [impl_IsSketch.ge]
  refine loop1 (l := l) (fun i => impl_IsSketch.l0g l (l.length : Int) i l t) (fun r => some (r.all (fun n => inR n 0 64) && ((decide (l.length = 0) || decide (l.length = 64)) && inR t 0 63))) ?_ ?_
  · rw [impl_IsSketch.l0e, if_neg not_lt_len]
    simp only [inRange_eq, Option.bind_some]
    by_cases h0 : l.length = 0
    · simp [h0]
    · by_cases h1 : l.length = 64
      · simp [h1]
      · rw [if_neg (by omega), if_neg (by omega)]; simp [h0, h1]
  · intro i x r hi hx ih
    rw [impl_IsSketch.l0e, if_pos (nat_lt_len hi), if_pos (nat_nonneg i), if_pos (nat_lt_len hi), w64_succ hi hn]
    simp only [rd, getD_x hx, inRange_eq, Option.bind_some, ih]
    cases h : inR x 0 64 <;> simp [h]
theorem eqIntS_same (l : List Int) (hn : Sm l.length) : laws_eqIntS.g l l = some true := by
  rw [laws_eqIntS.ge, if_pos rfl]
  refine loop1 (l := l) (fun i => laws_eqIntS.l0g l l i) (fun _ => some true) ?_ ?_
  · rw [laws_eqIntS.l0e, if_neg not_lt_len]
  · intro i x r hi hx ih
    rw [laws_eqIntS.l0e, if_pos (nat_lt_len hi), if_pos (nat_nonneg i), if_pos (nat_lt_len hi), w64_succ hi hn]
    rw [ih]; simp
end IsSketch
open IsSketch in
theorem FnExactIsSketch : ArgFnExactIsSketch.Pure := by
  rintro l t ⟨h1, h2, h3⟩ _
  refine (laws_FnExactIsSketch.L l t).rounds ?_
  have hs : Sm l.length := by unfold Sm; omega
  rw [laws_FnExactIsSketch.ge, laws_szSketch.f, laws_szIntS.f]
  split
  · rfl
  · rename_i hc
    simp only [Option.bind_some, if_neg hc, laws_toSketch.ge, laws_eqSketch.ge, toIntS_eq l h1, spec_eq _ _ hs, impl_eq _ _ hs, eqIntS_same _ hs]
    simp
end Go.Proofs.Ytplljcjhfbamdaa.Pure
