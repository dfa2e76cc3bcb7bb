/- What the printed functions with rounds come to, and their equations. Written by limgen.py. No condition of its own. -/
import Derived.Test.YtplljcjhfbamdaaLim
import Derived.Test.YtplljcjhfbamdaaPFnExactExcessOfx0
import Derived.Test.YtplljcjhfbamdaaPFnExactExcessOfx1
import Derived.Test.YtplljcjhfbamdaaPFnExactExcessOfx2
namespace Go.Proofs.Ytplljcjhfbamdaa.PFnExactExcessOf
open Go.RowKit Go.Proofs.YtplljcjhfbamdaaW.PrintWords Go.Proofs.YtplljcjhfbamdaaW.PrintLast Go.Proofs.YtplljcjhfbamdaaW.PrintMore Go.Proofs.Ytplljcjhfbamdaa.Lim
set_option linter.unusedVariables false
set_option linter.unusedSimpArgs false

noncomputable def spec_ExcessOf.l0g (y0 : List (S25)) (y1 : Int) (y2 : Int) : Option (Int) := lim (fun k => spec_ExcessOf.l0 k y0 y1 y2)
theorem spec_ExcessOf.l0L (y0 : List (S25)) (y1 : Int) (y2 : Int) : Lim (fun k => spec_ExcessOf.l0 k y0 y1 y2) (spec_ExcessOf.l0g y0 y1 y2) := Lim.of (fun k => (spec_ExcessOf.mono_l k) y0 y1 y2)
theorem spec_ExcessOf.l0e (x0 : List (S25)) (x3 : Int) (x4 : Int) : spec_ExcessOf.l0g x0 x3 x4 = (if x4 < (x0.length : Int) then (if 0 ≤ x4 then ((spec_Max.f x3 ((rd_T25 x0 x4).f0)).bind fun t102 => (spec_ExcessOf.l0g x0 t102 (wrap64 (x4 + 1)))) else (none)) else (some x3)) := by
  refine Lim.round (spec_ExcessOf.l0L x0 x3 x4) ?_
  show Lim (fun k => if x4 < (x0.length : Int) then (if 0 ≤ x4 then ((spec_Max.f x3 ((rd_T25 x0 x4).f0)).bind fun t102 => (spec_ExcessOf.l0 k x0 t102 (wrap64 (x4 + 1)))) else (none)) else (some x3)) _
  repeat' first | (with_reducible exact Lim.const _) | (with_reducible exact spec_ExcessOf.l0L _ _ _) | (with_reducible refine Lim.ite ?_ ?_) | (with_reducible refine Lim.bind ?_ (fun _ => ?_)) | exact Lim.const _ | refine Lim.ite ?_ ?_ | refine Lim.bind ?_ (fun _ => ?_) | exact spec_ExcessOf.l0L _ _ _
noncomputable def spec_ExcessOf.g (l0 : List (S25)) : Option (Int) := lim (fun k => spec_ExcessOf.f k l0)
theorem spec_ExcessOf.L (l0 : List (S25)) : Lim (fun k => spec_ExcessOf.f k l0) (spec_ExcessOf.g l0) := Lim.of (fun k => spec_ExcessOf.mono l0 k)
theorem spec_ExcessOf.ge (l0 : List (S25)) : spec_ExcessOf.g l0 = (spec_ExcessOf.l0g l0 0 0) := by
  refine Lim.uniq (spec_ExcessOf.L l0) ?_
  show Lim (fun k => spec_ExcessOf.l0 k l0 0 0) _
  repeat' first | (with_reducible exact Lim.const _) | (with_reducible exact spec_ExcessOf.l0L _ _ _) | (with_reducible refine Lim.ite ?_ ?_) | (with_reducible refine Lim.bind ?_ (fun _ => ?_)) | exact Lim.const _ | refine Lim.ite ?_ ?_ | refine Lim.bind ?_ (fun _ => ?_) | exact spec_ExcessOf.l0L _ _ _

noncomputable def laws_toHopS.l0g (y0 : List (S23)) (y1 : List (S25)) (y2 : Int) : Option ((List (S25))) := lim (fun k => laws_toHopS.l0 k y0 y1 y2)
theorem laws_toHopS.l0L (y0 : List (S23)) (y1 : List (S25)) (y2 : Int) : Lim (fun k => laws_toHopS.l0 k y0 y1 y2) (laws_toHopS.l0g y0 y1 y2) := Lim.of (fun k => (laws_toHopS.mono_l k) y0 y1 y2)
theorem laws_toHopS.l0e (x0 : List (S23)) (x3 : List (S25)) (x4 : Int) : laws_toHopS.l0g x0 x3 x4 = (if x4 < (x0.length : Int) then (if 0 ≤ x4 then ((laws_toHop.f ((rd_T23 x0 x4).f0) ((rd_T23 x0 x4).f1) ((rd_T23 x0 x4).f2)).bind fun bt110 => (if x4 < (x3.length : Int) then (laws_toHopS.l0g x0 (x3.set (x4 : Int).toNat (⟨bt110.1, bt110.2.1, bt110.2.2⟩ : S25)) (wrap64 (x4 + 1))) else (none))) else (none)) else (some x3)) := by
  refine Lim.round (laws_toHopS.l0L x0 x3 x4) ?_
  show Lim (fun k => if x4 < (x0.length : Int) then (if 0 ≤ x4 then ((laws_toHop.f ((rd_T23 x0 x4).f0) ((rd_T23 x0 x4).f1) ((rd_T23 x0 x4).f2)).bind fun bt110 => (if x4 < (x3.length : Int) then (laws_toHopS.l0 k x0 (x3.set (x4 : Int).toNat (⟨bt110.1, bt110.2.1, bt110.2.2⟩ : S25)) (wrap64 (x4 + 1))) else (none))) else (none)) else (some x3)) _
  repeat' first | (with_reducible exact Lim.const _) | (with_reducible exact laws_toHopS.l0L _ _ _) | (with_reducible refine Lim.ite ?_ ?_) | (with_reducible refine Lim.bind ?_ (fun _ => ?_)) | exact Lim.const _ | refine Lim.ite ?_ ?_ | refine Lim.bind ?_ (fun _ => ?_) | exact laws_toHopS.l0L _ _ _
noncomputable def laws_toHopS.g (l0 : List (S23)) : Option ((List (S25))) := lim (fun k => laws_toHopS.f k l0)
theorem laws_toHopS.L (l0 : List (S23)) : Lim (fun k => laws_toHopS.f k l0) (laws_toHopS.g l0) := Lim.of (fun k => laws_toHopS.mono l0 k)
theorem laws_toHopS.ge (l0 : List (S23)) : laws_toHopS.g l0 = (if 0 ≤ (l0.length : Int) then (if ((l0.length : Int) : Int).toNat ≤ 11728124029610 then (laws_toHopS.l0g l0 (List.replicate ((l0.length : Int) : Int).toNat z25) 0) else (none)) else (none)) := by
  refine Lim.uniq (laws_toHopS.L l0) ?_
  show Lim (fun k => if 0 ≤ (l0.length : Int) then (if ((l0.length : Int) : Int).toNat ≤ 11728124029610 then (laws_toHopS.l0 k l0 (List.replicate ((l0.length : Int) : Int).toNat z25) 0) else (none)) else (none)) _
  repeat' first | (with_reducible exact Lim.const _) | (with_reducible exact laws_toHopS.l0L _ _ _) | (with_reducible refine Lim.ite ?_ ?_) | (with_reducible refine Lim.bind ?_ (fun _ => ?_)) | exact Lim.const _ | refine Lim.ite ?_ ?_ | refine Lim.bind ?_ (fun _ => ?_) | exact laws_toHopS.l0L _ _ _

noncomputable def impl_ExcessOf.l0g (y0 : Int) (y1 : List (S25)) (y2 : Int) (y3 : Int) : Option (Int) := lim (fun k => impl_ExcessOf.l0 k y0 y1 y2 y3)
theorem impl_ExcessOf.l0L (y0 : Int) (y1 : List (S25)) (y2 : Int) (y3 : Int) : Lim (fun k => impl_ExcessOf.l0 k y0 y1 y2 y3) (impl_ExcessOf.l0g y0 y1 y2 y3) := Lim.of (fun k => (impl_ExcessOf.mono_l k) y0 y1 y2 y3)
theorem impl_ExcessOf.l0e (x3 : Int) (x6 : List (S25)) (x7 : Int) (x8 : Int) : impl_ExcessOf.l0g x3 x6 x7 x8 = (if x8 < x7 then (if 0 ≤ x8 then (if x8 < (x6.length : Int) then (impl_ExcessOf.l0g (mx x3 ((rd_T25 x6 x8).f0)) x6 x7 (wrap64 (x8 + 1))) else (none)) else (none)) else (some x3)) := by
  refine Lim.round (impl_ExcessOf.l0L x3 x6 x7 x8) ?_
  show Lim (fun k => if x8 < x7 then (if 0 ≤ x8 then (if x8 < (x6.length : Int) then (impl_ExcessOf.l0 k (mx x3 ((rd_T25 x6 x8).f0)) x6 x7 (wrap64 (x8 + 1))) else (none)) else (none)) else (some x3)) _
  repeat' first | (with_reducible exact Lim.const _) | (with_reducible exact impl_ExcessOf.l0L _ _ _ _) | (with_reducible refine Lim.ite ?_ ?_) | (with_reducible refine Lim.bind ?_ (fun _ => ?_)) | exact Lim.const _ | refine Lim.ite ?_ ?_ | refine Lim.bind ?_ (fun _ => ?_) | exact impl_ExcessOf.l0L _ _ _ _
noncomputable def impl_ExcessOf.g (l0 : List (S25)) : Option (Int) := lim (fun k => impl_ExcessOf.f k l0)
theorem impl_ExcessOf.L (l0 : List (S25)) : Lim (fun k => impl_ExcessOf.f k l0) (impl_ExcessOf.g l0) := Lim.of (fun k => impl_ExcessOf.mono l0 k)
theorem impl_ExcessOf.ge (l0 : List (S25)) : impl_ExcessOf.g l0 = (impl_ExcessOf.l0g 0 l0 (l0.length : Int) 0) := by
  refine Lim.uniq (impl_ExcessOf.L l0) ?_
  show Lim (fun k => impl_ExcessOf.l0 k 0 l0 (l0.length : Int) 0) _
  repeat' first | (with_reducible exact Lim.const _) | (with_reducible exact impl_ExcessOf.l0L _ _ _ _) | (with_reducible refine Lim.ite ?_ ?_) | (with_reducible refine Lim.bind ?_ (fun _ => ?_)) | exact Lim.const _ | refine Lim.ite ?_ ?_ | refine Lim.bind ?_ (fun _ => ?_) | exact impl_ExcessOf.l0L _ _ _ _

noncomputable def laws_eqHopS.l0g (y0 : List (S25)) (y1 : List (S25)) (y2 : Int) : Option (Bool) := lim (fun k => laws_eqHopS.l0 k y0 y1 y2)
theorem laws_eqHopS.l0L (y0 : List (S25)) (y1 : List (S25)) (y2 : Int) : Lim (fun k => laws_eqHopS.l0 k y0 y1 y2) (laws_eqHopS.l0g y0 y1 y2) := Lim.of (fun k => (laws_eqHopS.mono_l k) y0 y1 y2)
theorem laws_eqHopS.l0e (x0 : List (S25)) (x1 : List (S25)) (x5 : Int) : laws_eqHopS.l0g x0 x1 x5 = (if x5 < (x0.length : Int) then (if 0 ≤ x5 then (if x5 < (x1.length : Int) then ((laws_eqHop.f ((rd_T25 x0 x5).f0) ((rd_T25 x0 x5).f1) ((rd_T25 x0 x5).f2) ((rd_T25 x1 x5).f0) ((rd_T25 x1 x5).f1) ((rd_T25 x1 x5).f2)).bind fun t120 => (if t120 = true then (laws_eqHopS.l0g x0 x1 (wrap64 (x5 + 1))) else (some false))) else (none)) else (none)) else (some true)) := by
  refine Lim.round (laws_eqHopS.l0L x0 x1 x5) ?_
  show Lim (fun k => if x5 < (x0.length : Int) then (if 0 ≤ x5 then (if x5 < (x1.length : Int) then ((laws_eqHop.f ((rd_T25 x0 x5).f0) ((rd_T25 x0 x5).f1) ((rd_T25 x0 x5).f2) ((rd_T25 x1 x5).f0) ((rd_T25 x1 x5).f1) ((rd_T25 x1 x5).f2)).bind fun t120 => (if t120 = true then (laws_eqHopS.l0 k x0 x1 (wrap64 (x5 + 1))) else (some false))) else (none)) else (none)) else (some true)) _
  repeat' first | (with_reducible exact Lim.const _) | (with_reducible exact laws_eqHopS.l0L _ _ _) | (with_reducible refine Lim.ite ?_ ?_) | (with_reducible refine Lim.bind ?_ (fun _ => ?_)) | exact Lim.const _ | refine Lim.ite ?_ ?_ | refine Lim.bind ?_ (fun _ => ?_) | exact laws_eqHopS.l0L _ _ _
noncomputable def laws_eqHopS.g (l0 : List (S25)) (l1 : List (S25)) : Option (Bool) := lim (fun k => laws_eqHopS.f k l0 l1)
theorem laws_eqHopS.L (l0 : List (S25)) (l1 : List (S25)) : Lim (fun k => laws_eqHopS.f k l0 l1) (laws_eqHopS.g l0 l1) := Lim.of (fun k => laws_eqHopS.mono l0 l1 k)
theorem laws_eqHopS.ge (l0 : List (S25)) (l1 : List (S25)) : laws_eqHopS.g l0 l1 = (if (l0.length : Int) = (l1.length : Int) then (laws_eqHopS.l0g l0 l1 0) else (some false)) := by
  refine Lim.uniq (laws_eqHopS.L l0 l1) ?_
  show Lim (fun k => if (l0.length : Int) = (l1.length : Int) then (laws_eqHopS.l0 k l0 l1 0) else (some false)) _
  repeat' first | (with_reducible exact Lim.const _) | (with_reducible exact laws_eqHopS.l0L _ _ _) | (with_reducible refine Lim.ite ?_ ?_) | (with_reducible refine Lim.bind ?_ (fun _ => ?_)) | exact Lim.const _ | refine Lim.ite ?_ ?_ | refine Lim.bind ?_ (fun _ => ?_) | exact laws_eqHopS.l0L _ _ _

noncomputable def laws_FnExactExcessOf.g (l0 : List (S23)) : Option (Bool) := lim (fun k => laws_FnExactExcessOf.f k l0)
theorem laws_FnExactExcessOf.L (l0 : List (S23)) : Lim (fun k => laws_FnExactExcessOf.f k l0) (laws_FnExactExcessOf.g l0) := Lim.of (fun k => laws_FnExactExcessOf.mono l0 k)
theorem laws_FnExactExcessOf.ge (l0 : List (S23)) : laws_FnExactExcessOf.g l0 = ((laws_szHopS.f l0 1048576).bind fun t121 => (if t121 < 0 then (some true) else ((laws_toHopS.g l0).bind fun t122 => ((spec_ExcessOf.g t122).bind fun t125 => ((laws_toHopS.g l0).bind fun t126 => ((impl_ExcessOf.g t126).bind fun t129 => (if t129 = t125 then ((laws_toHopS.g l0).bind fun t130 => ((laws_eqHopS.g t126 t130).bind fun t133 => (if t133 = true then (some true) else (some false)))) else (some false)))))))) := by
  refine Lim.uniq (laws_FnExactExcessOf.L l0) ?_
  show Lim (fun k => (laws_szHopS.f l0 1048576).bind fun t121 => (if t121 < 0 then (some true) else ((laws_toHopS.f k l0).bind fun t122 => ((spec_ExcessOf.f k t122).bind fun t125 => ((laws_toHopS.f k l0).bind fun t126 => ((impl_ExcessOf.f k t126).bind fun t129 => (if t129 = t125 then ((laws_toHopS.f k l0).bind fun t130 => ((laws_eqHopS.f k t126 t130).bind fun t133 => (if t133 = true then (some true) else (some false)))) else (some false)))))))) _
  repeat' first | (with_reducible exact Lim.const _) | (with_reducible exact laws_toHopS.L _) | (with_reducible exact spec_ExcessOf.L _) | (with_reducible exact impl_ExcessOf.L _) | (with_reducible exact laws_eqHopS.L _ _) | (with_reducible refine Lim.ite ?_ ?_) | (with_reducible refine Lim.bind ?_ (fun _ => ?_)) | exact Lim.const _ | refine Lim.ite ?_ ?_ | refine Lim.bind ?_ (fun _ => ?_) | exact laws_toHopS.L _ | exact spec_ExcessOf.L _ | exact impl_ExcessOf.L _ | exact laws_eqHopS.L _ _

end Go.Proofs.Ytplljcjhfbamdaa.PFnExactExcessOf
