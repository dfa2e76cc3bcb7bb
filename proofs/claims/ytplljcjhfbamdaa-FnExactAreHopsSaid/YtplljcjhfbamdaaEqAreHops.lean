/- What the printed functions with rounds come to, and their equations. Written by limgen.py. No condition of its own. -/
import Derived.Test.YtplljcjhfbamdaaLim
import Derived.Test.YtplljcjhfbamdaaPFnExactAreHopsx0
import Derived.Test.YtplljcjhfbamdaaPFnExactAreHopsx1
import Derived.Test.YtplljcjhfbamdaaPFnExactAreHopsx2
namespace Go.Proofs.Ytplljcjhfbamdaa.PFnExactAreHops
open Go.RowKit Go.Proofs.YtplljcjhfbamdaaW.PrintWords Go.Proofs.YtplljcjhfbamdaaW.PrintLast Go.Proofs.YtplljcjhfbamdaaW.PrintMore Go.Proofs.Ytplljcjhfbamdaa.Lim
set_option linter.unusedVariables false
set_option linter.unusedSimpArgs false

noncomputable def laws_toHopS.l0g (y0 : List (S23)) (y1 : List (S25)) (y2 : Int) : Option ((List (S25))) := lim (fun k => laws_toHopS.l0 k y0 y1 y2)
theorem laws_toHopS.l0L (y0 : List (S23)) (y1 : List (S25)) (y2 : Int) : Lim (fun k => laws_toHopS.l0 k y0 y1 y2) (laws_toHopS.l0g y0 y1 y2) := Lim.of (fun k => (laws_toHopS.mono_l k) y0 y1 y2)
theorem laws_toHopS.l0e (x0 : List (S23)) (x3 : List (S25)) (x4 : Int) : laws_toHopS.l0g x0 x3 x4 = (if x4 < (x0.length : Int) then (if 0 ≤ x4 then ((laws_toHop.f ((rd_T23 x0 x4).f0) ((rd_T23 x0 x4).f1) ((rd_T23 x0 x4).f2)).bind fun bt108 => (if x4 < (x3.length : Int) then (laws_toHopS.l0g x0 (x3.set (x4 : Int).toNat (⟨bt108.1, bt108.2.1, bt108.2.2⟩ : S25)) (wrap64 (x4 + 1))) else (none))) else (none)) else (some x3)) := by
  refine Lim.round (laws_toHopS.l0L x0 x3 x4) ?_
  show Lim (fun k => if x4 < (x0.length : Int) then (if 0 ≤ x4 then ((laws_toHop.f ((rd_T23 x0 x4).f0) ((rd_T23 x0 x4).f1) ((rd_T23 x0 x4).f2)).bind fun bt108 => (if x4 < (x3.length : Int) then (laws_toHopS.l0 k x0 (x3.set (x4 : Int).toNat (⟨bt108.1, bt108.2.1, bt108.2.2⟩ : S25)) (wrap64 (x4 + 1))) else (none))) else (none)) else (some x3)) _
  repeat' first | (with_reducible exact Lim.const _) | (with_reducible exact laws_toHopS.l0L _ _ _) | (with_reducible refine Lim.ite ?_ ?_) | (with_reducible refine Lim.bind ?_ (fun _ => ?_)) | exact Lim.const _ | refine Lim.ite ?_ ?_ | refine Lim.bind ?_ (fun _ => ?_) | exact laws_toHopS.l0L _ _ _
noncomputable def laws_toHopS.g (l0 : List (S23)) : Option ((List (S25))) := lim (fun k => laws_toHopS.f k l0)
theorem laws_toHopS.L (l0 : List (S23)) : Lim (fun k => laws_toHopS.f k l0) (laws_toHopS.g l0) := Lim.of (fun k => laws_toHopS.mono l0 k)
theorem laws_toHopS.ge (l0 : List (S23)) : laws_toHopS.g l0 = (if 0 ≤ (l0.length : Int) then (if ((l0.length : Int) : Int).toNat ≤ 11728124029610 then (laws_toHopS.l0g l0 (List.replicate ((l0.length : Int) : Int).toNat z25) 0) else (none)) else (none)) := by
  refine Lim.uniq (laws_toHopS.L l0) ?_
  show Lim (fun k => if 0 ≤ (l0.length : Int) then (if ((l0.length : Int) : Int).toNat ≤ 11728124029610 then (laws_toHopS.l0 k l0 (List.replicate ((l0.length : Int) : Int).toNat z25) 0) else (none)) else (none)) _
  repeat' first | (with_reducible exact Lim.const _) | (with_reducible exact laws_toHopS.l0L _ _ _) | (with_reducible refine Lim.ite ?_ ?_) | (with_reducible refine Lim.bind ?_ (fun _ => ?_)) | exact Lim.const _ | refine Lim.ite ?_ ?_ | refine Lim.bind ?_ (fun _ => ?_) | exact laws_toHopS.l0L _ _ _

noncomputable def laws_eqHopS.l0g (y0 : List (S25)) (y1 : List (S25)) (y2 : Int) : Option (Bool) := lim (fun k => laws_eqHopS.l0 k y0 y1 y2)
theorem laws_eqHopS.l0L (y0 : List (S25)) (y1 : List (S25)) (y2 : Int) : Lim (fun k => laws_eqHopS.l0 k y0 y1 y2) (laws_eqHopS.l0g y0 y1 y2) := Lim.of (fun k => (laws_eqHopS.mono_l k) y0 y1 y2)
theorem laws_eqHopS.l0e (x0 : List (S25)) (x1 : List (S25)) (x5 : Int) : laws_eqHopS.l0g x0 x1 x5 = (if x5 < (x0.length : Int) then (if 0 ≤ x5 then (if x5 < (x1.length : Int) then ((laws_eqHop.f ((rd_T25 x0 x5).f0) ((rd_T25 x0 x5).f1) ((rd_T25 x0 x5).f2) ((rd_T25 x1 x5).f0) ((rd_T25 x1 x5).f1) ((rd_T25 x1 x5).f2)).bind fun t116 => (if t116 = true then (laws_eqHopS.l0g x0 x1 (wrap64 (x5 + 1))) else (some false))) else (none)) else (none)) else (some true)) := by
  refine Lim.round (laws_eqHopS.l0L x0 x1 x5) ?_
  show Lim (fun k => if x5 < (x0.length : Int) then (if 0 ≤ x5 then (if x5 < (x1.length : Int) then ((laws_eqHop.f ((rd_T25 x0 x5).f0) ((rd_T25 x0 x5).f1) ((rd_T25 x0 x5).f2) ((rd_T25 x1 x5).f0) ((rd_T25 x1 x5).f1) ((rd_T25 x1 x5).f2)).bind fun t116 => (if t116 = true then (laws_eqHopS.l0 k x0 x1 (wrap64 (x5 + 1))) else (some false))) else (none)) else (none)) else (some true)) _
  repeat' first | (with_reducible exact Lim.const _) | (with_reducible exact laws_eqHopS.l0L _ _ _) | (with_reducible refine Lim.ite ?_ ?_) | (with_reducible refine Lim.bind ?_ (fun _ => ?_)) | exact Lim.const _ | refine Lim.ite ?_ ?_ | refine Lim.bind ?_ (fun _ => ?_) | exact laws_eqHopS.l0L _ _ _
noncomputable def laws_eqHopS.g (l0 : List (S25)) (l1 : List (S25)) : Option (Bool) := lim (fun k => laws_eqHopS.f k l0 l1)
theorem laws_eqHopS.L (l0 : List (S25)) (l1 : List (S25)) : Lim (fun k => laws_eqHopS.f k l0 l1) (laws_eqHopS.g l0 l1) := Lim.of (fun k => laws_eqHopS.mono l0 l1 k)
theorem laws_eqHopS.ge (l0 : List (S25)) (l1 : List (S25)) : laws_eqHopS.g l0 l1 = (if (l0.length : Int) = (l1.length : Int) then (laws_eqHopS.l0g l0 l1 0) else (some false)) := by
  refine Lim.uniq (laws_eqHopS.L l0 l1) ?_
  show Lim (fun k => if (l0.length : Int) = (l1.length : Int) then (laws_eqHopS.l0 k l0 l1 0) else (some false)) _
  repeat' first | (with_reducible exact Lim.const _) | (with_reducible exact laws_eqHopS.l0L _ _ _) | (with_reducible refine Lim.ite ?_ ?_) | (with_reducible refine Lim.bind ?_ (fun _ => ?_)) | exact Lim.const _ | refine Lim.ite ?_ ?_ | refine Lim.bind ?_ (fun _ => ?_) | exact laws_eqHopS.l0L _ _ _

noncomputable def spec_AreHops.l0g (y0 : List (S25)) (y1 : Int) : Option (Bool) := lim (fun k => spec_AreHops.l0 k y0 y1)
theorem spec_AreHops.l0L (y0 : List (S25)) (y1 : Int) : Lim (fun k => spec_AreHops.l0 k y0 y1) (spec_AreHops.l0g y0 y1) := Lim.of (fun k => (spec_AreHops.mono_l k) y0 y1)
theorem spec_AreHops.l0e (x0 : List (S25)) (x3 : Int) : spec_AreHops.l0g x0 x3 = (if x3 < (x0.length : Int) then (if 0 ≤ x3 then ((spec_IsHop.f ((rd_T25 x0 x3).f0) ((rd_T25 x0 x3).f1) ((rd_T25 x0 x3).f2)).bind fun t122 => (if t122 = true then (spec_AreHops.l0g x0 (wrap64 (x3 + 1))) else (some false))) else (none)) else (some (decide ((x0.length : Int) ≤ 8)))) := by
  refine Lim.round (spec_AreHops.l0L x0 x3) ?_
  show Lim (fun k => if x3 < (x0.length : Int) then (if 0 ≤ x3 then ((spec_IsHop.f ((rd_T25 x0 x3).f0) ((rd_T25 x0 x3).f1) ((rd_T25 x0 x3).f2)).bind fun t122 => (if t122 = true then (spec_AreHops.l0 k x0 (wrap64 (x3 + 1))) else (some false))) else (none)) else (some (decide ((x0.length : Int) ≤ 8)))) _
  repeat' first | (with_reducible exact Lim.const _) | (with_reducible exact spec_AreHops.l0L _ _) | (with_reducible refine Lim.ite ?_ ?_) | (with_reducible refine Lim.bind ?_ (fun _ => ?_)) | exact Lim.const _ | refine Lim.ite ?_ ?_ | refine Lim.bind ?_ (fun _ => ?_) | exact spec_AreHops.l0L _ _
noncomputable def spec_AreHops.g (l0 : List (S25)) : Option (Bool) := lim (fun k => spec_AreHops.f k l0)
theorem spec_AreHops.L (l0 : List (S25)) : Lim (fun k => spec_AreHops.f k l0) (spec_AreHops.g l0) := Lim.of (fun k => spec_AreHops.mono l0 k)
theorem spec_AreHops.ge (l0 : List (S25)) : spec_AreHops.g l0 = (spec_AreHops.l0g l0 0) := by
  refine Lim.uniq (spec_AreHops.L l0) ?_
  show Lim (fun k => spec_AreHops.l0 k l0 0) _
  repeat' first | (with_reducible exact Lim.const _) | (with_reducible exact spec_AreHops.l0L _ _) | (with_reducible refine Lim.ite ?_ ?_) | (with_reducible refine Lim.bind ?_ (fun _ => ?_)) | exact Lim.const _ | refine Lim.ite ?_ ?_ | refine Lim.bind ?_ (fun _ => ?_) | exact spec_AreHops.l0L _ _

noncomputable def impl_AreHops.l0g (y0 : List (S25)) (y1 : List (S25)) (y2 : Int) (y3 : Int) : Option (Bool) := lim (fun k => impl_AreHops.l0 k y0 y1 y2 y3)
theorem impl_AreHops.l0L (y0 : List (S25)) (y1 : List (S25)) (y2 : Int) (y3 : Int) : Lim (fun k => impl_AreHops.l0 k y0 y1 y2 y3) (impl_AreHops.l0g y0 y1 y2 y3) := Lim.of (fun k => (impl_AreHops.mono_l k) y0 y1 y2 y3)
theorem impl_AreHops.l0e (x0 : List (S25)) (x5 : List (S25)) (x6 : Int) (x7 : Int) : impl_AreHops.l0g x0 x5 x6 x7 = (if x7 < x6 then (if 0 ≤ x7 then (if x7 < (x5.length : Int) then ((impl_IsHop.f ((rd_T25 x5 x7).f0) ((rd_T25 x5 x7).f1) ((rd_T25 x5 x7).f2)).bind fun t129 => (if t129 = true then (impl_AreHops.l0g x0 x5 x6 (wrap64 (x7 + 1))) else (some false))) else (none)) else (none)) else (some (decide ((x0.length : Int) ≤ 8)))) := by
  refine Lim.round (impl_AreHops.l0L x0 x5 x6 x7) ?_
  show Lim (fun k => if x7 < x6 then (if 0 ≤ x7 then (if x7 < (x5.length : Int) then ((impl_IsHop.f ((rd_T25 x5 x7).f0) ((rd_T25 x5 x7).f1) ((rd_T25 x5 x7).f2)).bind fun t129 => (if t129 = true then (impl_AreHops.l0 k x0 x5 x6 (wrap64 (x7 + 1))) else (some false))) else (none)) else (none)) else (some (decide ((x0.length : Int) ≤ 8)))) _
  repeat' first | (with_reducible exact Lim.const _) | (with_reducible exact impl_AreHops.l0L _ _ _ _) | (with_reducible refine Lim.ite ?_ ?_) | (with_reducible refine Lim.bind ?_ (fun _ => ?_)) | exact Lim.const _ | refine Lim.ite ?_ ?_ | refine Lim.bind ?_ (fun _ => ?_) | exact impl_AreHops.l0L _ _ _ _
noncomputable def impl_AreHops.g (l0 : List (S25)) : Option (Bool) := lim (fun k => impl_AreHops.f k l0)
theorem impl_AreHops.L (l0 : List (S25)) : Lim (fun k => impl_AreHops.f k l0) (impl_AreHops.g l0) := Lim.of (fun k => impl_AreHops.mono l0 k)
theorem impl_AreHops.ge (l0 : List (S25)) : impl_AreHops.g l0 = (impl_AreHops.l0g l0 l0 (l0.length : Int) 0) := by
  refine Lim.uniq (impl_AreHops.L l0) ?_
  show Lim (fun k => impl_AreHops.l0 k l0 l0 (l0.length : Int) 0) _
  repeat' first | (with_reducible exact Lim.const _) | (with_reducible exact impl_AreHops.l0L _ _ _ _) | (with_reducible refine Lim.ite ?_ ?_) | (with_reducible refine Lim.bind ?_ (fun _ => ?_)) | exact Lim.const _ | refine Lim.ite ?_ ?_ | refine Lim.bind ?_ (fun _ => ?_) | exact impl_AreHops.l0L _ _ _ _

noncomputable def laws_FnExactAreHops.g (l0 : List (S23)) : Option (Bool) := lim (fun k => laws_FnExactAreHops.f k l0)
theorem laws_FnExactAreHops.L (l0 : List (S23)) : Lim (fun k => laws_FnExactAreHops.f k l0) (laws_FnExactAreHops.g l0) := Lim.of (fun k => laws_FnExactAreHops.mono l0 k)
theorem laws_FnExactAreHops.ge (l0 : List (S23)) : laws_FnExactAreHops.g l0 = ((laws_szHopS.f l0 1048576).bind fun t130 => (if t130 < 0 then (some true) else ((laws_toHopS.g l0).bind fun t131 => ((spec_AreHops.g t131).bind fun t134 => ((laws_toHopS.g l0).bind fun t135 => ((impl_AreHops.g t135).bind fun t138 => (if (t138 != t134) = true then (some false) else ((laws_toHopS.g l0).bind fun t139 => ((laws_eqHopS.g t135 t139).bind fun t142 => (if t142 = true then (some true) else (some false))))))))))) := by
  refine Lim.uniq (laws_FnExactAreHops.L l0) ?_
  show Lim (fun k => (laws_szHopS.f l0 1048576).bind fun t130 => (if t130 < 0 then (some true) else ((laws_toHopS.f k l0).bind fun t131 => ((spec_AreHops.f k t131).bind fun t134 => ((laws_toHopS.f k l0).bind fun t135 => ((impl_AreHops.f k t135).bind fun t138 => (if (t138 != t134) = true then (some false) else ((laws_toHopS.f k l0).bind fun t139 => ((laws_eqHopS.f k t135 t139).bind fun t142 => (if t142 = true then (some true) else (some false))))))))))) _
  repeat' first | (with_reducible exact Lim.const _) | (with_reducible exact laws_toHopS.L _) | (with_reducible exact spec_AreHops.L _) | (with_reducible exact impl_AreHops.L _) | (with_reducible exact laws_eqHopS.L _ _) | (with_reducible refine Lim.ite ?_ ?_) | (with_reducible refine Lim.bind ?_ (fun _ => ?_)) | exact Lim.const _ | refine Lim.ite ?_ ?_ | refine Lim.bind ?_ (fun _ => ?_) | exact laws_toHopS.L _ | exact spec_AreHops.L _ | exact impl_AreHops.L _ | exact laws_eqHopS.L _ _

end Go.Proofs.Ytplljcjhfbamdaa.PFnExactAreHops
