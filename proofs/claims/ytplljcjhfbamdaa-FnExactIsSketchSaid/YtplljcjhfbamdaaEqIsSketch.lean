/- What the printed functions with rounds come to, and their equations. Written by limgen.py. No condition of its own. -/
import Derived.Test.YtplljcjhfbamdaaLim
import Derived.Test.YtplljcjhfbamdaaPFnExactIsSketchx0
import Derived.Test.YtplljcjhfbamdaaPFnExactIsSketchx1
import Derived.Test.YtplljcjhfbamdaaPFnExactIsSketchx2
namespace Go.Proofs.Ytplljcjhfbamdaa.PFnExactIsSketch
open Go.RowKit Go.Proofs.YtplljcjhfbamdaaW.PrintWords Go.Proofs.YtplljcjhfbamdaaW.PrintLast Go.Proofs.YtplljcjhfbamdaaW.PrintMore Go.Proofs.Ytplljcjhfbamdaa.Lim
set_option linter.unusedVariables false
set_option linter.unusedSimpArgs false

noncomputable def spec_IsSketch.l0g (y0 : Int) (y1 : List Int) (y2 : Int) : Option (Bool) := lim (fun k => spec_IsSketch.l0 k y0 y1 y2)
theorem spec_IsSketch.l0L (y0 : Int) (y1 : List Int) (y2 : Int) : Lim (fun k => spec_IsSketch.l0 k y0 y1 y2) (spec_IsSketch.l0g y0 y1 y2) := Lim.of (fun k => (spec_IsSketch.mono_l k) y0 y1 y2)
theorem spec_IsSketch.l0e (x3 : Int) (x104000 : List Int) (x104001 : Int) : spec_IsSketch.l0g x3 x104000 x104001 = (if x3 < (x104000.length : Int) then (if 0 ≤ x3 then ((spec_l1In.f (rd x104000 x3) 0 64).bind fun t105 => (if t105 = true then (spec_IsSketch.l0g (wrap64 (x3 + 1)) x104000 x104001) else (some false))) else (none)) else (if (x104000.length : Int) = 0 then ((spec_l1In.f x104001 0 63).bind fun t106 => (some t106)) else (if (x104000.length : Int) = 64 then ((spec_l1In.f x104001 0 63).bind fun t107 => (some t107)) else (some false)))) := by
  refine Lim.round (spec_IsSketch.l0L x3 x104000 x104001) ?_
  show Lim (fun k => if x3 < (x104000.length : Int) then (if 0 ≤ x3 then ((spec_l1In.f (rd x104000 x3) 0 64).bind fun t105 => (if t105 = true then (spec_IsSketch.l0 k (wrap64 (x3 + 1)) x104000 x104001) else (some false))) else (none)) else (if (x104000.length : Int) = 0 then ((spec_l1In.f x104001 0 63).bind fun t106 => (some t106)) else (if (x104000.length : Int) = 64 then ((spec_l1In.f x104001 0 63).bind fun t107 => (some t107)) else (some false)))) _
  repeat' first | (with_reducible exact Lim.const _) | (with_reducible exact spec_IsSketch.l0L _ _ _) | (with_reducible refine Lim.ite ?_ ?_) | (with_reducible refine Lim.bind ?_ (fun _ => ?_)) | exact Lim.const _ | refine Lim.ite ?_ ?_ | refine Lim.bind ?_ (fun _ => ?_) | exact spec_IsSketch.l0L _ _ _
noncomputable def spec_IsSketch.g (l0_0 : List Int) (a0_1 : Int) : Option (Bool) := lim (fun k => spec_IsSketch.f k l0_0 a0_1)
theorem spec_IsSketch.L (l0_0 : List Int) (a0_1 : Int) : Lim (fun k => spec_IsSketch.f k l0_0 a0_1) (spec_IsSketch.g l0_0 a0_1) := Lim.of (fun k => spec_IsSketch.mono l0_0 a0_1 k)
theorem spec_IsSketch.ge (l0_0 : List Int) (a0_1 : Int) : spec_IsSketch.g l0_0 a0_1 = (spec_IsSketch.l0g 0 l0_0 a0_1) := by
  refine Lim.uniq (spec_IsSketch.L l0_0 a0_1) ?_
  show Lim (fun k => spec_IsSketch.l0 k 0 l0_0 a0_1) _
  repeat' first | (with_reducible exact Lim.const _) | (with_reducible exact spec_IsSketch.l0L _ _ _) | (with_reducible refine Lim.ite ?_ ?_) | (with_reducible refine Lim.bind ?_ (fun _ => ?_)) | exact Lim.const _ | refine Lim.ite ?_ ?_ | refine Lim.bind ?_ (fun _ => ?_) | exact spec_IsSketch.l0L _ _ _

noncomputable def laws_toIntS.l0g (y0 : List Int) (y1 : List Int) (y2 : Int) : Option (List Int) := lim (fun k => laws_toIntS.l0 k y0 y1 y2)
theorem laws_toIntS.l0L (y0 : List Int) (y1 : List Int) (y2 : Int) : Lim (fun k => laws_toIntS.l0 k y0 y1 y2) (laws_toIntS.l0g y0 y1 y2) := Lim.of (fun k => (laws_toIntS.mono_l k) y0 y1 y2)
theorem laws_toIntS.l0e (x0 : List Int) (x3 : List Int) (x4 : Int) : laws_toIntS.l0g x0 x3 x4 = (if x4 < (x0.length : Int) then (if 0 ≤ x4 then (if x4 < (x3.length : Int) then (laws_toIntS.l0g x0 (x3.set (x4 : Int).toNat (rd x0 x4)) (wrap64 (x4 + 1))) else (none)) else (none)) else (some x3)) := by
  refine Lim.round (laws_toIntS.l0L x0 x3 x4) ?_
  show Lim (fun k => if x4 < (x0.length : Int) then (if 0 ≤ x4 then (if x4 < (x3.length : Int) then (laws_toIntS.l0 k x0 (x3.set (x4 : Int).toNat (rd x0 x4)) (wrap64 (x4 + 1))) else (none)) else (none)) else (some x3)) _
  repeat' first | (with_reducible exact Lim.const _) | (with_reducible exact laws_toIntS.l0L _ _ _) | (with_reducible refine Lim.ite ?_ ?_) | (with_reducible refine Lim.bind ?_ (fun _ => ?_)) | exact Lim.const _ | refine Lim.ite ?_ ?_ | refine Lim.bind ?_ (fun _ => ?_) | exact laws_toIntS.l0L _ _ _
noncomputable def laws_toIntS.g (l0 : List Int) : Option (List Int) := lim (fun k => laws_toIntS.f k l0)
theorem laws_toIntS.L (l0 : List Int) : Lim (fun k => laws_toIntS.f k l0) (laws_toIntS.g l0) := Lim.of (fun k => laws_toIntS.mono l0 k)
theorem laws_toIntS.ge (l0 : List Int) : laws_toIntS.g l0 = (if 0 ≤ (l0.length : Int) then (if ((l0.length : Int) : Int).toNat ≤ 35184372088832 then (laws_toIntS.l0g l0 (List.replicate ((l0.length : Int) : Int).toNat 0) 0) else (none)) else (none)) := by
  refine Lim.uniq (laws_toIntS.L l0) ?_
  show Lim (fun k => if 0 ≤ (l0.length : Int) then (if ((l0.length : Int) : Int).toNat ≤ 35184372088832 then (laws_toIntS.l0 k l0 (List.replicate ((l0.length : Int) : Int).toNat 0) 0) else (none)) else (none)) _
  repeat' first | (with_reducible exact Lim.const _) | (with_reducible exact laws_toIntS.l0L _ _ _) | (with_reducible refine Lim.ite ?_ ?_) | (with_reducible refine Lim.bind ?_ (fun _ => ?_)) | exact Lim.const _ | refine Lim.ite ?_ ?_ | refine Lim.bind ?_ (fun _ => ?_) | exact laws_toIntS.l0L _ _ _

noncomputable def laws_toSketch.g (l0_0 : List Int) (a0_1 : Int) : Option (List Int × Int) := lim (fun k => laws_toSketch.f k l0_0 a0_1)
theorem laws_toSketch.L (l0_0 : List Int) (a0_1 : Int) : Lim (fun k => laws_toSketch.f k l0_0 a0_1) (laws_toSketch.g l0_0 a0_1) := Lim.of (fun k => laws_toSketch.mono l0_0 a0_1 k)
theorem laws_toSketch.ge (l0_0 : List Int) (a0_1 : Int) : laws_toSketch.g l0_0 a0_1 = ((laws_toIntS.g l0_0).bind fun t116 => (some (t116, a0_1))) := by
  refine Lim.uniq (laws_toSketch.L l0_0 a0_1) ?_
  show Lim (fun k => (laws_toIntS.f k l0_0).bind fun t116 => (some (t116, a0_1))) _
  repeat' first | (with_reducible exact Lim.const _) | (with_reducible exact laws_toIntS.L _) | (with_reducible refine Lim.ite ?_ ?_) | (with_reducible refine Lim.bind ?_ (fun _ => ?_)) | exact Lim.const _ | refine Lim.ite ?_ ?_ | refine Lim.bind ?_ (fun _ => ?_) | exact laws_toIntS.L _

noncomputable def impl_IsSketch.l0g (y0 : List Int) (y1 : Int) (y2 : Int) (y3 : List Int) (y4 : Int) : Option (Bool) := lim (fun k => impl_IsSketch.l0 k y0 y1 y2 y3 y4)
theorem impl_IsSketch.l0L (y0 : List Int) (y1 : Int) (y2 : Int) (y3 : List Int) (y4 : Int) : Lim (fun k => impl_IsSketch.l0 k y0 y1 y2 y3 y4) (impl_IsSketch.l0g y0 y1 y2 y3 y4) := Lim.of (fun k => (impl_IsSketch.mono_l k) y0 y1 y2 y3 y4)
theorem impl_IsSketch.l0e (x6 : List Int) (x7 : Int) (x8 : Int) (x120000 : List Int) (x120001 : Int) : impl_IsSketch.l0g x6 x7 x8 x120000 x120001 = (if x8 < x7 then (if 0 ≤ x8 then (if x8 < (x6.length : Int) then ((impl_inRange.f (rd x6 x8) 0 64).bind fun t121 => (if t121 = true then (impl_IsSketch.l0g x6 x7 (wrap64 (x8 + 1)) x120000 x120001) else (some false))) else (none)) else (none)) else (if (x120000.length : Int) = 0 then ((impl_inRange.f x120001 0 63).bind fun t122 => (some t122)) else (if (x120000.length : Int) = 64 then ((impl_inRange.f x120001 0 63).bind fun t123 => (some t123)) else (some false)))) := by
  refine Lim.round (impl_IsSketch.l0L x6 x7 x8 x120000 x120001) ?_
  show Lim (fun k => if x8 < x7 then (if 0 ≤ x8 then (if x8 < (x6.length : Int) then ((impl_inRange.f (rd x6 x8) 0 64).bind fun t121 => (if t121 = true then (impl_IsSketch.l0 k x6 x7 (wrap64 (x8 + 1)) x120000 x120001) else (some false))) else (none)) else (none)) else (if (x120000.length : Int) = 0 then ((impl_inRange.f x120001 0 63).bind fun t122 => (some t122)) else (if (x120000.length : Int) = 64 then ((impl_inRange.f x120001 0 63).bind fun t123 => (some t123)) else (some false)))) _
  repeat' first | (with_reducible exact Lim.const _) | (with_reducible exact impl_IsSketch.l0L _ _ _ _ _) | (with_reducible refine Lim.ite ?_ ?_) | (with_reducible refine Lim.bind ?_ (fun _ => ?_)) | exact Lim.const _ | refine Lim.ite ?_ ?_ | refine Lim.bind ?_ (fun _ => ?_) | exact impl_IsSketch.l0L _ _ _ _ _
noncomputable def impl_IsSketch.g (l0_0 : List Int) (a0_1 : Int) : Option (Bool) := lim (fun k => impl_IsSketch.f k l0_0 a0_1)
theorem impl_IsSketch.L (l0_0 : List Int) (a0_1 : Int) : Lim (fun k => impl_IsSketch.f k l0_0 a0_1) (impl_IsSketch.g l0_0 a0_1) := Lim.of (fun k => impl_IsSketch.mono l0_0 a0_1 k)
theorem impl_IsSketch.ge (l0_0 : List Int) (a0_1 : Int) : impl_IsSketch.g l0_0 a0_1 = (impl_IsSketch.l0g l0_0 (l0_0.length : Int) 0 l0_0 a0_1) := by
  refine Lim.uniq (impl_IsSketch.L l0_0 a0_1) ?_
  show Lim (fun k => impl_IsSketch.l0 k l0_0 (l0_0.length : Int) 0 l0_0 a0_1) _
  repeat' first | (with_reducible exact Lim.const _) | (with_reducible exact impl_IsSketch.l0L _ _ _ _ _) | (with_reducible refine Lim.ite ?_ ?_) | (with_reducible refine Lim.bind ?_ (fun _ => ?_)) | exact Lim.const _ | refine Lim.ite ?_ ?_ | refine Lim.bind ?_ (fun _ => ?_) | exact impl_IsSketch.l0L _ _ _ _ _

noncomputable def laws_eqIntS.l0g (y0 : List Int) (y1 : List Int) (y2 : Int) : Option (Bool) := lim (fun k => laws_eqIntS.l0 k y0 y1 y2)
theorem laws_eqIntS.l0L (y0 : List Int) (y1 : List Int) (y2 : Int) : Lim (fun k => laws_eqIntS.l0 k y0 y1 y2) (laws_eqIntS.l0g y0 y1 y2) := Lim.of (fun k => (laws_eqIntS.mono_l k) y0 y1 y2)
theorem laws_eqIntS.l0e (x0 : List Int) (x1 : List Int) (x5 : Int) : laws_eqIntS.l0g x0 x1 x5 = (if x5 < (x0.length : Int) then (if 0 ≤ x5 then (if x5 < (x1.length : Int) then (if (rd x0 x5) = (rd x1 x5) then (laws_eqIntS.l0g x0 x1 (wrap64 (x5 + 1))) else (some false)) else (none)) else (none)) else (some true)) := by
  refine Lim.round (laws_eqIntS.l0L x0 x1 x5) ?_
  show Lim (fun k => if x5 < (x0.length : Int) then (if 0 ≤ x5 then (if x5 < (x1.length : Int) then (if (rd x0 x5) = (rd x1 x5) then (laws_eqIntS.l0 k x0 x1 (wrap64 (x5 + 1))) else (some false)) else (none)) else (none)) else (some true)) _
  repeat' first | (with_reducible exact Lim.const _) | (with_reducible exact laws_eqIntS.l0L _ _ _) | (with_reducible refine Lim.ite ?_ ?_) | (with_reducible refine Lim.bind ?_ (fun _ => ?_)) | exact Lim.const _ | refine Lim.ite ?_ ?_ | refine Lim.bind ?_ (fun _ => ?_) | exact laws_eqIntS.l0L _ _ _
noncomputable def laws_eqIntS.g (l0 : List Int) (l1 : List Int) : Option (Bool) := lim (fun k => laws_eqIntS.f k l0 l1)
theorem laws_eqIntS.L (l0 : List Int) (l1 : List Int) : Lim (fun k => laws_eqIntS.f k l0 l1) (laws_eqIntS.g l0 l1) := Lim.of (fun k => laws_eqIntS.mono l0 l1 k)
theorem laws_eqIntS.ge (l0 : List Int) (l1 : List Int) : laws_eqIntS.g l0 l1 = (if (l0.length : Int) = (l1.length : Int) then (laws_eqIntS.l0g l0 l1 0) else (some false)) := by
  refine Lim.uniq (laws_eqIntS.L l0 l1) ?_
  show Lim (fun k => if (l0.length : Int) = (l1.length : Int) then (laws_eqIntS.l0 k l0 l1 0) else (some false)) _
  repeat' first | (with_reducible exact Lim.const _) | (with_reducible exact laws_eqIntS.l0L _ _ _) | (with_reducible refine Lim.ite ?_ ?_) | (with_reducible refine Lim.bind ?_ (fun _ => ?_)) | exact Lim.const _ | refine Lim.ite ?_ ?_ | refine Lim.bind ?_ (fun _ => ?_) | exact laws_eqIntS.l0L _ _ _

noncomputable def laws_eqSketch.g (l0_0 : List Int) (a0_1 : Int) (l1_0 : List Int) (a1_1 : Int) : Option (Bool) := lim (fun k => laws_eqSketch.f k l0_0 a0_1 l1_0 a1_1)
theorem laws_eqSketch.L (l0_0 : List Int) (a0_1 : Int) (l1_0 : List Int) (a1_1 : Int) : Lim (fun k => laws_eqSketch.f k l0_0 a0_1 l1_0 a1_1) (laws_eqSketch.g l0_0 a0_1 l1_0 a1_1) := Lim.of (fun k => laws_eqSketch.mono l0_0 a0_1 l1_0 a1_1 k)
theorem laws_eqSketch.ge (l0_0 : List Int) (a0_1 : Int) (l1_0 : List Int) (a1_1 : Int) : laws_eqSketch.g l0_0 a0_1 l1_0 a1_1 = ((laws_eqIntS.g l0_0 l1_0).bind fun t128 => (if t128 = true then (if a0_1 = a1_1 then (some true) else (some false)) else (some false))) := by
  refine Lim.uniq (laws_eqSketch.L l0_0 a0_1 l1_0 a1_1) ?_
  show Lim (fun k => (laws_eqIntS.f k l0_0 l1_0).bind fun t128 => (if t128 = true then (if a0_1 = a1_1 then (some true) else (some false)) else (some false))) _
  repeat' first | (with_reducible exact Lim.const _) | (with_reducible exact laws_eqIntS.L _ _) | (with_reducible refine Lim.ite ?_ ?_) | (with_reducible refine Lim.bind ?_ (fun _ => ?_)) | exact Lim.const _ | refine Lim.ite ?_ ?_ | refine Lim.bind ?_ (fun _ => ?_) | exact laws_eqIntS.L _ _

noncomputable def laws_FnExactIsSketch.g (l0_0 : List Int) (a0_1 : Int) : Option (Bool) := lim (fun k => laws_FnExactIsSketch.f k l0_0 a0_1)
theorem laws_FnExactIsSketch.L (l0_0 : List Int) (a0_1 : Int) : Lim (fun k => laws_FnExactIsSketch.f k l0_0 a0_1) (laws_FnExactIsSketch.g l0_0 a0_1) := Lim.of (fun k => laws_FnExactIsSketch.mono l0_0 a0_1 k)
theorem laws_FnExactIsSketch.ge (l0_0 : List Int) (a0_1 : Int) : laws_FnExactIsSketch.g l0_0 a0_1 = ((laws_szSketch.f l0_0 a0_1 1048576).bind fun t130 => (if t130 < 0 then (some true) else ((laws_toSketch.g l0_0 a0_1).bind fun bt131 => ((spec_IsSketch.g bt131.1 bt131.2).bind fun t135 => ((laws_toSketch.g l0_0 a0_1).bind fun bt136 => ((impl_IsSketch.g bt136.1 bt136.2).bind fun t141 => (if (t141 != t135) = true then (some false) else ((laws_toSketch.g l0_0 a0_1).bind fun bt142 => ((laws_eqSketch.g bt136.1 bt136.2 bt142.1 bt142.2).bind fun t146 => (if t146 = true then (some true) else (some false))))))))))) := by
  refine Lim.uniq (laws_FnExactIsSketch.L l0_0 a0_1) ?_
  show Lim (fun k => (laws_szSketch.f l0_0 a0_1 1048576).bind fun t130 => (if t130 < 0 then (some true) else ((laws_toSketch.f k l0_0 a0_1).bind fun bt131 => ((spec_IsSketch.f k bt131.1 bt131.2).bind fun t135 => ((laws_toSketch.f k l0_0 a0_1).bind fun bt136 => ((impl_IsSketch.f k bt136.1 bt136.2).bind fun t141 => (if (t141 != t135) = true then (some false) else ((laws_toSketch.f k l0_0 a0_1).bind fun bt142 => ((laws_eqSketch.f k bt136.1 bt136.2 bt142.1 bt142.2).bind fun t146 => (if t146 = true then (some true) else (some false))))))))))) _
  repeat' first | (with_reducible exact Lim.const _) | (with_reducible exact laws_toSketch.L _ _) | (with_reducible exact spec_IsSketch.L _ _) | (with_reducible exact impl_IsSketch.L _ _) | (with_reducible exact laws_eqSketch.L _ _ _ _) | (with_reducible refine Lim.ite ?_ ?_) | (with_reducible refine Lim.bind ?_ (fun _ => ?_)) | exact Lim.const _ | refine Lim.ite ?_ ?_ | refine Lim.bind ?_ (fun _ => ?_) | exact laws_toSketch.L _ _ | exact spec_IsSketch.L _ _ | exact impl_IsSketch.L _ _ | exact laws_eqSketch.L _ _ _ _

end Go.Proofs.Ytplljcjhfbamdaa.PFnExactIsSketch
