/- The row of FnExactIsHop out of its pure statement. Conditions: none of its own. -/
import Derived.Test.YtplljcjhfbamdaaRows
import Derived.Test.YtplljcjhfbamdaaArgFnExactIsHop
import Derived.Test.YtplljcjhfbamdaaPureFnExactIsHop
import Derived.WalkKit
import Derived.ProofKit
import Derived.OpenShut
import Derived.ShutString
import Derived.ChangeOld
import Derived.Below
import Derived.SizedLaws
namespace Go.Proofs.Ytplljcjhfbamdaa.fnExactIsHop
open Go.ChangeShapes Go.WideShapes Go.ChangeAt Go.RowKit Go.Proofs.YtplljcjhfbamdaaW.PrintWords Go.Proofs.YtplljcjhfbamdaaW.PrintLast Go.Proofs.YtplljcjhfbamdaaW.PrintMore Go.Proofs.Ytplljcjhfbamdaa.PFnExactIsHop Go.Proofs.Ytplljcjhfbamdaa.Opn Go.Proofs.Ytplljcjhfbamdaa.ArgFnExactIsHop
open Go.ChangeMaps (open_string shut_string)
set_option linter.unusedVariables false
theorem own : ownKnob Try.prog.godebug = none := by kernel_rfl
theorem laidOut : laidOutB Try.prog = true := by kernel_rfl
theorem arg0 : Rd Try.prog 23 (Kd.iso (Kd.pair (Kd.int .i64) (Kd.pair (Kd.int .i64) (Kd.int .i64))) id) (fun x : Int × Int × Int => (Lit.int .i64 x.1).wf = true ∧ (Lit.int .i64 x.2.1).wf = true ∧ (Lit.int .i64 x.2.2).wf = true) := (Rd.struct id id (fun _ => rfl) Try.underlying23 (by kernel_rfl) (RdFs.cons rfl (by kernel_rfl) (Rd.int Try.underlying3) (RdFs.cons rfl (by kernel_rfl) (Rd.int Try.underlying3) (RdFs.one rfl (by kernel_rfl) (Rd.int Try.underlying3)))))
set_option maxRecDepth 100000 in
theorem lifted (os : Os) (started : os.Started) (H : Type) (enc : TypeId × Value → H) :
    ReturnsInHanded {} Try.checked os 3 .any (Rows.fnExactIsHopSpec.pre6 enc Try.prog Try.f3 Rows.fnExactIsHopRow.domain false) (Rows.fnExactIsHopSpec.post enc Try.prog Try.f3 false true false false) := by
  refine returnsInHanded_of_change_sized (C := Try.checked) own started (by kernel_rfl) Try.func3
    (ChangeSpec.witness6 (enc := enc) (C := Try.checked) false ⟨#[], #[.agg #[.int .i64 0, .int .i64 0, .int .i64 0]], []⟩ 8 (by kernel_rfl) (by kernel_rfl) (by kernel_rfl) (by kernel_rfl)) ?_
  intro W base args ds gs before hval0 hW hcnd hsz0 _
  have hsz : (DataW.weightsEach Try.prog (Try.f3.params.toList ++ Rows.fnExactIsHopSpec.plain.varTypes Try.prog) (ds ++ gs)).all (· ≤ reachBytes) = true := hsz0
  have hval : ∀ (j : Nat) t v, Try.f3.params[j]? = some t → args[j]? = some v → Value.okWide Try.prog W .any base t v := hval0
  have hW' := hW
  obtain ⟨p, q, hA0, hV, rfl, hfz, hnd⟩ := hW
  have hA : DataW.TrodAll enc Try.prog W 0 (fun _ => true) true Try.f3.params.toList args.toList ds p := hA0
  rw [Try.params3] at hA hval hsz
  obtain ⟨v0, vs0, d0, ds0, p0, q0, hargs, rfl, rfl, h0, r0⟩ := trodAll_cons hA
  obtain ⟨rfl, rfl, rfl⟩ := trodAll_nil r0
  obtain rfl : args = #[v0] := by cases args; simp_all
  obtain ⟨rfl, rfl⟩ := trodVars_none hV
  have k0 := h0
  have lt0 : ∀ x ∈ p0, x.block < W.heap.size := by obtain ⟨m, hm⟩ := k0; exact DataW.trod_lt m _ _ _ hm
  obtain ⟨cs0, rfl, _⟩ := okWide_struct Try.underlying23 (hval 0 23 v0 rfl rfl)
  obtain ⟨x0, K0, B0⟩ := Rd.arg arg0 hsz (j := 0) (t := 23) rfl rfl h0
  obtain ⟨_, _, e0_1, rfl, ⟨_, _, e0_2, rfl, rfl⟩⟩ := K0
  obtain rfl : cs0 = #[.int .i64 x0.1, .int .i64 x0.2.1, .int .i64 x0.2.2] := by apply Array.ext'; have E := e0_1; subst e0_2; simpa [Value.cells, Kd.int, Kd.string, Kd.bool, Kd.scalar] using E
  clear hA0 hval0 hsz0 hsz
  have h : laws_FnExactIsHop.f (x0.1) (x0.2.1) (x0.2.2) = some true := Pure.FnExactIsHop (x0.1) (x0.2.1) (x0.2.2) B0.1 B0.2.1 B0.2.2
  refine (laws_FnExactIsHop.calls (x0.1) (x0.2.1) (x0.2.2) true W h).mono fun e W' hres => ?_
  obtain ⟨he, hd⟩ := hres
  have bel : Below W.heap.size W W' := hd
  subst he
  exact ⟨_, rfl, _, _, _, [], _, [], hW', trodAll_mk1 (shut_bool Try.underlying4 _), (trodAll_cons_mk (Below.trod laidOut (by kernel_rfl) (of_decide_eq_true (by kernel_rfl)) k0 bel lt0) trodAll_mk0), rfl, bel.frame _, fun h => by cases h⟩
theorem over : Rows.fnExactIsHopRow.holds Try.pinned (OpenSpec.ofChange Rows.fnExactIsHopSpec) :=
  OpenClaim.holds_of_wide 3 Try.f3 rfl rfl rfl rfl rfl rfl rfl ⟨rfl, rfl, rfl, rfl, rfl⟩ rfl rfl rfl rfl rfl (by kernel_rfl) Try.func3 (by kernel_rfl)
    (of_decide_eq_true (by kernel_rfl)) (by unfold Func.isWrapper; first | (rw [if_pos (by decide +kernel)]; kernel_rfl) | (rw [if_neg (by decide +kernel)]; exact ⟨rfl, rfl⟩))
    (fun os started H enc _ => lifted os started H enc)
theorem proved : Rows.FnExactIsHopSaid := over
#print axioms proved
end Go.Proofs.Ytplljcjhfbamdaa.fnExactIsHop
namespace Go.Proofs.Ytplljcjhfbamdaa
/-- The row, under a short name, for the claim. -/
theorem fnExactIsHop_holds : Rows.FnExactIsHopSaid := fnExactIsHop.proved
end Go.Proofs.Ytplljcjhfbamdaa
