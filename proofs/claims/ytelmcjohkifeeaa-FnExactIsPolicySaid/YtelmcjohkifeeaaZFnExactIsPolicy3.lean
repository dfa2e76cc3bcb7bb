/- The row of FnExactIsPolicy out of its pure statement. Conditions: none of its own. -/
import Derived.Test.YtelmcjohkifeeaaRows
import Derived.WalkKit
import Derived.ProofKit
import Derived.OpenShut
import Derived.ShutString
import Derived.ChangeOld
import Derived.Below
import Derived.SizedLaws
import Derived.Test.YtelmcjohkifeeaaZFnExactIsPolicy2
namespace Go.Proofs.Ytelmcjohkifeeaa.fnExactIsPolicy
open Go.ChangeShapes Go.WideShapes Go.ChangeAt Go.RowKit Go.Proofs.YtelmcjohkifeeaaW.PrintWords Go.Proofs.YtelmcjohkifeeaaW.PrintLast Go.Proofs.YtelmcjohkifeeaaW.PrintMore Go.Proofs.Ytelmcjohkifeeaa.PA Go.Proofs.Ytelmcjohkifeeaa.Opn Go.Proofs.Ytelmcjohkifeeaa.ArgFnExactIsPolicy
open Go.ChangeMaps (open_string shut_string)
set_option linter.unusedVariables false
theorem own : ownKnob Try.prog.godebug = none := by kernel_rfl
theorem laidOut : laidOutB Try.prog = true := by kernel_rfl
theorem op101 : Rd Try.prog 101 k101 Bd101 := by
  have h := Rd.struct (fun a => (⟨a.1, a.2.1, a.2.2⟩ : S101)) (fun x : S101 => (x.f0, x.f1, x.f2)) (fun _ => rfl) Try.underlying101 (by kernel_rfl) (RdFs.cons rfl (by kernel_rfl) (Rd.int Try.underlying3) (RdFs.cons rfl (by kernel_rfl) (Rd.string Try.underlying9) (RdFs.one rfl (by kernel_rfl) (Rd.int Try.underlying3))))
  exact h
set_option maxRecDepth 100000 in
theorem lifted (os : Os) (started : os.Started) (H : Type) (enc : TypeId × Value → H) :
    ReturnsInHanded {} Try.checked os 4 .any (Rows.fnExactIsPolicySpec.pre6 enc Try.prog Try.f4 Rows.fnExactIsPolicyRow.domain false) (Rows.fnExactIsPolicySpec.post enc Try.prog Try.f4 false true false false) := by
  refine returnsInHanded_of_change_sized (C := Try.checked) own started (by kernel_rfl) Try.func4
    (ChangeSpec.witness6 (enc := enc) (C := Try.checked) false ⟨#[], #[.slice none 0 0], []⟩ 8 (by kernel_rfl) (by kernel_rfl) (by kernel_rfl) (by kernel_rfl)) ?_
  intro W base args ds gs before hval0 hW hcnd hsz0 _
  have hsz : (DataW.weightsEach Try.prog (Try.f4.params.toList ++ Rows.fnExactIsPolicySpec.plain.varTypes Try.prog) (ds ++ gs)).all (· ≤ reachBytes) = true := hsz0
  have hval : ∀ (j : Nat) t v, Try.f4.params[j]? = some t → args[j]? = some v → Value.okWide Try.prog W .any base t v := hval0
  have hW' := hW
  obtain ⟨p, q, hA0, hV, rfl, hfz, hnd⟩ := hW
  have hA : DataW.TrodAll enc Try.prog W 0 (fun _ => true) true Try.f4.params.toList args.toList ds p := hA0
  rw [Try.params4] at hA hval hsz
  obtain ⟨v0, vs0, d0, ds0, p0, q0, hargs, rfl, rfl, h0, r0⟩ := trodAll_cons hA
  obtain ⟨rfl, rfl, rfl⟩ := trodAll_nil r0
  obtain rfl : args = #[v0] := by cases args; simp_all
  obtain ⟨rfl, rfl⟩ := trodVars_none hV
  have k0 := h0
  have lt0 : ∀ x ∈ p0, x.block < W.heap.size := by obtain ⟨m, hm⟩ := k0; exact DataW.trod_lt m _ _ _ hm
  obtain ⟨x0, K0, B0⟩ := Rd.arg ((Rd.slice (z := 32) Try.underlying29 (by kernel_rfl) (by kernel_rfl) op101)) hsz (j := 0) (t := 29) rfl rfl h0
  obtain ⟨A0, c0, rfl, hc0, hr0⟩ := K_slice K0 (okWide_slice Try.underlying29 (hval 0 29 v0 rfl rfl))
  clear hA0 hval0 hsz0 hsz
  have h : ∃ k, laws_FnExactIsPolicy.f k (x0) = some true := Pure.FnExactIsPolicy (x0) B0
  obtain ⟨k, h⟩ := h
  refine (laws_FnExactIsPolicy.calls k (A0) (c0) (x0) true W hr0 hc0 h).mono fun e W' hres => ?_
  obtain ⟨he, hd⟩ := hres
  have bel : Below W.heap.size W W' := hd
  subst he
  exact ⟨_, rfl, _, _, _, [], _, [], hW', trodAll_mk1 (shut_bool Try.underlying4 _), (trodAll_cons_mk (Below.trod laidOut (by kernel_rfl) (of_decide_eq_true (by kernel_rfl)) k0 bel lt0) trodAll_mk0), rfl, bel.frame _, fun h => by cases h⟩
theorem over : Rows.fnExactIsPolicyRow.holds Try.pinned (OpenSpec.ofChange Rows.fnExactIsPolicySpec) :=
  OpenClaim.holds_of_wide 4 Try.f4 rfl rfl rfl rfl rfl rfl rfl ⟨rfl, rfl, rfl, rfl, rfl⟩ rfl rfl rfl rfl rfl (by kernel_rfl) Try.func4 (by kernel_rfl)
    (of_decide_eq_true (by kernel_rfl)) (by unfold Func.isWrapper; first | (rw [if_pos (by decide +kernel)]; kernel_rfl) | (rw [if_neg (by decide +kernel)]; exact ⟨rfl, rfl⟩))
    (fun os started H enc _ => lifted os started H enc)
theorem proved : Rows.FnExactIsPolicySaid := over
#print axioms proved
end Go.Proofs.Ytelmcjohkifeeaa.fnExactIsPolicy
namespace Go.Proofs.Ytelmcjohkifeeaa
/-- The row, under a short name, for the claim. -/
theorem fnExactIsPolicy_holds : Rows.FnExactIsPolicySaid := fnExactIsPolicy.proved
end Go.Proofs.Ytelmcjohkifeeaa
