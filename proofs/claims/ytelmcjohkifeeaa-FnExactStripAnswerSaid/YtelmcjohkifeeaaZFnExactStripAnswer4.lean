/- The row of FnExactStripAnswer out of its pure statement. Conditions: none of its own. -/
import Derived.Test.YtelmcjohkifeeaaRows
import Derived.WalkKit
import Derived.ProofKit
import Derived.OpenShut
import Derived.ShutString
import Derived.ChangeOld
import Derived.Below
import Derived.SizedLaws
import Derived.Test.YtelmcjohkifeeaaZFnExactStripAnswer3
namespace Go.Proofs.Ytelmcjohkifeeaa.fnExactStripAnswer
open Go.ChangeShapes Go.WideShapes Go.ChangeAt Go.RowKit Go.Proofs.YtelmcjohkifeeaaW.PrintWords Go.Proofs.YtelmcjohkifeeaaW.PrintLast Go.Proofs.YtelmcjohkifeeaaW.PrintMore Go.Proofs.Ytelmcjohkifeeaa.PA Go.Proofs.Ytelmcjohkifeeaa.Opn Go.Proofs.Ytelmcjohkifeeaa.ArgFnExactStripAnswer
open Go.ChangeMaps (open_string shut_string)
set_option linter.unusedVariables false
theorem own : ownKnob Try.prog.godebug = none := by kernel_rfl
theorem laidOut : laidOutB Try.prog = true := by kernel_rfl
theorem op145 : Rd Try.prog 145 k145 Bd145 := by
  have h := Rd.struct (fun a => (⟨a.1, a.2⟩ : S145)) (fun x : S145 => (x.f0, x.f1)) (fun _ => rfl) Try.underlying145 (by kernel_rfl) (RdFs.cons rfl (by kernel_rfl) (Rd.string Try.underlying9) (RdFs.one rfl (by kernel_rfl) (Rd.string Try.underlying9)))
  exact h
theorem arg0 : Rd Try.prog 47 (Kd.iso (Kd.pair (Kd.int .i64) (Kd.pair (Kd.slice 145 k145) Kd.string)) id) (fun x : Int × List S145 × ByteArray => (Lit.int .i64 x.1).wf = true ∧ (x.2.1.length * 32 ≤ 140737488351232 ∧ x.2.1.length ≤ maxLen ∧ ∀ y ∈ x.2.1, Bd145 y) ∧ x.2.2.size ≤ 140737488351232) := (Rd.struct id id (fun _ => rfl) Try.underlying47 (by kernel_rfl) (RdFs.cons rfl (by kernel_rfl) (Rd.int Try.underlying3) (RdFs.cons rfl (by kernel_rfl) (Rd.slice (z := 32) Try.underlying45 (by kernel_rfl) (by kernel_rfl) op145) (RdFs.one rfl (by kernel_rfl) (Rd.string Try.underlying9)))))
set_option maxRecDepth 100000 in
theorem lifted (os : Os) (started : os.Started) (H : Type) (enc : TypeId × Value → H) :
    ReturnsInHanded {} Try.checked os 6 .any (Rows.fnExactStripAnswerSpec.pre6 enc Try.prog Try.f6 Rows.fnExactStripAnswerRow.domain false) (Rows.fnExactStripAnswerSpec.post enc Try.prog Try.f6 false true false false) := by
  refine returnsInHanded_of_change_sized (C := Try.checked) own started (by kernel_rfl) Try.func6
    (ChangeSpec.witness6 (enc := enc) (C := Try.checked) false ⟨#[], #[.agg #[.int .i64 0, .slice none 0 0, .string ByteArray.empty]], []⟩ 8 (by kernel_rfl) (by kernel_rfl) (by kernel_rfl) (by kernel_rfl)) ?_
  intro W base args ds gs before hval0 hW hcnd hsz0 _
  have hsz : (DataW.weightsEach Try.prog (Try.f6.params.toList ++ Rows.fnExactStripAnswerSpec.plain.varTypes Try.prog) (ds ++ gs)).all (· ≤ reachBytes) = true := hsz0
  have hval : ∀ (j : Nat) t v, Try.f6.params[j]? = some t → args[j]? = some v → Value.okWide Try.prog W .any base t v := hval0
  have hW' := hW
  obtain ⟨p, q, hA0, hV, rfl, hfz, hnd⟩ := hW
  have hA : DataW.TrodAll enc Try.prog W 0 (fun _ => true) true Try.f6.params.toList args.toList ds p := hA0
  rw [Try.params6] at hA hval hsz
  obtain ⟨v0, vs0, d0, ds0, p0, q0, hargs, rfl, rfl, h0, r0⟩ := trodAll_cons hA
  obtain ⟨rfl, rfl, rfl⟩ := trodAll_nil r0
  obtain rfl : args = #[v0] := by cases args; simp_all
  obtain ⟨rfl, rfl⟩ := trodVars_none hV
  have k0 := h0
  have lt0 : ∀ x ∈ p0, x.block < W.heap.size := by obtain ⟨m, hm⟩ := k0; exact DataW.trod_lt m _ _ _ hm
  obtain ⟨cs0, rfl, _⟩ := okWide_struct Try.underlying47 (hval 0 47 v0 rfl rfl)
  obtain ⟨x0, K0, B0⟩ := Rd.arg arg0 hsz (j := 0) (t := 47) rfl rfl h0
  obtain ⟨_, _, e0_1, rfl, ⟨_, _, e0_2, ⟨A0_1, c0_1, rfl, hc0_1, hr0_1⟩, rfl⟩⟩ := K0
  obtain rfl : cs0 = #[.int .i64 x0.1, .slice A0_1 x0.2.1.length c0_1, .string x0.2.2] := by apply Array.ext'; have E := e0_1; subst e0_2; simpa [Value.cells, Kd.int, Kd.string, Kd.bool, Kd.scalar] using E
  clear hA0 hval0 hsz0 hsz
  have h : ∃ k, laws_FnExactStripAnswer.f k (x0.1) (x0.2.1) (x0.2.2) = some true := Pure.FnExactStripAnswer (x0.1) (x0.2.1) (x0.2.2) B0.1 B0.2.1 B0.2.2
  obtain ⟨k, h⟩ := h
  refine (laws_FnExactStripAnswer.calls k (x0.1) (A0_1) (c0_1) (x0.2.1) (x0.2.2) true W hr0_1 hc0_1 h).mono fun e W' hres => ?_
  obtain ⟨he, hd⟩ := hres
  have bel : Below W.heap.size W W' := hd
  subst he
  exact ⟨_, rfl, _, _, _, [], _, [], hW', trodAll_mk1 (shut_bool Try.underlying4 _), (trodAll_cons_mk (Below.trod laidOut (by kernel_rfl) (of_decide_eq_true (by kernel_rfl)) k0 bel lt0) trodAll_mk0), rfl, bel.frame _, fun h => by cases h⟩
theorem over : Rows.fnExactStripAnswerRow.holds Try.pinned (OpenSpec.ofChange Rows.fnExactStripAnswerSpec) :=
  OpenClaim.holds_of_wide 6 Try.f6 rfl rfl rfl rfl rfl rfl rfl ⟨rfl, rfl, rfl, rfl, rfl⟩ rfl rfl rfl rfl rfl (by kernel_rfl) Try.func6 (by kernel_rfl)
    (of_decide_eq_true (by kernel_rfl)) (by unfold Func.isWrapper; first | (rw [if_pos (by decide +kernel)]; kernel_rfl) | (rw [if_neg (by decide +kernel)]; exact ⟨rfl, rfl⟩))
    (fun os started H enc _ => lifted os started H enc)
theorem proved : Rows.FnExactStripAnswerSaid := over
#print axioms proved
end Go.Proofs.Ytelmcjohkifeeaa.fnExactStripAnswer
namespace Go.Proofs.Ytelmcjohkifeeaa
/-- The row, under a short name, for the claim. -/
theorem fnExactStripAnswer_holds : Rows.FnExactStripAnswerSaid := fnExactStripAnswer.proved
end Go.Proofs.Ytelmcjohkifeeaa
