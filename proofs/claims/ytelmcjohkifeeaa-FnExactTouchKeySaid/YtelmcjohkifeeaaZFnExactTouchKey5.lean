/- The row of FnExactTouchKey out of its pure statement. Conditions: none of its own. -/
import Derived.Test.YtelmcjohkifeeaaRows
import Derived.WalkKit
import Derived.ProofKit
import Derived.OpenShut
import Derived.ShutString
import Derived.ChangeOld
import Derived.Below
import Derived.SizedLaws
import Derived.Test.YtelmcjohkifeeaaZFnExactTouchKey4
namespace Go.Proofs.Ytelmcjohkifeeaa.fnExactTouchKey
open Go.ChangeShapes Go.WideShapes Go.ChangeAt Go.RowKit Go.Proofs.YtelmcjohkifeeaaW.PrintWords Go.Proofs.YtelmcjohkifeeaaW.PrintLast Go.Proofs.YtelmcjohkifeeaaW.PrintMore Go.Proofs.Ytelmcjohkifeeaa.PA Go.Proofs.Ytelmcjohkifeeaa.Opn Go.Proofs.Ytelmcjohkifeeaa.ArgFnExactTouchKey
open Go.ChangeMaps (open_string shut_string)
set_option linter.unusedVariables false
theorem own : ownKnob Try.prog.godebug = none := by kernel_rfl
theorem laidOut : laidOutB Try.prog = true := by kernel_rfl
theorem arg0 : Rd Try.prog 38 (Kd.iso (Kd.pair (Kd.slice 3 (Kd.int .i64)) (Kd.int .i64)) id) (fun x : List Int × Int => (x.1.length * 8 ≤ 140737488351232 ∧ x.1.length ≤ maxLen ∧ ∀ y ∈ x.1, (Lit.int .i64 y).wf = true) ∧ (Lit.int .i64 x.2).wf = true) := (Rd.struct id id (fun _ => rfl) Try.underlying38 (by kernel_rfl) (RdFs.cons rfl (by kernel_rfl) (Rd.slice (z := 8) Try.underlying36 (by kernel_rfl) (by kernel_rfl) (Rd.int Try.underlying3)) (RdFs.one rfl (by kernel_rfl) (Rd.int Try.underlying3))))
set_option maxRecDepth 100000 in
theorem lifted (os : Os) (started : os.Started) (H : Type) (enc : TypeId × Value → H) :
    ReturnsInHanded {} Try.checked os 7 .any (Rows.fnExactTouchKeySpec.pre6 enc Try.prog Try.f7 Rows.fnExactTouchKeyRow.domain false) (Rows.fnExactTouchKeySpec.post enc Try.prog Try.f7 false true false false) := by
  refine returnsInHanded_of_change_sized (C := Try.checked) own started (by kernel_rfl) Try.func7
    (ChangeSpec.witness6 (enc := enc) (C := Try.checked) false ⟨#[], #[.agg #[.slice none 0 0, .int .i64 0], .string ByteArray.empty], []⟩ 8 (by kernel_rfl) (by kernel_rfl) (by kernel_rfl) (by kernel_rfl)) ?_
  intro W base args ds gs before hval0 hW hcnd hsz0 _
  have hsz : (DataW.weightsEach Try.prog (Try.f7.params.toList ++ Rows.fnExactTouchKeySpec.plain.varTypes Try.prog) (ds ++ gs)).all (· ≤ reachBytes) = true := hsz0
  have hval : ∀ (j : Nat) t v, Try.f7.params[j]? = some t → args[j]? = some v → Value.okWide Try.prog W .any base t v := hval0
  have hW' := hW
  obtain ⟨p, q, hA0, hV, rfl, hfz, hnd⟩ := hW
  have hA : DataW.TrodAll enc Try.prog W 0 (fun _ => true) true Try.f7.params.toList args.toList ds p := hA0
  rw [Try.params7] at hA hval hsz
  obtain ⟨v0, vs0, d0, ds0, p0, q0, hargs, rfl, rfl, h0, r0⟩ := trodAll_cons hA
  obtain ⟨v1, vs1, d1, ds1, p1, q1, rfl, rfl, rfl, h1, r1⟩ := trodAll_cons r0
  obtain ⟨rfl, rfl, rfl⟩ := trodAll_nil r1
  obtain rfl : args = #[v0, v1] := by cases args; simp_all
  obtain ⟨rfl, rfl⟩ := trodVars_none hV
  have k0 := h0
  have lt0 : ∀ x ∈ p0, x.block < W.heap.size := by obtain ⟨m, hm⟩ := k0; exact DataW.trod_lt m _ _ _ hm
  obtain ⟨cs0, rfl, _⟩ := okWide_struct Try.underlying38 (hval 0 38 v0 rfl rfl)
  obtain ⟨x0, K0, B0⟩ := Rd.arg arg0 hsz (j := 0) (t := 38) rfl rfl h0
  obtain ⟨_, _, e0_1, ⟨A0_0, c0_0, rfl, hc0_0, hr0_0⟩, rfl⟩ := K0
  obtain rfl : cs0 = #[.slice A0_0 x0.1.length c0_0, .int .i64 x0.2] := by apply Array.ext'; have E := e0_1; simpa [Value.cells, Kd.int, Kd.string, Kd.bool, Kd.scalar] using E
  have k1 := h1
  have lt1 : ∀ x ∈ p1, x.block < W.heap.size := by obtain ⟨m, hm⟩ := k1; exact DataW.trod_lt m _ _ _ hm
  obtain ⟨x1, rfl, rfl, rfl, y1⟩ := open_string Try.underlying9 (hval 1 9 v1 rfl rfl) h1
  have B1 : x1.size ≤ 140737488351232 := by
    have z := sized_string hsz (j := 1) (t := 9) rfl rfl
    rw [Array.length_toList] at z
    exact z
  clear hA0 hval0 hsz0 hsz
  have h : ∃ k, laws_FnExactTouchKey.f k (x0.1) (x0.2) (x1) = some true := Pure.FnExactTouchKey (x0.1) (x0.2) (x1) B0.1 B0.2 B1
  obtain ⟨k, h⟩ := h
  refine (laws_FnExactTouchKey.calls k (A0_0) (c0_0) (x0.1) (x0.2) (x1) true W hr0_0 hc0_0 h).mono fun e W' hres => ?_
  obtain ⟨he, hd⟩ := hres
  have bel : Below W.heap.size W W' := hd
  subst he
  exact ⟨_, rfl, _, _, _, [], _, [], hW', trodAll_mk1 (shut_bool Try.underlying4 _), (trodAll_cons_mk (Below.trod laidOut (by kernel_rfl) (of_decide_eq_true (by kernel_rfl)) k0 bel lt0) (trodAll_cons_mk (Below.trod laidOut (by kernel_rfl) (of_decide_eq_true (by kernel_rfl)) k1 bel lt1) trodAll_mk0)), rfl, bel.frame _, fun h => by cases h⟩
theorem over : Rows.fnExactTouchKeyRow.holds Try.pinned (OpenSpec.ofChange Rows.fnExactTouchKeySpec) :=
  OpenClaim.holds_of_wide 7 Try.f7 rfl rfl rfl rfl rfl rfl rfl ⟨rfl, rfl, rfl, rfl, rfl⟩ rfl rfl rfl rfl rfl (by kernel_rfl) Try.func7 (by kernel_rfl)
    (of_decide_eq_true (by kernel_rfl)) (by unfold Func.isWrapper; first | (rw [if_pos (by decide +kernel)]; kernel_rfl) | (rw [if_neg (by decide +kernel)]; exact ⟨rfl, rfl⟩))
    (fun os started H enc _ => lifted os started H enc)
theorem proved : Rows.FnExactTouchKeySaid := over
#print axioms proved
end Go.Proofs.Ytelmcjohkifeeaa.fnExactTouchKey
namespace Go.Proofs.Ytelmcjohkifeeaa
/-- The row, under a short name, for the claim. -/
theorem fnExactTouchKey_holds : Rows.FnExactTouchKeySaid := fnExactTouchKey.proved
end Go.Proofs.Ytelmcjohkifeeaa
