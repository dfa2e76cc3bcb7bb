/- The row of FnExactStoreSize out of its pure statement. Conditions: none of its own. -/
import Derived.Test.YtelmcjohkifeeaaRows
import Derived.WalkKit
import Derived.ProofKit
import Derived.OpenShut
import Derived.ShutString
import Derived.ChangeOld
import Derived.Below
import Derived.SizedLaws
import Derived.Test.YtelmcjohkifeeaaZFnExactStoreSize3
namespace Go.Proofs.Ytelmcjohkifeeaa.fnExactStoreSize
open Go.ChangeShapes Go.WideShapes Go.ChangeAt Go.RowKit Go.Proofs.YtelmcjohkifeeaaW.PrintWords Go.Proofs.YtelmcjohkifeeaaW.PrintLast Go.Proofs.YtelmcjohkifeeaaW.PrintMore Go.Proofs.Ytelmcjohkifeeaa.PA Go.Proofs.Ytelmcjohkifeeaa.Opn Go.Proofs.Ytelmcjohkifeeaa.ArgFnExactStoreSize
open Go.ChangeMaps (open_string shut_string)
set_option linter.unusedVariables false
theorem own : ownKnob Try.prog.godebug = none := by kernel_rfl
theorem laidOut : laidOutB Try.prog = true := by kernel_rfl
theorem op145 : Rd Try.prog 145 k145 Bd145 := by
  have h := Rd.struct (fun a => (⟨a.1, a.2⟩ : S145)) (fun x : S145 => (x.f0, x.f1)) (fun _ => rfl) Try.underlying145 (by kernel_rfl) (RdFs.cons rfl (by kernel_rfl) (Rd.string Try.underlying9) (RdFs.one rfl (by kernel_rfl) (Rd.string Try.underlying9)))
  exact h
theorem op47 : Rd Try.prog 47 k47 Bd47 := by
  have h := Rd.struct (fun a => (⟨a.1, a.2.1, a.2.2⟩ : S47)) (fun x : S47 => (x.f0, x.f1, x.f2)) (fun _ => rfl) Try.underlying47 (by kernel_rfl) (RdFs.cons rfl (by kernel_rfl) (Rd.int Try.underlying3) (RdFs.cons rfl (by kernel_rfl) (Rd.slice (z := 32) Try.underlying45 (by kernel_rfl) (by kernel_rfl) op145) (RdFs.one rfl (by kernel_rfl) (Rd.string Try.underlying9))))
  exact h
theorem op150 : Rd Try.prog 150 k150 Bd150 := by
  have h := Rd.struct (fun a => (⟨a.1, a.2⟩ : S150)) (fun x : S150 => (x.f0, x.f1)) (fun _ => rfl) Try.underlying150 (by kernel_rfl) (RdFs.cons rfl (by kernel_rfl) (Rd.int Try.underlying3) (RdFs.one rfl (by kernel_rfl) (Rd.string Try.underlying9)))
  exact h
theorem op61 : Rd Try.prog 61 k61 Bd61 := by
  have h := Rd.struct (fun a => (⟨a.1, a.2.1, a.2.2.1, a.2.2.2.1, a.2.2.2.2.1, a.2.2.2.2.2.1, a.2.2.2.2.2.2.1, a.2.2.2.2.2.2.2⟩ : S61)) (fun x : S61 => (x.f0, x.f1, x.f2, x.f3, x.f4, x.f5, x.f6, x.f7)) (fun _ => rfl) Try.underlying61 (by kernel_rfl) (RdFs.cons rfl (by kernel_rfl) (Rd.string Try.underlying9) (RdFs.cons rfl (by kernel_rfl) (Rd.slice (z := 32) Try.underlying45 (by kernel_rfl) (by kernel_rfl) op145) (RdFs.cons rfl (by kernel_rfl) op47 (RdFs.cons rfl (by kernel_rfl) (Rd.slice (z := 24) Try.underlying59 (by kernel_rfl) (by kernel_rfl) op150) (RdFs.cons rfl (by kernel_rfl) (Rd.int Try.underlying3) (RdFs.cons rfl (by kernel_rfl) (Rd.int Try.underlying3) (RdFs.cons rfl (by kernel_rfl) (Rd.int Try.underlying3) (RdFs.one rfl (by kernel_rfl) (Rd.int Try.underlying3)))))))))
  exact h
theorem arg0 : Rd Try.prog 81 (Kd.iso (Kd.slice 61 k61) id) (fun x : List S61 => (x.length * 144 ≤ 140737488351232 ∧ x.length ≤ maxLen ∧ ∀ y ∈ x, Bd61 y)) := (Rd.struct id id (fun _ => rfl) Try.underlying81 (by kernel_rfl) (RdFs.one rfl (by kernel_rfl) (Rd.slice (z := 144) Try.underlying79 (by kernel_rfl) (by kernel_rfl) op61)))
set_option maxRecDepth 100000 in
theorem lifted (os : Os) (started : os.Started) (H : Type) (enc : TypeId × Value → H) :
    ReturnsInHanded {} Try.checked os 10 .any (Rows.fnExactStoreSizeSpec.pre6 enc Try.prog Try.f10 Rows.fnExactStoreSizeRow.domain false) (Rows.fnExactStoreSizeSpec.post enc Try.prog Try.f10 false true false false) := by
  refine returnsInHanded_of_change_sized (C := Try.checked) own started (by kernel_rfl) Try.func10
    (ChangeSpec.witness6 (enc := enc) (C := Try.checked) false ⟨#[], #[.agg #[.slice none 0 0]], []⟩ 8 (by kernel_rfl) (by kernel_rfl) (by kernel_rfl) (by kernel_rfl)) ?_
  intro W base args ds gs before hval0 hW hcnd hsz0 _
  have hsz : (DataW.weightsEach Try.prog (Try.f10.params.toList ++ Rows.fnExactStoreSizeSpec.plain.varTypes Try.prog) (ds ++ gs)).all (· ≤ reachBytes) = true := hsz0
  have hval : ∀ (j : Nat) t v, Try.f10.params[j]? = some t → args[j]? = some v → Value.okWide Try.prog W .any base t v := hval0
  have hW' := hW
  obtain ⟨p, q, hA0, hV, rfl, hfz, hnd⟩ := hW
  have hA : DataW.TrodAll enc Try.prog W 0 (fun _ => true) true Try.f10.params.toList args.toList ds p := hA0
  rw [Try.params10] at hA hval hsz
  obtain ⟨v0, vs0, d0, ds0, p0, q0, hargs, rfl, rfl, h0, r0⟩ := trodAll_cons hA
  obtain ⟨rfl, rfl, rfl⟩ := trodAll_nil r0
  obtain rfl : args = #[v0] := by cases args; simp_all
  obtain ⟨rfl, rfl⟩ := trodVars_none hV
  have k0 := h0
  have lt0 : ∀ x ∈ p0, x.block < W.heap.size := by obtain ⟨m, hm⟩ := k0; exact DataW.trod_lt m _ _ _ hm
  obtain ⟨cs0, rfl, _⟩ := okWide_struct Try.underlying81 (hval 0 81 v0 rfl rfl)
  obtain ⟨x0, K0, B0⟩ := Rd.arg arg0 hsz (j := 0) (t := 81) rfl rfl h0
  obtain ⟨A0_0, c0_0, e0_1, hc0_0, hr0_0⟩ := K0
  obtain rfl : cs0 = #[.slice A0_0 x0.length c0_0] := by apply Array.ext'; have E := e0_1; simpa [Value.cells, Kd.int, Kd.string, Kd.bool, Kd.scalar] using E
  clear hA0 hval0 hsz0 hsz
  have h : ∃ k, laws_FnExactStoreSize.f k (x0) = some true := Pure.FnExactStoreSize (x0) B0
  obtain ⟨k, h⟩ := h
  refine (laws_FnExactStoreSize.calls k (A0_0) (c0_0) (x0) true W hr0_0 hc0_0 h).mono fun e W' hres => ?_
  obtain ⟨he, hd⟩ := hres
  have bel : Below W.heap.size W W' := hd
  subst he
  exact ⟨_, rfl, _, _, _, [], _, [], hW', trodAll_mk1 (shut_bool Try.underlying4 _), (trodAll_cons_mk (Below.trod laidOut (by kernel_rfl) (of_decide_eq_true (by kernel_rfl)) k0 bel lt0) trodAll_mk0), rfl, bel.frame _, fun h => by cases h⟩
theorem over : Rows.fnExactStoreSizeRow.holds Try.pinned (OpenSpec.ofChange Rows.fnExactStoreSizeSpec) :=
  OpenClaim.holds_of_wide 10 Try.f10 rfl rfl rfl rfl rfl rfl rfl ⟨rfl, rfl, rfl, rfl, rfl⟩ rfl rfl rfl rfl rfl (by kernel_rfl) Try.func10 (by kernel_rfl)
    (of_decide_eq_true (by kernel_rfl)) (by unfold Func.isWrapper; first | (rw [if_pos (by decide +kernel)]; kernel_rfl) | (rw [if_neg (by decide +kernel)]; exact ⟨rfl, rfl⟩))
    (fun os started H enc _ => lifted os started H enc)
theorem proved : Rows.FnExactStoreSizeSaid := over
#print axioms proved
end Go.Proofs.Ytelmcjohkifeeaa.fnExactStoreSize
namespace Go.Proofs.Ytelmcjohkifeeaa
/-- The row, under a short name, for the claim. -/
theorem fnExactStoreSize_holds : Rows.FnExactStoreSizeSaid := fnExactStoreSize.proved
end Go.Proofs.Ytelmcjohkifeeaa
