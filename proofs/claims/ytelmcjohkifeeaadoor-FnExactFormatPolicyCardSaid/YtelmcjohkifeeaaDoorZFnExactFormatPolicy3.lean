/- The row of FnExactFormatPolicy out of its pure statement. Conditions: none of its own. -/
import Derived.Test.YtelmcjohkifeeaaDoorTie
import Derived.Test.YtelmcjohkifeeaaDoorCards
import Derived.LaidMore
import Derived.Lay
import Derived.LaidSub
import Derived.MakeChecks
import Derived.SevenTiedAt
import Derived.Stop.Joined
import Derived.Test.YtelmcjohkifeeaaDoorRows
import Derived.WalkKit
import Derived.ProofKit
import Derived.OpenShut
import Derived.ShutString
import Derived.ChangeOld
import Derived.Below
import Derived.SizedLaws
import Derived.Test.YtelmcjohkifeeaaDoorZFnExactFormatPolicy2
namespace Go.Proofs.YtelmcjohkifeeaaDoor.fnExactFormatPolicy
open Go.ChangeShapes Go.WideShapes Go.ChangeAt Go.RowKit Go.Proofs.YtelmcjohkifeeaaDoorW.PrintWords Go.Proofs.YtelmcjohkifeeaaDoorW.PrintLast Go.Proofs.YtelmcjohkifeeaaDoorW.PrintMore Go.Proofs.YtelmcjohkifeeaaDoor.PA Go.Proofs.YtelmcjohkifeeaaDoor.Opn Go.Proofs.YtelmcjohkifeeaaDoor.ArgFnExactFormatPolicy
open Go.ChangeMaps (open_string shut_string)
set_option linter.unusedVariables false
open Go.Proofs.YtelmcjohkifeeaaDoor
theorem own : ownKnob Tryd.prog.godebug = none := by kernel_rfl
theorem laidOut : laidOutB Tryd.prog = true := by kernel_rfl
theorem op31 : Rd Tryd.prog 31 k31 Bd31 := by
  have h := Rd.struct (fun a => (⟨a.1, a.2.1, a.2.2⟩ : S31)) (fun x : S31 => (x.f0, x.f1, x.f2)) (fun _ => rfl) Tryd.underlying31 (by kernel_rfl) (RdFs.cons rfl (by kernel_rfl) (Rd.int Tryd.underlying3) (RdFs.cons rfl (by kernel_rfl) (Rd.string Tryd.underlying9) (RdFs.one rfl (by kernel_rfl) (Rd.int Tryd.underlying3))))
  exact h
theorem tb_pow {W : World} (hL : laidMet Tryd.prog Rows.fnExactFormatPolicyRow.laid W) : Lib.TabIs Tryd.prog W "internal/strconv.uint64pow10" .u64 Lib.pow10Tab := by
  have h := laidMet.filter (fun x => x.1 == "internal/strconv.uint64pow10") hL
  have e : Rows.fnExactFormatPolicyRow.laid.filter (fun x => x.1 == "internal/strconv.uint64pow10") = [("internal/strconv.uint64pow10", Lib.tabData .u64 Lib.pow10Tab)] := by kernel_rfl
  rw [e] at h
  exact Lib.tabIs_of_head (g := 0) (t := 48) (by kernel_rfl) (by kernel_rfl) Tryd.underlying48 (by kernel_rfl) (by kernel_rfl) (by kernel_rfl) h
theorem tb {W : World} (hL : laidMetH Tryd.prog Rows.fnExactFormatPolicyRow.laid W) : Tb W := by
  rw [MakeChecks.laidMetH_plain _ _ _ (by kernel_rfl)] at hL
  exact { pow := tb_pow hL }
set_option maxRecDepth 100000 in
theorem lifted (os : Os) (started : os.Started) (H : Type) (enc : TypeId × Value → H) :
    ReturnsInHanded {} Tryd.checked os 3 .any (fun w args => (Rows.fnExactFormatPolicySpec.pre enc Tryd.prog Tryd.f3 Rows.fnExactFormatPolicyRow.domain false w args ∧ laidMetH Tryd.prog Rows.fnExactFormatPolicyRow.laid w) ∧ sizedMet enc Tryd.prog Tryd.f3 (OpenSpec.ofChange Rows.fnExactFormatPolicySpec) false w args) (Rows.fnExactFormatPolicySpec.post enc Tryd.prog Tryd.f3 false true false false) := by
  refine returnsInHanded_of_change_and (C := Tryd.checked) (X := fun w _ => laidMetH Tryd.prog Rows.fnExactFormatPolicyRow.laid w) (fun _ _ _ hh h => h.of_heap hh) own started (by kernel_rfl) Tryd.func3
    (ChangeSpec.witness_shaped (enc := enc) (C := Tryd.checked) (os := os) (X := fun w _ => laidMetH Tryd.prog Rows.fnExactFormatPolicyRow.laid w) false (World.laidAll Tryd.prog os Rows.fnExactFormatPolicyRow.laid) #[.slice none 0 0] 8 (World.laidAll_os _ _ _)
      (World.shaped_of_ZipB (by kernel_rfl) (by kernel_rfl)) (by kernel_rfl) (by kernel_rfl) (by kernel_rfl)
      (by rw [MakeChecks.laidMetH_plain _ _ _ (by kernel_rfl)]; exact laidMet_laidAll _ (by kernel_rfl) (by kernel_rfl))) ?_
  intro W base args ds gs before hval0 hW hcnd hsz0 hL _
  have hsz : (DataW.weightsEach Tryd.prog (Tryd.f3.params.toList ++ Rows.fnExactFormatPolicySpec.plain.varTypes Tryd.prog) (ds ++ gs)).all (· ≤ reachBytes) = true := hsz0
  have hval : ∀ (j : Nat) t v, Tryd.f3.params[j]? = some t → args[j]? = some v → Value.okWide Tryd.prog W .any base t v := hval0
  have hW' := hW
  obtain ⟨p, q, hA0, hV, rfl, hfz, hnd⟩ := hW
  have hA : DataW.TrodAll enc Tryd.prog W 0 (fun _ => true) true Tryd.f3.params.toList args.toList ds p := hA0
  rw [Tryd.params3] at hA hval hsz
  obtain ⟨v0, vs0, d0, ds0, p0, q0, hargs, rfl, rfl, h0, r0⟩ := trodAll_cons hA
  obtain ⟨rfl, rfl, rfl⟩ := trodAll_nil r0
  obtain rfl : args = #[v0] := by cases args; simp_all
  obtain ⟨rfl, rfl⟩ := trodVars_none hV
  have k0 := h0
  have lt0 : ∀ x ∈ p0, x.block < W.heap.size := by obtain ⟨m, hm⟩ := k0; exact DataW.trod_lt m _ _ _ hm
  obtain ⟨x0, K0, B0⟩ := Rd.arg ((Rd.slice (z := 32) Tryd.underlying22 (by kernel_rfl) (by kernel_rfl) op31)) hsz (j := 0) (t := 22) rfl rfl h0
  obtain ⟨A0, c0, rfl, hc0, hr0⟩ := K_slice K0 (okWide_slice Tryd.underlying22 (hval 0 22 v0 rfl rfl))
  clear hA0 hval0 hsz0 hsz
  have h : ∃ k, laws_FnExactFormatPolicy.f k (x0) = some true := Pure.FnExactFormatPolicy (x0) B0
  obtain ⟨k, h⟩ := h
  refine (laws_FnExactFormatPolicy.calls k (A0) (c0) (x0) true W hr0 hc0 (tb hL) h).mono fun e W' hres => ?_
  obtain ⟨he, hd⟩ := hres
  have bel : Below W.heap.size W W' := hd
  subst he
  exact ⟨_, rfl, _, _, _, [], _, [], hW', trodAll_mk1 (shut_bool Tryd.underlying4 _), (trodAll_cons_mk (Below.trod laidOut (by kernel_rfl) (of_decide_eq_true (by kernel_rfl)) k0 bel lt0) trodAll_mk0), rfl, bel.frame _, fun h => by cases h⟩
theorem over : Rows.fnExactFormatPolicyRow.holds Tryd.pinned (OpenSpec.ofChange Rows.fnExactFormatPolicySpec) :=
  OpenClaim.holds_of_wide 3 Tryd.f3 rfl rfl rfl rfl rfl rfl rfl ⟨rfl, rfl, rfl, rfl, rfl⟩ rfl rfl rfl rfl rfl (by kernel_rfl) Tryd.func3 (by kernel_rfl)
    (of_decide_eq_true (by kernel_rfl)) (by unfold Func.isWrapper; first | (rw [if_pos (by decide +kernel)]; kernel_rfl) | (rw [if_neg (by decide +kernel)]; exact ⟨rfl, rfl⟩))
    (fun os started H enc _ => lifted os started H enc)
theorem proved : Rows.FnExactFormatPolicyCardSaid :=
  Claim7.holds_tied_plain_at .later [] [.data, .data, .data] true (true, "33199562a3aa06b725f937001932c06747771f5ac55b233276f58a0cd59d9007") false over (fun _ h => by cases h) (by kernel_rfl) (fun _ h => by cases h) fnExactFormatPolicy_row_tie rfl ⟨rfl, rfl⟩ (by kernel_rfl) rfl
    (fun f fn hf hfn => by
      obtain rfl : f = 3 := Option.some.inj ((show Tryd.prog.funcNamed "loop.example/g03012/laws.FnExactFormatPolicy" = some 3 by kernel_rfl).symm.trans hf) |>.symm
      obtain rfl : fn = Tryd.f3 := (Option.some.inj (Tryd.func3.symm.trans hfn)).symm
      exact ⟨by kernel_rfl, fun j t ht => by
        rw [Tryd.params3] at ht
        have hm : t ∈ [22] := by simpa using Array.mem_of_getElem? ht
        have hall : ([22].all fun u => !Tryd.prog.wantsStandIn u) = true := by kernel_rfl
        exact (show Tryd.prog.wantsStandIn t = false by simpa using List.all_eq_true.1 hall t hm)⟩)
    (by kernel_rfl)
#print axioms proved
end Go.Proofs.YtelmcjohkifeeaaDoor.fnExactFormatPolicy
namespace Go.Proofs.YtelmcjohkifeeaaDoor
/-- The row, under a short name, for the claim. -/
theorem fnExactFormatPolicy_holds : Rows.FnExactFormatPolicyCardSaid := fnExactFormatPolicy.proved
end Go.Proofs.YtelmcjohkifeeaaDoor
