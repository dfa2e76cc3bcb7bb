/- Printed functions that FnExactTouchKey reaches, with their contracts. Condition of each: its Lean function answers. -/
import Derived.Lib.SliceRun
import Derived.Test.YtelmcjohkifeeaaZFnExactTouchKey0
namespace Go.Proofs.Ytelmcjohkifeeaa.PA
open Go.RowKit Go.Proofs.YtelmcjohkifeeaaW.PrintWords Go.Proofs.YtelmcjohkifeeaaW.PrintLast Go.Proofs.YtelmcjohkifeeaaW.PrintMore
attribute [local go_sem] max2_int min2_int max_two min_two max_three min_three max_four min_four   -- for this text's walks alone
set_option linter.unusedVariables false
set_option linter.unusedSimpArgs false
/-! ### impl_HashText: function 118 -/
def impl_HashText.l0 : Nat → ByteArray → List Int → Int → Int → Option (Int)
  | 0, _, _, _, _ => none
  | k + 1, x1, x5, x10, x11 => if x11 < x10 then (if 0 ≤ x11 then (if x11 < (x1.size : Int) then (if x5.length < 17592186044416 then (impl_HashText.l0 k x1 (x5 ++ [wrap64 (bt x1 x11)]) x10 (wrap64 (x11 + 1))) else (none)) else (none)) else (none)) else ((impl_Hash.f k x5).bind fun t230 => (some t230))
def impl_HashText.f (k : Nat) (a0 : Int) (a1 : ByteArray) : Option (Int) := impl_HashText.l0 k a1 (([a0] : List Int)) (a1.size : Int) 0
theorem impl_HashText.mono_l : ∀ k, (∀ y0 y1 y2 y3, LeO (impl_HashText.l0 k y0 y1 y2 y3) (impl_HashText.l0 (k + 1) y0 y1 y2 y3))
  | 0 => fun _ _ _ _ r h => by simp [impl_HashText.l0] at h
  | k + 1 => by
    have ih0 := impl_HashText.mono_l k
    · intro y0 y1 y2 y3
      unfold impl_HashText.l0
      repeat' first
      | (with_reducible exact ih0 _ _ _ _)
      | (with_reducible exact impl_Hash.mono _ _)
      | (with_reducible exact LeO.refl _)
      | (with_reducible exact LeO.none _)
      | (with_reducible refine LeO.ite ?_ ?_)
      | (with_reducible refine LeO.bind ?_ (fun _ => ?_))
      | exact ih0 _ _ _ _
      | exact impl_Hash.mono _ _
      | exact LeO.none _
      | refine LeO.ite ?_ ?_
      | refine LeO.bind ?_ (fun _ => ?_)
theorem impl_HashText.mono : ∀ a0 a1 k, LeO (impl_HashText.f k a0 a1) (impl_HashText.f (k + 1) a0 a1) := by
  intro a0 a1 k
  have ih0 := impl_HashText.mono_l k
  unfold impl_HashText.f
  repeat' first
      | (with_reducible exact ih0 _ _ _ _)
      | (with_reducible exact impl_Hash.mono _ _)
      | (with_reducible exact LeO.refl _)
      | (with_reducible exact LeO.none _)
      | (with_reducible refine LeO.ite ?_ ?_)
      | (with_reducible refine LeO.bind ?_ (fun _ => ?_))
      | exact ih0 _ _ _ _
      | exact impl_Hash.mono _ _
      | exact LeO.none _
      | refine LeO.ite ?_ ?_
      | refine LeO.bind ?_ (fun _ => ?_)
set_option maxHeartbeats 8000000 in
set_option maxRecDepth 100000 in
theorem impl_HashText.calls (k : Nat) (a0 : Int) (a1 : ByteArray) (r : Int) (w : World) (h : impl_HashText.f k a0 a1 = some r) :
    Calls Try.prog 118 #[.int .i64 a0, .string a1] w fun e w' => e = .returned (.int .i64 r) ∧ Below w.heap.size w w' := by
  have HB := Aside0.mk (Below.refl w.heap.size w)
  have H : (impl_HashText.l0 k a1 (([a0] : List Int)) (a1.size : Int) 0) = some r := h
  clear h
  obtain ⟨y224, hy224⟩ : ∃ y_ : List Int, y_ = (([a0] : List Int)) := ⟨_, rfl⟩
  replace H : (impl_HashText.l0 k a1 y224 (a1.size : Int) 0) = some r := by first | (rw [hy224]; with_reducible exact H) | (have H2_ := (Option.bind_some _ _).symm.trans H; rw [hy224]; with_reducible exact H2_) | (have H2_ := (Option.bind_some _ _).symm.trans H; with_reducible exact H2_) | with_reducible exact H | (rw [hy224]; exact H) | exact H
  have Ny224 := Aside0.mk hy224
  clear hy224
  have H' := Aside0.mk H
  clear H
  go_enter Try.func118, Try.ntmps118
  go_wp2_with (first | ((with_reducible refine gate_dst (N := 8) rfl ?_); refine Kd.R_lit (Kd.int .i64) _ 3 ?hg (N := 8) ?hd (xs := ([a0] : List Int)) (inner := [.int .i64 a0]) (ok := fun _ => True) (okp := fun _ => True) ?hr ?hp (fun _ hk => hk) trivial (Below.refl _ _) (Nat.le_refl _) (by simp) ?_; (case hd => rfl); (case hg => rfl); (case hr => first | (go_simp; done) | (go_simp; rfl)); (case hp => exact (Reps.one (show Kd.M (Kd.int .i64) _ _ _ a0 [.int .i64 a0] from rfl) (Reps.none _ _))); intro v225 w3 ho4 hb hg_ hnew_; clear hg_ hnew_; (first | rw [← Ny224.out] at ho4 | (simp only [Int.reduceToNat] at ho4; rw [← Ny224.out] at ho4)); have n0_ := Aside0.mk (Kd.R_lower ho4 (below_size (by repeat (first | (with_reducible first | exact HB.out | apply below_alloc | apply pw_below_drewN | apply below_drew1) | exact HB.out)))); have n1_ := Aside0.mk (below_step (by repeat (first | (with_reducible first | exact HB.out | apply below_alloc | apply pw_below_drewN | apply below_drew1) | exact HB.out)) hb); clear HB; have HO226 := n0_; have HB := n1_; clear n0_ n1_; clear hb ho4))
  go_loopg [5, 11] k (fun kq v5 v11 w' => ∃ (x5_1 : List Int) (x11_1 : Int), v11 = .int .i64 x11_1 ∧ Aside0 (impl_HashText.l0 kq a1 x5_1 (a1.size : Int) x11_1 = some r) ∧ Aside0 (kq ≤ k) ∧ Aside0 (Kd.R (Kd.int .i64) 3 w' w.heap.size (fun _ => True) v5 x5_1) ∧ Aside0 (Below w.heap.size w w'))
  case atStart => exact ⟨(y224), (0), (by first | rfl | (simp; done) | (simp [*]; done)), H', ⟨Nat.le_refl _⟩, ⟨by (with_reducible repeat (first | apply Kd.R_alloc | apply Kd.R_drewN | apply Kd.R_drew)); exact HO226.out⟩, ⟨by repeat (first | (with_reducible first | exact HB.out | apply below_alloc | apply pw_below_drewN | apply below_drew1) | exact HB.out)⟩⟩
  case round =>
    clear H'
    try clear c1
    try clear p2
    obtain ⟨x5_1, x11_1, rfl, HA, HK1, HO_5, HB⟩ := hrel
    cases gk with
    | zero => exact absurd HA.out (by simp [impl_HashText.l0])
    | succ k1 =>
      have H := HA.out
      clear HA
      simp only [impl_HashText.l0] at H
      by_cases c5 : x11_1 < (a1.size : Int)
      · rw [if_pos c5] at H
        have c5b0 : decide (x11_1 < (a1.size : Int)) = true := decide_eq_true c5
        clear c5
        by_cases c6 : 0 ≤ x11_1
        · rw [if_pos c6] at H
          have c6b0 : decide (0 ≤ x11_1) = true := decide_eq_true c6
          clear c6
          by_cases c7 : x11_1 < (a1.size : Int)
          · rw [if_pos c7] at H
            have c7b0 : decide (x11_1 < (a1.size : Int)) = true := decide_eq_true c7
            clear c7
            by_cases c9 : x5_1.length < 17592186044416
            · rw [if_pos c9] at H
              have LMc9 := Aside0.mk c9
              clear c9
              obtain ⟨y227, hy227⟩ : ∃ y_ : List Int, y_ = (x5_1 ++ [wrap64 (bt a1 x11_1)]) := ⟨_, rfl⟩
              replace H : (impl_HashText.l0 k1 a1 y227 (a1.size : Int) (wrap64 (x11_1 + 1))) = some r := by first | (rw [hy227]; with_reducible exact H) | (have H2_ := (Option.bind_some _ _).symm.trans H; rw [hy227]; with_reducible exact H2_) | (have H2_ := (Option.bind_some _ _).symm.trans H; with_reducible exact H2_) | with_reducible exact H | (rw [hy227]; exact H) | exact H
              have Ny227 := Aside0.mk hy227
              clear hy227
              have H' := Aside0.mk H
              clear H
              have p8 : 0 ≤ (x11_1 : Int) := of_decide_eq_true (by first | (with_reducible assumption) | assumption)
              have q8 : x11_1 < (a1.size : Int) := of_decide_eq_true (by first | (with_reducible assumption) | assumption)
              have hx8 := bt_at a1 x11_1
              replace p8 := eq_true p8
              replace q8 := eq_true q8
              go_wp2_with (first | ((with_reducible refine gate_builtin (b := .append) (xs := #[.tmp 14, .tmp 19]) rfl ?_); at_builtin; refine Kd.R_append (Kd.int .i64) (w0 := w) w.heap.size rfl (.tmp 14) (.tmp 19) 36 3 (.int .i64 0) 8 rfl Try.underlying36 info3 rfl (by decide) (by omega) u5 x5_1 (wrap64 (bt a1 x11_1)) [.int .i64 (wrap64 (bt a1 x11_1))] (fun _ => True) (fun _ => False) rfl rfl ?aP (fun _ hk => hk.elim) ?aF ?aO ?aB ?aS ?aL ?_; (case aP => exact rfl); (case aB => exact (by repeat (first | (with_reducible first | exact HB.out | apply below_alloc | apply pw_below_drewN | apply below_drew1) | exact HB.out))); (case aF => exact (fun _ _ => trivial)); (case aO => exact (by (with_reducible repeat (first | apply Kd.R_alloc | apply Kd.R_drewN | apply Kd.R_drew)); exact HO_5.out)); (case aS => exact (below_size (by repeat (first | (with_reducible first | exact HB.out | apply below_alloc | apply pw_below_drewN | apply below_drew1) | exact HB.out)))); (case aL => have := LMc9.out; omega); intro v228 w10 ho hb hg hat; rw [← Ny227.out] at ho; have n0_ := Aside0.mk (hb); have n1_ := Aside0.mk (ho); clear HB; clear HO_5; have HB := n0_; have HO229 := n1_; clear n0_ n1_; clear ho hb hg hat))
              go_roundg k1
              case measure => have := HK1.out; omega
              case rel => exact ⟨(y227), (wrap64 (x11_1 + 1)), (by first | rfl | (simp; done) | (simp [*]; done)), H', ⟨by have := HK1.out; omega⟩, ⟨by (with_reducible repeat (first | apply Kd.R_alloc | apply Kd.R_drewN | apply Kd.R_drew)); exact HO229.out⟩, ⟨by repeat (first | (with_reducible first | exact HB.out | apply below_alloc | apply pw_below_drewN | apply below_drew1) | exact HB.out)⟩⟩
            · rw [if_neg c9] at H
              exact absurd H (by simp)
          · rw [if_neg c7] at H
            exact absurd H (by simp)
        · rw [if_neg c6] at H
          exact absurd H (by simp)
      · rw [if_neg c5] at H
        have c5b0 : decide (x11_1 < (a1.size : Int)) = false := decide_eq_false c5
        clear c5
        replace H := Option.bind_eq_some_iff.mp H
        obtain ⟨t230, A110, H⟩ := H
        replace H : (some t230) = some r := H
        have A11 := Aside0.mk A110
        clear A110
        obtain rfl := Option.some.inj H
        obtain ⟨Ao12, co12, eo12⟩ := Kd.R_slice HO_5.out
        subst eo12
        go_wp2_with (first | ((with_reducible refine gate_callee (f := 137) rfl ?_); refine goesL_ (some 23) rfl rfl Try.func137 (by kernel_rfl) rfl #[.slice Ao12 x5_1.length co12] rfl (by (try simp only [List.map_toArray, List.map_cons, List.map_nil]); first | done | rfl | (simp only [List.length_drop, List.length_take]; rfl)) ?_; (with_reducible refine (impl_Hash.calls k1 _ _ x5_1 t230 _ ?side1 ?side2 A11.out).mono ?_); (case side1 => repeat (first | exact (Kd.R_reads' HO_5.out).2.2 | (with_reducible refine Kd.C_alloc ?_ _) | (with_reducible refine Kd.C_drewN ?_ _) | (with_reducible refine Kd.C_drew ?_))); (case side2 => exact (Kd.R_reads' HO_5.out).2.1); rintro e w' ⟨rfl, ⟨nd, rfl⟩⟩; refine ⟨_, rfl, ?_⟩))
        go_ret
        exact ⟨by first | rfl | (simp [errW_none, errW_some] <;> rfl) | (simp [*, errW_none, errW_some] <;> rfl), by repeat (first | (with_reducible first | exact HB.out | apply below_alloc | apply pw_below_drewN | apply below_drew1) | exact HB.out)⟩


end Go.Proofs.Ytelmcjohkifeeaa.PA

namespace Go.Proofs.Ytelmcjohkifeeaa.PA
open Go.RowKit Go.Proofs.YtelmcjohkifeeaaW.PrintWords Go.Proofs.YtelmcjohkifeeaaW.PrintLast Go.Proofs.YtelmcjohkifeeaaW.PrintMore
attribute [local go_sem] max2_int min2_int max_two min_two max_three min_three max_four min_four   -- for this text's walks alone
set_option linter.unusedVariables false
set_option linter.unusedSimpArgs false
/-! ### impl_placeIn: function 80 -/
def impl_placeIn.f (k : Nat) (a0 : Int) (a1 : ByteArray) : Option (Int) := (impl_HashText.f k a0 a1).bind fun t231 => (some (wrap64 ((wrap64 (a0 * 16)) + (Int.tmod t231 16))))
theorem impl_placeIn.mono : ∀ a0 a1 k, LeO (impl_placeIn.f k a0 a1) (impl_placeIn.f (k + 1) a0 a1) := by
  intro a0 a1 k
  unfold impl_placeIn.f
  repeat' first
      | (with_reducible exact impl_HashText.mono _ _ _)
      | (with_reducible exact LeO.refl _)
      | (with_reducible exact LeO.none _)
      | (with_reducible refine LeO.ite ?_ ?_)
      | (with_reducible refine LeO.bind ?_ (fun _ => ?_))
      | exact impl_HashText.mono _ _ _
      | exact LeO.none _
      | refine LeO.ite ?_ ?_
      | refine LeO.bind ?_ (fun _ => ?_)
set_option maxHeartbeats 8000000 in
set_option maxRecDepth 100000 in
theorem impl_placeIn.calls (k : Nat) (a0 : Int) (a1 : ByteArray) (r : Int) (w : World) (h : impl_placeIn.f k a0 a1 = some r) :
    Calls Try.prog 80 #[.int .i64 a0, .string a1] w fun e w' => e = .returned (.int .i64 r) ∧ Below w.heap.size w w' := by
  have HB := Aside0.mk (Below.refl w.heap.size w)
  have H : ((impl_HashText.f k a0 a1).bind fun t231 => (some (wrap64 ((wrap64 (a0 * 16)) + (Int.tmod t231 16))))) = some r := h
  clear h
  replace H := Option.bind_eq_some_iff.mp H
  obtain ⟨t231, A30, H⟩ := H
  replace H : (some (wrap64 ((wrap64 (a0 * 16)) + (Int.tmod t231 16)))) = some r := H
  have A3 := Aside0.mk A30
  clear A30
  obtain rfl := Option.some.inj H
  go_enter Try.func80, Try.ntmps80
  go_wp2_with (first | ((with_reducible refine gate_callee (f := 118) rfl ?_); refine goesL_ (some 9) rfl rfl Try.func118 (by kernel_rfl) rfl #[.int .i64 a0, .string a1] rfl (by (try simp only [List.map_toArray, List.map_cons, List.map_nil]); first | done | rfl | (simp only [List.length_drop, List.length_take]; rfl)) ?_; (with_reducible refine (impl_HashText.calls k a0 a1 t231 _ A3.out).mono ?_); rintro e w4 ⟨rfl, hb⟩; refine ⟨_, rfl, ?_⟩; have n0_ := Aside0.mk (below_step (by repeat (first | (with_reducible first | exact HB.out | apply below_alloc | apply pw_below_drewN | apply below_drew1) | exact HB.out)) hb); clear HB; have HB := n0_; clear n0_; (try clear hb); (try clear hb2); (try clear hk); (try clear hi)))
  go_ret
  exact ⟨by first | rfl | (simp [errW_none, errW_some] <;> rfl) | (simp [*, errW_none, errW_some] <;> rfl), by repeat (first | (with_reducible first | exact HB.out | apply below_alloc | apply pw_below_drewN | apply below_drew1) | exact HB.out)⟩


end Go.Proofs.Ytelmcjohkifeeaa.PA

namespace Go.Proofs.Ytelmcjohkifeeaa.PA
open Go.RowKit Go.Proofs.YtelmcjohkifeeaaW.PrintWords Go.Proofs.YtelmcjohkifeeaaW.PrintLast Go.Proofs.YtelmcjohkifeeaaW.PrintMore
attribute [local go_sem] max2_int min2_int max_two min_two max_three min_three max_four min_four   -- for this text's walks alone
set_option linter.unusedVariables false
set_option linter.unusedSimpArgs false
/-! ### slices_Clone_int_int: function 90 -/
def slices_Clone_int_int.f (l0 : List Int) : Option (List Int) := (some (([] : List Int) : List Int)).bind fun y418 => (if y418.length + l0.length < 17592186044416 then (some (y418 ++ l0)) else (none))
set_option maxHeartbeats 8000000 in
set_option maxRecDepth 100000 in
theorem slices_Clone_int_int.calls (A0 : Option Addr) (c0 : Nat) (l0 : List Int) (r : List Int) (w : World) (hr0 : Kd.C (Kd.int .i64) w A0 l0.length l0) (hc0 : l0.length ≤ c0) (h : slices_Clone_int_int.f l0 = some r) :
    Calls Try.prog 90 #[.slice A0 l0.length c0] w fun e w' => ∃ v0_ : Value, e = .returned (v0_) ∧ Kd.R (Kd.int .i64) 3 w' w.heap.size (fun _ => True) v0_ r ∧ Below w.heap.size w w' := by
  have hnil_ : ∀ (w : World) (a : Option Addr) (n c : Nat), (binOp .eql 36 (.slice a n c) (.slice none 0 0)).run Try.prog w = .ok (.bool a.isNone) w := fun w a n c => Lib.run_eql_slice_nil w 36 3 a n c 0 0 Try.underlying36
  cases A0 with
  | none =>
    have hz_ : l0 = [] := by
      have h_ := hr0.2.2
      cases l0 with
      | nil => rfl
      | cons a_ b_ => obtain ⟨_, e_, _⟩ := h_ (by simp); cases e_
    subst hz_
    have hr_ : r = [] := by simp [slices_Clone_int_int.f] at h; first | exact h | exact h.symm
    subst hr_
    go_enter Try.func90, Try.ntmps90
    go_wp2
    go_ret
    exact ⟨_, rfl, Kd.R_nil _ _ _ _ _, Below.refl _ _⟩
  | some ad0_ =>
    have HR0 := Aside0.mk hr0
    have HC0 := Aside0.mk hc0
    clear hr0 hc0
    have HB := Aside0.mk (Below.refl w.heap.size w)
    have H : ((some (([] : List Int) : List Int)).bind fun y418 => (if y418.length + l0.length < 17592186044416 then (some (y418 ++ l0)) else (none))) = some r := h
    clear h
    obtain ⟨y418, hy418⟩ : ∃ y_ : List Int, y_ = (([] : List Int)) := ⟨_, rfl⟩
    replace H : (if y418.length + l0.length < 17592186044416 then (some (y418 ++ l0)) else (none)) = some r := by first | (rw [hy418]; with_reducible exact H) | (have H2_ := (Option.bind_some _ _).symm.trans H; rw [hy418]; with_reducible exact H2_) | (have H2_ := (Option.bind_some _ _).symm.trans H; with_reducible exact H2_) | with_reducible exact H | (rw [hy418]; exact H) | exact H
    have Ny418 := Aside0.mk hy418
    clear hy418
    by_cases c2 : y418.length + l0.length < 17592186044416
    · rw [if_pos c2] at H
      have LMc2 := Aside0.mk c2
      clear c2
      obtain ⟨y421, hy421⟩ : ∃ y_ : List Int, y_ = (y418 ++ l0) := ⟨_, rfl⟩
      replace H : (some y421) = some r := by first | (rw [hy421]; with_reducible exact H) | (have H2_ := (Option.bind_some _ _).symm.trans H; rw [hy421]; with_reducible exact H2_) | (have H2_ := (Option.bind_some _ _).symm.trans H; with_reducible exact H2_) | with_reducible exact H | (rw [hy421]; exact H) | exact H
      have Ny421 := Aside0.mk hy421
      clear hy421
      obtain rfl := Option.some.inj H
      go_enter Try.func90, Try.ntmps90
      go_wp2_with (first | ((with_reducible refine gate_dst (N := 5) rfl ?_); refine Kd.R_lit (Kd.int .i64) _ 3 ?hg (N := 5) ?hd (xs := ([] : List Int)) (inner := []) (ok := fun _ => True) (okp := fun _ => True) ?hr ?hp (fun _ hk => hk) trivial (Below.refl _ _) (Nat.le_refl _) (by simp) ?_; (case hd => rfl); (case hg => rfl); (case hr => first | (go_simp; done) | (go_simp; rfl)); (case hp => exact (Reps.none _ _)); intro v419 w3 ho4 hb hg_ hnew_; clear hg_ hnew_; (first | rw [← Ny418.out] at ho4 | (simp only [Int.reduceToNat] at ho4; rw [← Ny418.out] at ho4)); have n0_ := Aside0.mk (Kd.R_lower ho4 (below_size (by repeat (first | (with_reducible first | exact HB.out | apply below_alloc | apply pw_below_drewN | apply below_drew1) | exact HB.out)))); have n1_ := Aside0.mk (below_step (by repeat (first | (with_reducible first | exact HB.out | apply below_alloc | apply pw_below_drewN | apply below_drew1) | exact HB.out)) hb); clear HB; have HO420 := n0_; have HB := n1_; clear n0_ n1_; clear hb ho4) | ((with_reducible refine gate_builtin (b := .append) (xs := #[.tmp 5, .tmp 6]) rfl ?_); at_builtin; refine Kd.R_append_rows (Kd.int .i64) (w0 := w) w.heap.size rfl (.tmp 5) (.tmp 6) 36 3 (.int .i64 0) 8 rfl Try.underlying36 info3 rfl (by decide) (by omega) v419 y418 l0 _ _ _ (fun _ => True) (fun _ => False) rfl rfl ?aO ?aR (fun _ _ h => h) (fun _ h => h.elim) ?aF ?aB ?aS ?aL ?_; (case aR => repeat (first | exact (Kd.C_below HR0.out HB.out) | (with_reducible refine Kd.C_alloc ?_ _) | (with_reducible refine Kd.C_drewN ?_ _) | (with_reducible refine Kd.C_drew ?_))); (case aB => exact (by repeat (first | (with_reducible first | exact HB.out | apply below_alloc | apply pw_below_drewN | apply below_drew1) | exact HB.out))); (case aF => exact (fun _ _ => trivial)); (case aO => exact (by (with_reducible repeat (first | apply Kd.R_alloc | apply Kd.R_drewN | apply Kd.R_drew)); exact HO420.out)); (case aS => exact (below_size (by repeat (first | (with_reducible first | exact HB.out | apply below_alloc | apply pw_below_drewN | apply below_drew1) | exact HB.out)))); (case aL => have := LMc2.out; omega); intro v422 w5 ho hb hg hat; rw [← Ny421.out] at ho; have n0_ := Aside0.mk (hb); have n1_ := Aside0.mk (ho); clear HB; clear HO420; have HB := n0_; have HO423 := n1_; clear n0_ n1_; clear ho hb hg hat))
      go_ret
      exact ⟨_, by first | rfl | (simp [errW_none, errW_some] <;> rfl) | (simp [*, errW_none, errW_some] <;> rfl), by (with_reducible repeat (first | apply Kd.R_alloc | apply Kd.R_drewN | apply Kd.R_drew)); exact HO423.out, by repeat (first | (with_reducible first | exact HB.out | apply below_alloc | apply pw_below_drewN | apply below_drew1) | exact HB.out)⟩
    · rw [if_neg c2] at H
      exact absurd H (by simp)


end Go.Proofs.Ytelmcjohkifeeaa.PA

namespace Go.Proofs.Ytelmcjohkifeeaa.PA
open Go.RowKit Go.Proofs.YtelmcjohkifeeaaW.PrintWords Go.Proofs.YtelmcjohkifeeaaW.PrintLast Go.Proofs.YtelmcjohkifeeaaW.PrintMore
attribute [local go_sem] max2_int min2_int max_two min_two max_three min_three max_four min_four   -- for this text's walks alone
set_option linter.unusedVariables false
set_option linter.unusedSimpArgs false
/-! ### impl_TouchKey: function 37 -/
mutual
def impl_TouchKey.j0 : Nat → ByteArray → List Int → Int → Option (List Int × Int)
  | 0, _, _, _ => none
  | k + 1, x1, x430000, x430001 => impl_TouchKey.l0 k x1 0 x430000 x430001
def impl_TouchKey.l0 : Nat → ByteArray → Int → List Int → Int → Option (List Int × Int)
  | 0, _, _, _, _ => none
  | k + 1, x1, x24, x430000, x430001 => if x24 < 4 then ((impl_placeIn.f k x24 x1).bind fun t434 => (if 0 ≤ t434 then (if t434 < (x430000.length : Int) then (impl_TouchKey.l0 k x1 (wrap64 (x24 + 1)) (x430000.set (t434 : Int).toNat (wrap64 ((rd x430000 t434) + 1))) x430001) else (none)) else (none))) else (if (wrap64 (x430001 + 1)) = 64 then (impl_TouchKey.l1 k (x430000.length : Int) 0 x430000 32) else (some (x430000, wrap64 (x430001 + 1))))
def impl_TouchKey.l1 : Nat → Int → Int → List Int → Int → Option (List Int × Int)
  | 0, _, _, _, _ => none
  | k + 1, x47, x48, x430000, x430001 => if x48 < x47 then (if 0 ≤ x48 then (if x48 < (x430000.length : Int) then (impl_TouchKey.l1 k x47 (wrap64 (x48 + 1)) (x430000.set (x48 : Int).toNat (wrap64 (Int.tdiv (rd x430000 x48) 2))) x430001) else (none)) else (none)) else (some (x430000, x430001))
end
def impl_TouchKey.f (k : Nat) (l0_0 : List Int) (a0_1 : Int) (a1 : ByteArray) : Option (List Int × Int) := (slices_Clone_int_int.f l0_0).bind fun t426 => ((impl_IsSketch.f k l0_0 a0_1).bind fun t430 => (if t430 = true then (if (t426.length : Int) = 0 then (if 64 ≤ 35184372088832 then (impl_TouchKey.j0 k a1 (List.replicate 64 0) a0_1) else (none)) else (impl_TouchKey.j0 k a1 t426 a0_1)) else (some (t426, a0_1))))
theorem impl_TouchKey.mono_l : ∀ k, (∀ y0 y1 y2, LeO (impl_TouchKey.j0 k y0 y1 y2) (impl_TouchKey.j0 (k + 1) y0 y1 y2)) ∧ (∀ y0 y1 y2 y3, LeO (impl_TouchKey.l0 k y0 y1 y2 y3) (impl_TouchKey.l0 (k + 1) y0 y1 y2 y3)) ∧ (∀ y0 y1 y2 y3, LeO (impl_TouchKey.l1 k y0 y1 y2 y3) (impl_TouchKey.l1 (k + 1) y0 y1 y2 y3))
  | 0 => ⟨fun _ _ _ r h => by simp [impl_TouchKey.j0] at h, fun _ _ _ _ r h => by simp [impl_TouchKey.l0] at h, fun _ _ _ _ r h => by simp [impl_TouchKey.l1] at h⟩
  | k + 1 => by
    obtain ⟨ih0, ih1, ih2⟩ := impl_TouchKey.mono_l k
    refine ⟨?_, ?_, ?_⟩
    · intro y0 y1 y2
      unfold impl_TouchKey.j0
      repeat' first
      | (with_reducible exact ih0 _ _ _)
      | (with_reducible exact ih1 _ _ _ _)
      | (with_reducible exact ih2 _ _ _ _)
      | (with_reducible exact impl_IsSketch.mono _ _ _)
      | (with_reducible exact impl_placeIn.mono _ _ _)
      | (with_reducible exact LeO.refl _)
      | (with_reducible exact LeO.none _)
      | (with_reducible refine LeO.ite ?_ ?_)
      | (with_reducible refine LeO.bind ?_ (fun _ => ?_))
      | exact ih0 _ _ _
      | exact ih1 _ _ _ _
      | exact ih2 _ _ _ _
      | exact impl_IsSketch.mono _ _ _
      | exact impl_placeIn.mono _ _ _
      | exact LeO.none _
      | refine LeO.ite ?_ ?_
      | refine LeO.bind ?_ (fun _ => ?_)
    · intro y0 y1 y2 y3
      unfold impl_TouchKey.l0
      repeat' first
      | (with_reducible exact ih0 _ _ _)
      | (with_reducible exact ih1 _ _ _ _)
      | (with_reducible exact ih2 _ _ _ _)
      | (with_reducible exact impl_IsSketch.mono _ _ _)
      | (with_reducible exact impl_placeIn.mono _ _ _)
      | (with_reducible exact LeO.refl _)
      | (with_reducible exact LeO.none _)
      | (with_reducible refine LeO.ite ?_ ?_)
      | (with_reducible refine LeO.bind ?_ (fun _ => ?_))
      | exact ih0 _ _ _
      | exact ih1 _ _ _ _
      | exact ih2 _ _ _ _
      | exact impl_IsSketch.mono _ _ _
      | exact impl_placeIn.mono _ _ _
      | exact LeO.none _
      | refine LeO.ite ?_ ?_
      | refine LeO.bind ?_ (fun _ => ?_)
    · intro y0 y1 y2 y3
      unfold impl_TouchKey.l1
      repeat' first
      | (with_reducible exact ih0 _ _ _)
      | (with_reducible exact ih1 _ _ _ _)
      | (with_reducible exact ih2 _ _ _ _)
      | (with_reducible exact impl_IsSketch.mono _ _ _)
      | (with_reducible exact impl_placeIn.mono _ _ _)
      | (with_reducible exact LeO.refl _)
      | (with_reducible exact LeO.none _)
      | (with_reducible refine LeO.ite ?_ ?_)
      | (with_reducible refine LeO.bind ?_ (fun _ => ?_))
      | exact ih0 _ _ _
      | exact ih1 _ _ _ _
      | exact ih2 _ _ _ _
      | exact impl_IsSketch.mono _ _ _
      | exact impl_placeIn.mono _ _ _
      | exact LeO.none _
      | refine LeO.ite ?_ ?_
      | refine LeO.bind ?_ (fun _ => ?_)
theorem impl_TouchKey.mono : ∀ a0 a1 a2 k, LeO (impl_TouchKey.f k a0 a1 a2) (impl_TouchKey.f (k + 1) a0 a1 a2) := by
  intro a0 a1 a2 k
  obtain ⟨ih0, ih1, ih2⟩ := impl_TouchKey.mono_l k
  unfold impl_TouchKey.f
  repeat' first
      | (with_reducible exact ih0 _ _ _)
      | (with_reducible exact ih1 _ _ _ _)
      | (with_reducible exact ih2 _ _ _ _)
      | (with_reducible exact impl_IsSketch.mono _ _ _)
      | (with_reducible exact impl_placeIn.mono _ _ _)
      | (with_reducible exact LeO.refl _)
      | (with_reducible exact LeO.none _)
      | (with_reducible refine LeO.ite ?_ ?_)
      | (with_reducible refine LeO.bind ?_ (fun _ => ?_))
      | exact ih0 _ _ _
      | exact ih1 _ _ _ _
      | exact ih2 _ _ _ _
      | exact impl_IsSketch.mono _ _ _
      | exact impl_placeIn.mono _ _ _
      | exact LeO.none _
      | refine LeO.ite ?_ ?_
      | refine LeO.bind ?_ (fun _ => ?_)
def impl_TouchKey.T1 : Bool × List (List Nat × List Nat) := (true, [([], []), ([0], [0]), ([1], [1]), ([], []), ([3], [3]), ([2, 4], [2, 4]), ([], []), ([6, 5, 2, 0, 1, 2, 3, 4, 5, 6], [5, 6])])
def impl_TouchKey.B1 : List Nat := [0, 1, 3, 0, 8, 31, 0, 127]
theorem impl_TouchKey.tab1 : rtab .any (opsOf Try.f37 1) = impl_TouchKey.T1 := by kernel_rfl
theorem impl_TouchKey.bits1 : waitsOk impl_TouchKey.T1.2 impl_TouchKey.B1 = true := by kernel_rfl
def impl_TouchKey.T9 : Bool × List (List Nat × List Nat) := (true, [([], []), ([0], [0]), ([], []), ([], []), ([2, 3], [2, 3]), ([1, 4], [1, 4]), ([5], [5]), ([6], [6]), ([1, 4, 0, 1, 2, 3, 4, 5, 6, 7], [1, 4]), ([8, 7, 4, 0, 1, 2, 3, 4, 5, 6, 7], [7, 8])])
def impl_TouchKey.B9 : List Nat := [0, 1, 0, 0, 12, 31, 63, 127, 255, 511]
theorem impl_TouchKey.tab9 : rtab .any (opsOf Try.f37 9) = impl_TouchKey.T9 := by kernel_rfl
theorem impl_TouchKey.bits9 : waitsOk impl_TouchKey.T9.2 impl_TouchKey.B9 = true := by kernel_rfl
set_option maxHeartbeats 8000000 in
set_option maxRecDepth 100000 in
theorem impl_TouchKey.calls (k : Nat) (A0_0 : Option Addr) (c0_0 : Nat) (l0_0 : List Int) (a0_1 : Int) (a1 : ByteArray) (r1 : List Int) (r2 : Int) (w : World) (hr0_0 : Kd.C (Kd.int .i64) w A0_0 l0_0.length l0_0) (hc0_0 : l0_0.length ≤ c0_0) (h : impl_TouchKey.f k l0_0 a0_1 a1 = some (r1, r2)) :
    Calls Try.prog 37 #[.agg #[.slice A0_0 l0_0.length c0_0, .int .i64 a0_1], .string a1] w fun e w' => ∃ v0_ : Value, e = .returned (.agg #[v0_, .int .i64 r2]) ∧ Kd.R (Kd.int .i64) 3 w' w.heap.size (fun _ => True) v0_ r1 ∧ Below w.heap.size w w' := by
  have hu41 := Try.underlying41
  have HR0_0 := Aside0.mk hr0_0
  have HC0_0 := Aside0.mk hc0_0
  clear hr0_0 hc0_0
  have HB := Aside0.mk (Below.refl w.heap.size w)
  have H : ((slices_Clone_int_int.f l0_0).bind fun t426 => ((impl_IsSketch.f k l0_0 a0_1).bind fun t430 => (if t430 = true then (if (t426.length : Int) = 0 then (if 64 ≤ 35184372088832 then (impl_TouchKey.j0 k a1 (List.replicate 64 0) a0_1) else (none)) else (impl_TouchKey.j0 k a1 t426 a0_1)) else (some (t426, a0_1))))) = some (r1, r2) := h
  clear h
  replace H := Option.bind_eq_some_iff.mp H
  obtain ⟨t426, A30, H⟩ := H
  replace H : ((impl_IsSketch.f k l0_0 a0_1).bind fun t430 => (if t430 = true then (if (t426.length : Int) = 0 then (if 64 ≤ 35184372088832 then (impl_TouchKey.j0 k a1 (List.replicate 64 0) a0_1) else (none)) else (impl_TouchKey.j0 k a1 t426 a0_1)) else (some (t426, a0_1)))) = some (r1, r2) := H
  have A3 := Aside0.mk A30
  clear A30
  replace H := Option.bind_eq_some_iff.mp H
  obtain ⟨t430, A40, H⟩ := H
  replace H : (if t430 = true then (if (t426.length : Int) = 0 then (if 64 ≤ 35184372088832 then (impl_TouchKey.j0 k a1 (List.replicate 64 0) a0_1) else (none)) else (impl_TouchKey.j0 k a1 t426 a0_1)) else (some (t426, a0_1))) = some (r1, r2) := H
  have A4 := Aside0.mk A40
  clear A40
  have HF5 := Aside0.mk H
  clear H
  go_enter Try.func37, Try.ntmps37
  try go_wp2_with (first | ((with_reducible refine gate_dst (N := 2) rfl ?_); refine box_event ?hg (N := 2) ?hd (cs := #[.slice A0_0 l0_0.length c0_0, .int .i64 a0_1]) (t := 41) ?hr ?_; (case hd => rfl); (case hg => rfl); (case hr => first | (go_simp; done) | (go_simp; rfl)); intro gb424 hg w6 hbox hb; have n0_ := Aside0.mk (below_step (by repeat (first | (with_reducible first | exact HB.out | apply below_alloc | apply pw_below_drewN | apply below_drew1) | exact HB.out)) hb); have n1_ := Aside0.mk (hbox); have n2_ := Aside0.mk ((by rw [hg]; exact (below_size (by repeat (first | (with_reducible first | exact HB.out | apply below_alloc | apply pw_below_drewN | apply below_drew1) | exact HB.out))) : w.heap.size ≤ gb424)); have n3_ := Aside0.mk ((by rw [hg]; exact (below_size (by repeat (first | (with_reducible first | exact HB.out | apply below_alloc | apply pw_below_drewN | apply below_drew1) | exact HB.out))) : w.heap.size ≤ gb424)); clear HB; have HB := n0_; have BK424 := n1_; have GW424 := n2_; have GE424 := n3_; clear n0_ n1_ n2_ n3_; clear hb hbox hg) | ((with_reducible refine gate_dst (N := 4) rfl ?_); refine box_event ?hg (N := 4) ?hd (cs := #[.slice none 0 0, .int .i64 0]) (t := 41) ?hr ?_; (case hd => rfl); (case hg => rfl); (case hr => first | (go_simp; done) | (go_simp; rfl)); intro gb425 hg w7 hbox hb; have n0_ := Aside0.mk (blk_below (g := gb424) (o := .cells #[.slice A0_0 l0_0.length c0_0, .int .i64 a0_1] 41 (0, 0)) (by (with_reducible repeat (first | refine blk_drewN ?_ _ | refine blk_drew ?_ | refine blk_alloc ?_ _)); exact BK424.out) hb); have n1_ := Aside0.mk (below_step (by repeat (first | (with_reducible first | exact HB.out | apply below_alloc | apply pw_below_drewN | apply below_drew1 | refine below_set ?_ GE424.out) | exact HB.out)) hb); have n2_ := Aside0.mk (hbox); have n3_ := Aside0.mk ((by rw [hg]; exact (below_size (by repeat (first | (with_reducible first | exact HB.out | apply below_alloc | apply pw_below_drewN | apply below_drew1 | refine below_set ?_ GE424.out) | exact HB.out))) : w.heap.size ≤ gb425)); have n4_ := Aside0.mk ((by rw [hg]; exact (below_size (by repeat (first | (with_reducible first | exact HB.out | apply below_alloc | apply pw_below_drewN | apply below_drew1 | refine below_set ?_ GE424.out) | exact HB.out))) : w.heap.size ≤ gb425)); have n5_ := Aside0.mk ((by rw [hg]; exact Nat.ne_of_lt (blk_lt (g := gb424) (o := .cells #[.slice A0_0 l0_0.length c0_0, .int .i64 a0_1] 41 (0, 0)) (by (with_reducible repeat (first | refine blk_drewN ?_ _ | refine blk_drew ?_ | refine blk_alloc ?_ _)); exact BK424.out)) : gb424 ≠ gb425)); have n6_ := Aside0.mk ((by rw [hg]; exact Nat.ne_of_gt (blk_lt (g := gb424) (o := .cells #[.slice A0_0 l0_0.length c0_0, .int .i64 a0_1] 41 (0, 0)) (by (with_reducible repeat (first | refine blk_drewN ?_ _ | refine blk_drew ?_ | refine blk_alloc ?_ _)); exact BK424.out)) : gb425 ≠ gb424)); clear BK424; clear HB; have BK424 := n0_; have HB := n1_; have BK425 := n2_; have GW425 := n3_; have GE425 := n4_; have NB424_425 := n5_; have NB425_424 := n6_; clear n0_ n1_ n2_ n3_ n4_ n5_ n6_; clear hb hbox hg))
  have n0_ := Aside0.mk (blk_drew BK424.out)
  have n1_ := Aside0.mk (blk_drew BK425.out)
  have n2_ := Aside0.mk (below_drew1 HB.out)
  clear BK424
  clear BK425
  clear HB
  have BK424 := n0_
  have BK425 := n1_
  have HB := n2_
  clear n0_ n1_ n2_
  refine start_ (n := 8) (S := fun w' => w'.cell? ⟨gb424, 0, none⟩ = some (.slice A0_0 l0_0.length c0_0) ∧ w'.cell? ⟨gb424, 1, none⟩ = some (.int .i64 a0_1)) (ds := []) #[false, false, false, false, false, false, false, false] (by kernel_rfl) rfl rfl ⟨(blk_cell BK424.out 0).trans rfl, (blk_cell BK424.out 1).trans rfl⟩ (fun hHeld => ?_); refine with_tabW impl_TouchKey.tab1 impl_TouchKey.bits1 (fun HT_ HW_ => ?_)
  generalize w7.drew = w8 at BK424 BK425 HB hHeld ⊢
  refine pure_ (i := 0) (N := some 8) (v := ?_) (a' := ?_) #[true, false, false, false, false, false, false, false] rfl rfl (any_of HT_.out (by kernel_rfl)) (fun _ _ _ h => h) (Or.inl ⟨by rfl, ?_⟩) ?_ ?_
  rotate_left
  · intro w'
    go_simp
    with_reducible rfl
  rotate_left
  · simp only [Act.put, List.setIfInBounds_toArray, List.set_cons_zero, List.set_cons_succ, i64_w, i32_w]
    rfl
  refine pure_ (i := 3) (N := some 11) (v := ?_) (a' := ?_) #[true, false, false, true, false, false, false, false] rfl rfl (any_of HT_.out (by kernel_rfl)) (fun _ _ _ h => h) (Or.inl ⟨by rfl, ?_⟩) ?_ ?_
  rotate_left
  · intro w'
    go_simp
    with_reducible rfl
  rotate_left
  · simp only [Act.put, List.setIfInBounds_toArray, List.set_cons_zero, List.set_cons_succ, i64_w, i32_w]
    rfl
  refine take_ (i := 1) (N := some 9) (v := ?_) (a' := ?_) #[true, true, false, true, false, false, false, false] rfl rfl (take_ofW HT_.out HW_.out (by kernel_rfl)) (fun _ _ _ h => h) (Or.inl ⟨by rfl, ?_⟩) hHeld ?_ ?_
  rotate_left
  · rintro w' ⟨s0, s1⟩
    (try simp only [add_plain] at s0 s1)
    go_simp
    with_reducible rfl
  rotate_left
  · simp only [Act.put, List.setIfInBounds_toArray, List.set_cons_zero, List.set_cons_succ, i64_w, i32_w]
    rfl
  refine take_ (i := 4) (N := some 12) (v := ?_) (a' := ?_) #[true, true, false, true, true, false, false, false] rfl rfl (take_ofW HT_.out HW_.out (by kernel_rfl)) (fun _ _ _ h => h) (Or.inl ⟨by rfl, ?_⟩) hHeld ?_ ?_
  rotate_left
  · rintro w' ⟨s0, s1⟩
    (try simp only [add_plain] at s0 s1)
    go_simp
    with_reducible rfl
  rotate_left
  · simp only [Act.put, List.setIfInBounds_toArray, List.set_cons_zero, List.set_cons_succ, i64_w, i32_w]
    rfl
  refine join_ (σ := Value × Nat) 1 #[true, true, true, true, true, true, true, false] (fun s_ => [(10, s_.1), (5, .pointer (some ⟨s_.2, 0, none⟩)), (13, .agg #[s_.1, .int .i64 a0_1])]) (fun s_ w' => (w'.cell? ⟨gb424, 0, none⟩ = some (.slice A0_0 l0_0.length c0_0) ∧ w'.cell? ⟨gb424, 1, none⟩ = some (.int .i64 a0_1)) ∧ (Kd.R (Kd.int .i64) 3 w' w.heap.size (fun _ => True) s_.1 t426) ∧ (w'.heap[gb424]? = some (.cells #[.slice A0_0 l0_0.length c0_0, .int .i64 a0_1] 41 (0, 0))) ∧ (w'.heap[gb425]? = some (.cells #[.slice none 0 0, .int .i64 0] 41 (0, 0))) ∧ (w'.heap[s_.2]? = some (.cells #[.slice none 0 0, .int .i64 0] 41 (0, 0))) ∧ (w.heap.size ≤ s_.2) ∧ (w.heap.size ≤ s_.2) ∧ (gb424 ≠ s_.2) ∧ (s_.2 ≠ gb424) ∧ (gb425 ≠ s_.2) ∧ (s_.2 ≠ gb425) ∧ (Below w.heap.size w w')) ?_ ?_
  rotate_left
  · intro hCont
    refine two_ (i := 2) (j := 6) (Ni := some 10) (Nj := some 5) #[true, true, true, true, true, false, false, false] #[true, true, false, true, true, false, true, false] rfl rfl rfl rfl (two_of HT_.out (by kernel_rfl)) (by decide) (by decide) (fun K hK => ?_) (fun K hK => ?_)
    · skip
      refine goes_ Try.func90 (by kernel_rfl) rfl #[.slice A0_0 l0_0.length c0_0] (by rfl) rfl rfl (by (try simp only [List.map_toArray, List.map_cons, List.map_nil]); first | done | rfl | (simp only [List.length_drop, List.length_take]; rfl)) ?_
      with_reducible refine (slices_Clone_int_int.calls _ _ l0_0 t426 _ ?side1 ?side2 A3.out).mono ?_
      (case side1 => repeat (first | exact (Kd.C_below HR0_0.out HB.out) | (with_reducible refine Kd.C_alloc ?_ _) | (with_reducible refine Kd.C_drewN ?_ _) | (with_reducible refine Kd.C_drew ?_)))
      (case side2 => exact HC0_0.out)
      rintro e w9 ⟨v427, rfl, ho0, hb⟩
      refine ⟨_, rfl, ?_⟩
      have n0_ := Aside0.mk (Kd.R_lower ho0 (below_size (by repeat (first | (with_reducible first | exact HB.out | apply below_alloc | apply pw_below_drewN | apply below_drew1 | refine below_set ?_ GE424.out | refine below_set ?_ GE425.out) | exact HB.out))))
      have n1_ := Aside0.mk (blk_below (g := gb424) (o := .cells #[.slice A0_0 l0_0.length c0_0, .int .i64 a0_1] 41 (0, 0)) (by (with_reducible repeat (first | refine blk_drewN ?_ _ | refine blk_drew ?_ | refine blk_alloc ?_ _)); exact BK424.out) hb)
      have n2_ := Aside0.mk (blk_below (g := gb425) (o := .cells #[.slice none 0 0, .int .i64 0] 41 (0, 0)) (by (with_reducible repeat (first | refine blk_drewN ?_ _ | refine blk_drew ?_ | refine blk_alloc ?_ _)); exact BK425.out) hb)
      have n3_ := Aside0.mk (below_step (by repeat (first | (with_reducible first | exact HB.out | apply below_alloc | apply pw_below_drewN | apply below_drew1 | refine below_set ?_ GE424.out | refine below_set ?_ GE425.out) | exact HB.out)) hb)
      clear BK424
      clear BK425
      clear HB
      have HO428 := n0_
      have BK424 := n1_
      have BK425 := n2_
      have HB := n3_
      clear n0_ n1_ n2_ n3_
      (try clear hb)
      (try clear hb2)
      (try clear hk)
      (try clear hi)
      (try clear ho0)
      obtain ⟨Ao10, co10, eo10⟩ := Kd.R_slice HO428.out
      (first | subst eo10 | (injection eo10 with f1_ f2_ f3_; have f4_ := f1_.symm; have f5_ := f3_.symm; clear f1_ f2_ f3_; subst f4_; subst f5_))
      refine hK.out _ _ ⟨(blk_cell BK424.out 0).trans rfl, (blk_cell BK424.out 1).trans rfl⟩ (fun hHeld => ?_)
      clear hK K
      refine norm_ (a' := ?_) ?_ ?_
      rotate_left
      · show Act.put _ (some 10) _ = _
        simp only [Act.put, List.setIfInBounds_toArray, List.set_cons_zero, List.set_cons_succ, i64_w, i32_w]
        rfl
      refine pure_ (i := 5) (N := some 13) (v := ?_) (a' := ?_) #[true, true, true, true, true, true, false, false] rfl rfl (any_of HT_.out (by kernel_rfl)) (fun _ _ _ h => h) (Or.inl ⟨by rfl, ?_⟩) ?_ ?_
      rotate_left
      · intro w'
        go_simp
        with_reducible rfl
      rotate_left
      · simp only [Act.put, List.setIfInBounds_toArray, List.set_cons_zero, List.set_cons_succ, i64_w, i32_w]
        rfl
      refine one_ (i := 6) (N := some 5) #[true, true, true, true, true, true, true, false] rfl rfl (one_of HT_.out (by kernel_rfl)) (by decide) (fun K hK => ?_)
      refine box_step ?hg (N := 5) ?hd (cs := #[.slice none 0 0, .int .i64 0]) (t := 41) ?hr ?_; (case hd => rfl); (case hg => rfl); (case hr => first | (go_simp; done) | (go_simp; rfl))
      intro gb429 hg w11 hbox hb
      have n0_ := Aside0.mk (Kd.R_below (by (with_reducible repeat (first | apply Kd.R_alloc | apply Kd.R_drewN | apply Kd.R_drew)); exact HO428.out) hb)
      have n1_ := Aside0.mk (blk_below (g := gb424) (o := .cells #[.slice A0_0 l0_0.length c0_0, .int .i64 a0_1] 41 (0, 0)) (by (with_reducible repeat (first | refine blk_drewN ?_ _ | refine blk_drew ?_ | refine blk_alloc ?_ _)); exact BK424.out) hb)
      have n2_ := Aside0.mk (blk_below (g := gb425) (o := .cells #[.slice none 0 0, .int .i64 0] 41 (0, 0)) (by (with_reducible repeat (first | refine blk_drewN ?_ _ | refine blk_drew ?_ | refine blk_alloc ?_ _)); exact BK425.out) hb)
      have n3_ := Aside0.mk (below_step (by repeat (first | (with_reducible first | exact HB.out | apply below_alloc | apply pw_below_drewN | apply below_drew1 | refine below_set ?_ GE424.out | refine below_set ?_ GE425.out) | exact HB.out)) hb)
      have n4_ := Aside0.mk (hbox)
      have n5_ := Aside0.mk ((by rw [hg]; exact (below_size (by repeat (first | (with_reducible first | exact HB.out | apply below_alloc | apply pw_below_drewN | apply below_drew1 | refine below_set ?_ GE424.out | refine below_set ?_ GE425.out) | exact HB.out))) : w.heap.size ≤ gb429))
      have n6_ := Aside0.mk ((by rw [hg]; exact (below_size (by repeat (first | (with_reducible first | exact HB.out | apply below_alloc | apply pw_below_drewN | apply below_drew1 | refine below_set ?_ GE424.out | refine below_set ?_ GE425.out) | exact HB.out))) : w.heap.size ≤ gb429))
      have n7_ := Aside0.mk ((by rw [hg]; exact Nat.ne_of_lt (blk_lt (g := gb424) (o := .cells #[.slice A0_0 l0_0.length c0_0, .int .i64 a0_1] 41 (0, 0)) (by (with_reducible repeat (first | refine blk_drewN ?_ _ | refine blk_drew ?_ | refine blk_alloc ?_ _)); exact BK424.out)) : gb424 ≠ gb429))
      have n8_ := Aside0.mk ((by rw [hg]; exact Nat.ne_of_gt (blk_lt (g := gb424) (o := .cells #[.slice A0_0 l0_0.length c0_0, .int .i64 a0_1] 41 (0, 0)) (by (with_reducible repeat (first | refine blk_drewN ?_ _ | refine blk_drew ?_ | refine blk_alloc ?_ _)); exact BK424.out)) : gb429 ≠ gb424))
      have n9_ := Aside0.mk ((by rw [hg]; exact Nat.ne_of_lt (blk_lt (g := gb425) (o := .cells #[.slice none 0 0, .int .i64 0] 41 (0, 0)) (by (with_reducible repeat (first | refine blk_drewN ?_ _ | refine blk_drew ?_ | refine blk_alloc ?_ _)); exact BK425.out)) : gb425 ≠ gb429))
      have n10_ := Aside0.mk ((by rw [hg]; exact Nat.ne_of_gt (blk_lt (g := gb425) (o := .cells #[.slice none 0 0, .int .i64 0] 41 (0, 0)) (by (with_reducible repeat (first | refine blk_drewN ?_ _ | refine blk_drew ?_ | refine blk_alloc ?_ _)); exact BK425.out)) : gb429 ≠ gb425))
      clear HO428
      clear BK424
      clear BK425
      clear HB
      have HO428 := n0_
      have BK424 := n1_
      have BK425 := n2_
      have HB := n3_
      have BK429 := n4_
      have GW429 := n5_
      have GE429 := n6_
      have NB424_429 := n7_
      have NB429_424 := n8_
      have NB425_429 := n9_
      have NB429_425 := n10_
      clear n0_ n1_ n2_ n3_ n4_ n5_ n6_ n7_ n8_ n9_ n10_
      clear hb hbox hg
      refine hK.out _ _ ⟨(blk_cell BK424.out 0).trans rfl, (blk_cell BK424.out 1).trans rfl⟩ (fun hHeld => ?_)
      clear hK K
      refine norm_ (a' := ?_) ?_ ?_
      rotate_left
      · show Act.put _ (some 5) _ = _
        simp only [Act.put, List.setIfInBounds_toArray, List.set_cons_zero, List.set_cons_succ, i64_w, i32_w]
        rfl
      exact norm_ (by simp only [putAll, Act.put, List.setIfInBounds_toArray, List.set_cons_zero, List.set_cons_succ]) (hCont (.slice Ao10 t426.length co10, gb429) _ ⟨hHeld, (by (with_reducible repeat (first | apply Kd.R_alloc | apply Kd.R_drewN | apply Kd.R_drew)); exact HO428.out), (by (with_reducible repeat (first | refine blk_drewN ?_ _ | refine blk_drew ?_ | refine blk_alloc ?_ _)); exact BK424.out), (by (with_reducible repeat (first | refine blk_drewN ?_ _ | refine blk_drew ?_ | refine blk_alloc ?_ _)); exact BK425.out), (by (with_reducible repeat (first | refine blk_drewN ?_ _ | refine blk_drew ?_ | refine blk_alloc ?_ _)); exact BK429.out), GW429.out, GE429.out, NB424_429.out, NB429_424.out, NB425_429.out, NB429_425.out, (by repeat (first | (with_reducible first | exact HB.out | apply below_alloc | apply pw_below_drewN | apply below_drew1 | refine below_set ?_ GE424.out | refine below_set ?_ GE425.out | refine below_set ?_ GE429.out) | exact HB.out))⟩)
    · skip
      refine box_step ?hg (N := 5) ?hd (cs := #[.slice none 0 0, .int .i64 0]) (t := 41) ?hr ?_; (case hd => rfl); (case hg => rfl); (case hr => first | (go_simp; done) | (go_simp; rfl))
      intro gb429 hg w9 hbox hb
      have n0_ := Aside0.mk (blk_below (g := gb424) (o := .cells #[.slice A0_0 l0_0.length c0_0, .int .i64 a0_1] 41 (0, 0)) (by (with_reducible repeat (first | refine blk_drewN ?_ _ | refine blk_drew ?_ | refine blk_alloc ?_ _)); exact BK424.out) hb)
      have n1_ := Aside0.mk (blk_below (g := gb425) (o := .cells #[.slice none 0 0, .int .i64 0] 41 (0, 0)) (by (with_reducible repeat (first | refine blk_drewN ?_ _ | refine blk_drew ?_ | refine blk_alloc ?_ _)); exact BK425.out) hb)
      have n2_ := Aside0.mk (below_step (by repeat (first | (with_reducible first | exact HB.out | apply below_alloc | apply pw_below_drewN | apply below_drew1 | refine below_set ?_ GE424.out | refine below_set ?_ GE425.out) | exact HB.out)) hb)
      have n3_ := Aside0.mk (hbox)
      have n4_ := Aside0.mk ((by rw [hg]; exact (below_size (by repeat (first | (with_reducible first | exact HB.out | apply below_alloc | apply pw_below_drewN | apply below_drew1 | refine below_set ?_ GE424.out | refine below_set ?_ GE425.out) | exact HB.out))) : w.heap.size ≤ gb429))
      have n5_ := Aside0.mk ((by rw [hg]; exact (below_size (by repeat (first | (with_reducible first | exact HB.out | apply below_alloc | apply pw_below_drewN | apply below_drew1 | refine below_set ?_ GE424.out | refine below_set ?_ GE425.out) | exact HB.out))) : w.heap.size ≤ gb429))
      have n6_ := Aside0.mk ((by rw [hg]; exact Nat.ne_of_lt (blk_lt (g := gb424) (o := .cells #[.slice A0_0 l0_0.length c0_0, .int .i64 a0_1] 41 (0, 0)) (by (with_reducible repeat (first | refine blk_drewN ?_ _ | refine blk_drew ?_ | refine blk_alloc ?_ _)); exact BK424.out)) : gb424 ≠ gb429))
      have n7_ := Aside0.mk ((by rw [hg]; exact Nat.ne_of_gt (blk_lt (g := gb424) (o := .cells #[.slice A0_0 l0_0.length c0_0, .int .i64 a0_1] 41 (0, 0)) (by (with_reducible repeat (first | refine blk_drewN ?_ _ | refine blk_drew ?_ | refine blk_alloc ?_ _)); exact BK424.out)) : gb429 ≠ gb424))
      have n8_ := Aside0.mk ((by rw [hg]; exact Nat.ne_of_lt (blk_lt (g := gb425) (o := .cells #[.slice none 0 0, .int .i64 0] 41 (0, 0)) (by (with_reducible repeat (first | refine blk_drewN ?_ _ | refine blk_drew ?_ | refine blk_alloc ?_ _)); exact BK425.out)) : gb425 ≠ gb429))
      have n9_ := Aside0.mk ((by rw [hg]; exact Nat.ne_of_gt (blk_lt (g := gb425) (o := .cells #[.slice none 0 0, .int .i64 0] 41 (0, 0)) (by (with_reducible repeat (first | refine blk_drewN ?_ _ | refine blk_drew ?_ | refine blk_alloc ?_ _)); exact BK425.out)) : gb429 ≠ gb425))
      clear BK424
      clear BK425
      clear HB
      have BK424 := n0_
      have BK425 := n1_
      have HB := n2_
      have BK429 := n3_
      have GW429 := n4_
      have GE429 := n5_
      have NB424_429 := n6_
      have NB429_424 := n7_
      have NB425_429 := n8_
      have NB429_425 := n9_
      clear n0_ n1_ n2_ n3_ n4_ n5_ n6_ n7_ n8_ n9_
      clear hb hbox hg
      refine hK.out _ _ ⟨(blk_cell BK424.out 0).trans rfl, (blk_cell BK424.out 1).trans rfl⟩ (fun hHeld => ?_)
      clear hK K
      refine norm_ (a' := ?_) ?_ ?_
      rotate_left
      · show Act.put _ (some 5) _ = _
        simp only [Act.put, List.setIfInBounds_toArray, List.set_cons_zero, List.set_cons_succ, i64_w, i32_w]
        rfl
      refine one_ (i := 2) (N := some 10) #[true, true, true, true, true, false, true, false] rfl rfl (one_of HT_.out (by kernel_rfl)) (by decide) (fun K hK => ?_)
      refine goes_ Try.func90 (by kernel_rfl) rfl #[.slice A0_0 l0_0.length c0_0] (by rfl) rfl rfl (by (try simp only [List.map_toArray, List.map_cons, List.map_nil]); first | done | rfl | (simp only [List.length_drop, List.length_take]; rfl)) ?_
      with_reducible refine (slices_Clone_int_int.calls _ _ l0_0 t426 _ ?side1 ?side2 A3.out).mono ?_
      (case side1 => repeat (first | exact (Kd.C_below HR0_0.out HB.out) | (with_reducible refine Kd.C_alloc ?_ _) | (with_reducible refine Kd.C_drewN ?_ _) | (with_reducible refine Kd.C_drew ?_)))
      (case side2 => exact HC0_0.out)
      rintro e w10 ⟨v427, rfl, ho0, hb⟩
      refine ⟨_, rfl, ?_⟩
      have n0_ := Aside0.mk (Kd.R_lower ho0 (below_size (by repeat (first | (with_reducible first | exact HB.out | apply below_alloc | apply pw_below_drewN | apply below_drew1 | refine below_set ?_ GE424.out | refine below_set ?_ GE425.out | refine below_set ?_ GE429.out) | exact HB.out))))
      have n1_ := Aside0.mk (blk_below (g := gb424) (o := .cells #[.slice A0_0 l0_0.length c0_0, .int .i64 a0_1] 41 (0, 0)) (by (with_reducible repeat (first | refine blk_drewN ?_ _ | refine blk_drew ?_ | refine blk_alloc ?_ _)); exact BK424.out) hb)
      have n2_ := Aside0.mk (blk_below (g := gb425) (o := .cells #[.slice none 0 0, .int .i64 0] 41 (0, 0)) (by (with_reducible repeat (first | refine blk_drewN ?_ _ | refine blk_drew ?_ | refine blk_alloc ?_ _)); exact BK425.out) hb)
      have n3_ := Aside0.mk (blk_below (g := gb429) (o := .cells #[.slice none 0 0, .int .i64 0] 41 (0, 0)) (by (with_reducible repeat (first | refine blk_drewN ?_ _ | refine blk_drew ?_ | refine blk_alloc ?_ _)); exact BK429.out) hb)
      have n4_ := Aside0.mk (below_step (by repeat (first | (with_reducible first | exact HB.out | apply below_alloc | apply pw_below_drewN | apply below_drew1 | refine below_set ?_ GE424.out | refine below_set ?_ GE425.out | refine below_set ?_ GE429.out) | exact HB.out)) hb)
      clear BK424
      clear BK425
      clear BK429
      clear HB
      have HO428 := n0_
      have BK424 := n1_
      have BK425 := n2_
      have BK429 := n3_
      have HB := n4_
      clear n0_ n1_ n2_ n3_ n4_
      (try clear hb)
      (try clear hb2)
      (try clear hk)
      (try clear hi)
      (try clear ho0)
      obtain ⟨Ao11, co11, eo11⟩ := Kd.R_slice HO428.out
      (first | subst eo11 | (injection eo11 with f1_ f2_ f3_; have f4_ := f1_.symm; have f5_ := f3_.symm; clear f1_ f2_ f3_; subst f4_; subst f5_))
      refine hK.out _ _ ⟨(blk_cell BK424.out 0).trans rfl, (blk_cell BK424.out 1).trans rfl⟩ (fun hHeld => ?_)
      clear hK K
      refine norm_ (a' := ?_) ?_ ?_
      rotate_left
      · show Act.put _ (some 10) _ = _
        simp only [Act.put, List.setIfInBounds_toArray, List.set_cons_zero, List.set_cons_succ, i64_w, i32_w]
        rfl
      refine pure_ (i := 5) (N := some 13) (v := ?_) (a' := ?_) #[true, true, true, true, true, true, true, false] rfl rfl (any_of HT_.out (by kernel_rfl)) (fun _ _ _ h => h) (Or.inl ⟨by rfl, ?_⟩) ?_ ?_
      rotate_left
      · intro w'
        go_simp
        with_reducible rfl
      rotate_left
      · simp only [Act.put, List.setIfInBounds_toArray, List.set_cons_zero, List.set_cons_succ, i64_w, i32_w]
        rfl
      exact norm_ (by simp only [putAll, Act.put, List.setIfInBounds_toArray, List.set_cons_zero, List.set_cons_succ]) (hCont (.slice Ao11 t426.length co11, gb429) _ ⟨hHeld, (by (with_reducible repeat (first | apply Kd.R_alloc | apply Kd.R_drewN | apply Kd.R_drew)); exact HO428.out), (by (with_reducible repeat (first | refine blk_drewN ?_ _ | refine blk_drew ?_ | refine blk_alloc ?_ _)); exact BK424.out), (by (with_reducible repeat (first | refine blk_drewN ?_ _ | refine blk_drew ?_ | refine blk_alloc ?_ _)); exact BK425.out), (by (with_reducible repeat (first | refine blk_drewN ?_ _ | refine blk_drew ?_ | refine blk_alloc ?_ _)); exact BK429.out), GW429.out, GE429.out, NB424_429.out, NB429_424.out, NB425_429.out, NB429_425.out, (by repeat (first | (with_reducible first | exact HB.out | apply below_alloc | apply pw_below_drewN | apply below_drew1 | refine below_set ?_ GE424.out | refine below_set ?_ GE425.out | refine below_set ?_ GE429.out) | exact HB.out))⟩)
  rintro ⟨v427, gb429⟩ w12 ⟨hS_, h0_, h1_, h2_, h3_, h4_, h5_, h6_, h7_, h8_, h9_, h10_⟩
  have n0_ : Aside0 (Kd.R (Kd.int .i64) 3 w12 w.heap.size (fun _ => True) v427 t426) := ⟨h0_⟩
  have n1_ : Aside0 (w12.heap[gb424]? = some (.cells #[.slice A0_0 l0_0.length c0_0, .int .i64 a0_1] 41 (0, 0))) := ⟨h1_⟩
  have n2_ : Aside0 (w12.heap[gb425]? = some (.cells #[.slice none 0 0, .int .i64 0] 41 (0, 0))) := ⟨h2_⟩
  have n3_ : Aside0 (w12.heap[gb429]? = some (.cells #[.slice none 0 0, .int .i64 0] 41 (0, 0))) := ⟨h3_⟩
  have n4_ : Aside0 (w.heap.size ≤ gb429) := ⟨h4_⟩
  have n5_ : Aside0 (w.heap.size ≤ gb429) := ⟨h5_⟩
  have n6_ : Aside0 (gb424 ≠ gb429) := ⟨h6_⟩
  have n7_ : Aside0 (gb429 ≠ gb424) := ⟨h7_⟩
  have n8_ : Aside0 (gb425 ≠ gb429) := ⟨h8_⟩
  have n9_ : Aside0 (gb429 ≠ gb425) := ⟨h9_⟩
  have n10_ : Aside0 (Below w.heap.size w w12) := ⟨h10_⟩
  clear BK424
  clear BK425
  clear HB
  clear h0_ h1_ h2_ h3_ h4_ h5_ h6_ h7_ h8_ h9_ h10_
  have HO428 := n0_
  have BK424 := n1_
  have BK425 := n2_
  have BK429 := n3_
  have GW429 := n4_
  have GE429 := n5_
  have NB424_429 := n6_
  have NB429_424 := n7_
  have NB425_429 := n8_
  have NB429_425 := n9_
  have HB := n10_
  clear n0_ n1_ n2_ n3_ n4_ n5_ n6_ n7_ n8_ n9_ n10_
  have hHeld : w12.cell? ⟨gb424, 0, none⟩ = some (.slice A0_0 l0_0.length c0_0) ∧ w12.cell? ⟨gb424, 1, none⟩ = some (.int .i64 a0_1) := hS_
  obtain ⟨Ao13, co13, eo13⟩ := Kd.R_slice HO428.out
  (first | subst eo13 | (injection eo13 with f1_ f2_ f3_; have f4_ := f1_.symm; have f5_ := f3_.symm; clear f1_ f2_ f3_; subst f4_; subst f5_))
  refine norm_ (a' := ?_) ?_ ?_
  rotate_left
  · simp only [putAll, Act.put, List.setIfInBounds_toArray, List.set_cons_zero, List.set_cons_succ]
    rfl
  refine one_ (i := 7) (N := none) #[true, true, true, true, true, true, true, true] rfl rfl (one_of HT_.out (by kernel_rfl)) (by decide) (fun K hK => ?_)
  have hs14 : w12.cell? ⟨gb429, 0, none⟩ = some (.slice none 0 0) := (blk_cell BK429.out 0).trans rfl
  have hfs14 := blk_frozen BK429.out 0
  have hns14_0 := NB424_429.out
  have hns14_1 := NB425_429.out
  have hms14_0 := NB429_424.out
  have hms14_1 := NB429_425.out
  have hs15 : w12.cell? ⟨gb429, 1, none⟩ = some (.int .i64 0) := (blk_cell BK429.out 1).trans rfl
  have hfs15 := blk_frozen BK429.out 1
  have hns15_0 := NB424_429.out
  have hns15_1 := NB425_429.out
  have hms15_0 := NB429_424.out
  have hms15_1 := NB429_425.out
  refine skip_ (w1 := ?_) (by rfl) rfl ?_ ?_
  rotate_left
  · go_simp
    rfl
  refine hK.out _ _ ⟨((cell_far (p := ⟨gb429, _, none⟩) NB424_429.out _).trans (((cell_far (p := ⟨gb429, _, none⟩) NB424_429.out _).trans (hHeld.1)))), ((cell_far (p := ⟨gb429, _, none⟩) NB424_429.out _).trans (((cell_far (p := ⟨gb429, _, none⟩) NB424_429.out _).trans (hHeld.2))))⟩ (fun hHeld => ?_)
  clear hK K
  refine done_ (done_of HT_.out (by kernel_rfl)) ?_
  have hnb16 := NB424_425.out
  have hnc16 := NB425_424.out
  have hnb17 := NB424_429.out
  have hnc17 := NB429_424.out
  have hcz18_0 : w12.cell? ⟨gb424, 0, none⟩ = some (.slice A0_0 l0_0.length c0_0) := (blk_cell BK424.out 0).trans rfl
  have hcz18_1 : w12.cell? ⟨gb424, 1, none⟩ = some (.int .i64 a0_1) := (blk_cell BK424.out 1).trans rfl
  have hfz18_0 := blk_frozen BK424.out 0
  have hfz18_1 := blk_frozen BK424.out 1
  go_upto_if 16 with (first | ((with_reducible refine gate_callee (f := 79) rfl ?_); refine goesL_ (some 15) rfl rfl Try.func79 (by kernel_rfl) rfl #[.agg #[.slice A0_0 l0_0.length c0_0, .int .i64 a0_1]] rfl (by (try simp only [List.map_toArray, List.map_cons, List.map_nil]); first | done | rfl | (simp only [List.length_drop, List.length_take]; rfl)) ?_; (with_reducible refine (impl_IsSketch.calls k _ _ l0_0 a0_1 t430 _ ?side1 ?side2 A4.out).mono ?_); (case side1 => exact Kd.C_below HR0_0.out (by repeat (first | (with_reducible first | exact HB.out | apply below_alloc | apply pw_below_drewN | apply below_drew1 | refine below_set ?_ GE424.out | refine below_set ?_ GE425.out | refine below_set ?_ GE429.out) | exact HB.out))); (case side2 => exact HC0_0.out); rintro e w19 ⟨rfl, hb⟩; refine ⟨_, rfl, ?_⟩; have n0_ := Aside0.mk (Kd.R_below (by (with_reducible repeat (first | apply Kd.R_alloc | apply Kd.R_drewN | apply Kd.R_drew)); exact (Kd.R_mono (Kd.R_far (p := ⟨gb429, 1, none⟩) (Kd.R_far (p := ⟨gb429, 0, none⟩) (Kd.R_types HO428.out BK429.out (by decide)) (fun _ hk => hk.2) (.slice Ao13 t426.length co13)) (fun _ hk => hk.2) (.int .i64 a0_1)) (fun _ h_ => h_.1))) hb); have n1_ := Aside0.mk (blk_below (g := gb424) (o := .cells #[.slice A0_0 l0_0.length c0_0, .int .i64 a0_1] 41 (0, 0)) (by (with_reducible repeat (first | refine blk_drewN ?_ _ | refine blk_drew ?_ | refine blk_alloc ?_ _)); refine blk_far ?_ NB424_429.out _; (with_reducible repeat (first | refine blk_drewN ?_ _ | refine blk_drew ?_ | refine blk_alloc ?_ _)); refine blk_far ?_ NB424_429.out _; (with_reducible repeat (first | refine blk_drewN ?_ _ | refine blk_drew ?_ | refine blk_alloc ?_ _)); exact BK424.out) hb); have n2_ := Aside0.mk (blk_below (g := gb425) (o := .cells #[.slice none 0 0, .int .i64 0] 41 (0, 0)) (by (with_reducible repeat (first | refine blk_drewN ?_ _ | refine blk_drew ?_ | refine blk_alloc ?_ _)); refine blk_far ?_ NB425_429.out _; (with_reducible repeat (first | refine blk_drewN ?_ _ | refine blk_drew ?_ | refine blk_alloc ?_ _)); refine blk_far ?_ NB425_429.out _; (with_reducible repeat (first | refine blk_drewN ?_ _ | refine blk_drew ?_ | refine blk_alloc ?_ _)); exact BK425.out) hb); have n3_ := Aside0.mk (blk_below (g := gb429) (o := .cells #[.slice Ao13 t426.length co13, .int .i64 a0_1] 41 (0, 0)) (by (with_reducible repeat (first | refine blk_drewN ?_ _ | refine blk_drew ?_ | refine blk_alloc ?_ _)); refine blk_put (cs := #[.slice Ao13 t426.length co13, .int .i64 0]) ?_ 1 _ rfl; (with_reducible repeat (first | refine blk_drewN ?_ _ | refine blk_drew ?_ | refine blk_alloc ?_ _)); refine blk_put (cs := #[.slice none 0 0, .int .i64 0]) ?_ 0 _ rfl; (with_reducible repeat (first | refine blk_drewN ?_ _ | refine blk_drew ?_ | refine blk_alloc ?_ _)); exact BK429.out) hb); have n4_ := Aside0.mk (below_step (by repeat (first | (with_reducible first | exact HB.out | apply below_alloc | apply pw_below_drewN | apply below_drew1 | refine below_set ?_ GE424.out | refine below_set ?_ GE425.out | refine below_set ?_ GE429.out) | exact HB.out)) hb); clear HO428; clear BK424; clear BK425; clear BK429; clear HB; have HO428 := n0_; have BK424 := n1_; have BK425 := n2_; have BK429 := n3_; have HB := n4_; clear n0_ n1_ n2_ n3_ n4_; (try clear hb); (try clear hb2); (try clear hk); (try clear hi)))
  have H := HF5.out
  clear HF5
  by_cases c20 : t430 = true
  · subst c20
    have H1 : (if (t426.length : Int) = 0 then (if 64 ≤ 35184372088832 then (impl_TouchKey.j0 k a1 (List.replicate 64 0) a0_1) else (none)) else (impl_TouchKey.j0 k a1 t426 a0_1)) = some (r1, r2) := by rw [if_pos rfl] at H; exact H
    clear H
    have H := H1
    clear H1
    have HC21 := Aside0.mk H
    clear H
    have hnb22 := NB429_424.out
    have hnc22 := NB424_429.out
    have hnb23 := NB429_425.out
    have hnc23 := NB425_429.out
    have hcz24_0 : w19.cell? ⟨gb429, 0, none⟩ = some (.slice Ao13 t426.length co13) := (blk_cell BK429.out 0).trans rfl
    have hcz24_1 : w19.cell? ⟨gb429, 1, none⟩ = some (.int .i64 a0_1) := (blk_cell BK429.out 1).trans rfl
    have hfz24_0 := blk_frozen BK429.out 0
    have hfz24_1 := blk_frozen BK429.out 1
    go_upto_if 21 with (fail)
    go_cut [] (fun wc => ∃ (kq : Nat) (x430000_20 : List Int) (u430000 : Value), Aside0 (impl_TouchKey.j0 kq a1 x430000_20 a0_1 = some (r1, r2)) ∧ Aside0 (kq ≤ k) ∧ Aside0 (Kd.R (Kd.int .i64) 3 wc w.heap.size (fun _ => True) u430000 x430000_20) ∧ Aside0 (wc.heap[gb424]? = some (.cells #[(.slice A0_0 l0_0.length c0_0), .int .i64 a0_1] 41 (0, 0))) ∧ Aside0 (wc.heap[gb425]? = some (.cells #[(.slice none 0 0), .int .i64 0] 41 (0, 0))) ∧ Aside0 (wc.heap[gb429]? = some (.cells #[u430000, .int .i64 a0_1] 41 (0, 0))) ∧ Aside0 (Below w.heap.size w wc))
    case first =>
      have H := HC21.out
      clear HC21
      by_cases c25 : (t426.length : Int) = 0
      · rw [if_pos c25] at H
        have c25b0 : ((t426.length : Int) == 0) = true := beq_iff_eq.mpr c25
        have c25b1 : ((t426.length : Int) != 0) = false := bne_eq_false_iff_eq.mpr c25
        clear c25
        (first | rw [c25b0] | (simp only [i64_w, i32_w]; rw [c25b0]) | skip)
        by_cases c26 : 64 ≤ 35184372088832
        · rw [if_pos c26] at H
          have c26b0 := eq_true c26
          have c26b1 : decide (64 ≤ 35184372088832) = true := decide_eq_true c26
          clear c26
          obtain ⟨y431, hy431⟩ : ∃ y_ : List Int, y_ = (List.replicate 64 0) := ⟨_, rfl⟩
          replace H : (impl_TouchKey.j0 k a1 y431 a0_1) = some (r1, r2) := by first | (rw [hy431]; with_reducible exact H) | (have H2_ := (Option.bind_some _ _).symm.trans H; rw [hy431]; with_reducible exact H2_) | (have H2_ := (Option.bind_some _ _).symm.trans H; with_reducible exact H2_) | with_reducible exact H | (rw [hy431]; exact H) | exact H
          have Ny431 := Aside0.mk hy431
          clear hy431
          have H' := Aside0.mk H
          clear H
          go_wp2_with (first | ((with_reducible refine gate_dst (N := 22) rfl ?_); refine Kd.R_make (Kd.int .i64) _ 3 rfl (N := 22) rfl 36 _ _ rfl 64 rfl rfl Try.underlying36 (.int .i64 0) 8 info3 rfl (by decide) (by omega) 0 (ok := fun _ => True) (okp := fun _ => True) rfl (fun _ hk => hk) trivial (by omega) (by omega) (Below.refl _ _) (Nat.le_refl _) ?_; intro v432 w27 ho28 hb hg_ hnew_; clear hg_ hnew_; (first | rw [← Ny431.out] at ho28 | (simp only [Int.reduceToNat] at ho28; rw [← Ny431.out] at ho28)); have n0_ := Aside0.mk (Kd.R_elder' (by (with_reducible repeat (first | apply Kd.R_alloc | apply Kd.R_drewN | apply Kd.R_drew)); exact HO428.out) (Kd.R_base ho28) hb); have n1_ := Aside0.mk (Kd.R_lower (Kd.R_new' ho28 (Kd.R_lt (by (with_reducible repeat (first | apply Kd.R_alloc | apply Kd.R_drewN | apply Kd.R_drew)); exact HO428.out))) (below_size (by repeat (first | (with_reducible first | exact HB.out | apply below_alloc | apply pw_below_drewN | apply below_drew1 | refine below_set ?_ GE424.out | refine below_set ?_ GE425.out | refine below_set ?_ GE429.out) | exact HB.out)))); have n2_ := Aside0.mk (blk_below (g := gb424) (o := .cells #[.slice A0_0 l0_0.length c0_0, .int .i64 a0_1] 41 (0, 0)) (by (with_reducible repeat (first | refine blk_drewN ?_ _ | refine blk_drew ?_ | refine blk_alloc ?_ _)); exact BK424.out) hb); have n3_ := Aside0.mk (blk_below (g := gb425) (o := .cells #[.slice none 0 0, .int .i64 0] 41 (0, 0)) (by (with_reducible repeat (first | refine blk_drewN ?_ _ | refine blk_drew ?_ | refine blk_alloc ?_ _)); exact BK425.out) hb); have n4_ := Aside0.mk (blk_below (g := gb429) (o := .cells #[.slice Ao13 t426.length co13, .int .i64 a0_1] 41 (0, 0)) (by (with_reducible repeat (first | refine blk_drewN ?_ _ | refine blk_drew ?_ | refine blk_alloc ?_ _)); exact BK429.out) hb); have n5_ := Aside0.mk (below_step (by repeat (first | (with_reducible first | exact HB.out | apply below_alloc | apply pw_below_drewN | apply below_drew1 | refine below_set ?_ GE424.out | refine below_set ?_ GE425.out | refine below_set ?_ GE429.out) | exact HB.out)) hb); clear HO428; clear BK424; clear BK425; clear BK429; clear HB; have HO428 := n0_; have HO433 := n1_; have BK424 := n2_; have BK425 := n3_; have BK429 := n4_; have HB := n5_; clear n0_ n1_ n2_ n3_ n4_ n5_; clear hb ho28; obtain ⟨Ao29, co29, eo29⟩ := Kd.R_slice HO433.out; subst eo29; have hnb30 := NB429_424.out; have hnc30 := NB424_429.out; have hnb31 := NB429_425.out; have hnc31 := NB425_429.out; have hcz32_0 : w27.cell? ⟨gb429, 0, none⟩ = some (.slice Ao13 t426.length co13) := (blk_cell BK429.out 0).trans rfl; have hcz32_1 : w27.cell? ⟨gb429, 1, none⟩ = some (.int .i64 a0_1) := (blk_cell BK429.out 1).trans rfl; have hfz32_0 := blk_frozen BK429.out 0; have hfz32_1 := blk_frozen BK429.out 1))
          go_meet
          case rel => exact ⟨_, (y431), (.slice Ao29 y431.length co29), H', ⟨by first | omega | exact Nat.le_refl _⟩, ⟨by (with_reducible repeat (first | apply Kd.R_alloc | apply Kd.R_drewN | apply Kd.R_drew)); exact Kd.R_mono (Kd.R_far (p := ⟨gb429, 0, none⟩) (Kd.R_types HO433.out BK429.out (by decide)) (fun _ hk => hk.2) (.slice Ao29 y431.length co29)) (fun _ hk => trivial)⟩, ⟨by (with_reducible repeat (first | refine blk_drewN ?_ _ | refine blk_drew ?_ | refine blk_alloc ?_ _)); refine blk_far ?_ NB424_429.out _; (with_reducible repeat (first | refine blk_drewN ?_ _ | refine blk_drew ?_ | refine blk_alloc ?_ _)); exact BK424.out⟩, ⟨by (with_reducible repeat (first | refine blk_drewN ?_ _ | refine blk_drew ?_ | refine blk_alloc ?_ _)); refine blk_far ?_ NB425_429.out _; (with_reducible repeat (first | refine blk_drewN ?_ _ | refine blk_drew ?_ | refine blk_alloc ?_ _)); exact BK425.out⟩, ⟨by (with_reducible repeat (first | refine blk_drewN ?_ _ | refine blk_drew ?_ | refine blk_alloc ?_ _)); refine blk_put (cs := #[.slice Ao13 t426.length co13, .int .i64 a0_1]) ?_ 0 _ rfl; (with_reducible repeat (first | refine blk_drewN ?_ _ | refine blk_drew ?_ | refine blk_alloc ?_ _)); exact BK429.out⟩, ⟨by repeat (first | (with_reducible first | exact HB.out | apply below_alloc | apply pw_below_drewN | apply below_drew1 | refine below_set ?_ GE424.out | refine below_set ?_ GE425.out | refine below_set ?_ GE429.out) | exact HB.out)⟩⟩
        · rw [if_neg c26] at H
          exact absurd H (by simp)
      · rw [if_neg c25] at H
        have c25b0 : ((t426.length : Int) == 0) = false := beq_eq_false_iff_ne.mpr c25
        have c25b1 : ((t426.length : Int) != 0) = true := bne_iff_ne.mpr c25
        have c25b2 : ¬ (t426 = []) := fun h_ => c25 (by rw [h_]; rfl)
        (first | rw [c25b0] | (simp only [i64_w, i32_w]; rw [c25b0]) | skip)
        have H' := Aside0.mk H
        clear H
        go_wp2
        go_meet
        case rel => exact ⟨_, (t426), (.slice Ao13 t426.length co13), H', ⟨by first | omega | exact Nat.le_refl _⟩, ⟨by (with_reducible repeat (first | apply Kd.R_alloc | apply Kd.R_drewN | apply Kd.R_drew)); exact HO428.out⟩, ⟨by (with_reducible repeat (first | refine blk_drewN ?_ _ | refine blk_drew ?_ | refine blk_alloc ?_ _)); exact BK424.out⟩, ⟨by (with_reducible repeat (first | refine blk_drewN ?_ _ | refine blk_drew ?_ | refine blk_alloc ?_ _)); exact BK425.out⟩, ⟨by (with_reducible repeat (first | refine blk_drewN ?_ _ | refine blk_drew ?_ | refine blk_alloc ?_ _)); exact BK429.out⟩, ⟨by repeat (first | (with_reducible first | exact HB.out | apply below_alloc | apply pw_below_drewN | apply below_drew1 | refine below_set ?_ GE424.out | refine below_set ?_ GE425.out | refine below_set ?_ GE429.out) | exact HB.out)⟩⟩
    case rest =>
      clear HC21
      try clear c1
      try clear c2
      try clear p2
      try clear c3
      try clear c7
      try clear c9
      try clear c16
      try clear c17
      try clear c20
      try clear c22
      try clear c23
      try clear c25
      try clear c25b0
      try clear c25b1
      try clear c25b2
      try clear c26
      try clear c26b0
      try clear c26b1
      try clear c30
      try clear c31
      try clear hcz18_0
      try clear hcz18_1
      try clear hcz24_0
      try clear hcz24_1
      try clear hcz32_0
      try clear hcz32_1
      try clear hfz18_0
      try clear hfz18_1
      try clear hfz24_0
      try clear hfz24_1
      try clear hfz32_0
      try clear hfz32_1
      obtain ⟨kq, x430000_20, u430000, HA, HJ20, HO_430000, BK424, BK425, BK429, HB⟩ := hcut
      cases kq with
      | zero => exact absurd HA.out (by simp [impl_TouchKey.j0])
      | succ kj20 =>
        have H := HA.out
        clear HA
        simp only [impl_TouchKey.j0] at H
        have H' := Aside0.mk H
        clear H
        go_wp2
        go_loopg [24] kj20 (fun kq v24 w' => ∃ (x24_2 : Int) (x430000_2 : List Int) (u430000 : Value), v24 = .int .i64 x24_2 ∧ Aside0 (impl_TouchKey.l0 kq a1 x24_2 x430000_2 a0_1 = some (r1, r2)) ∧ Aside0 (kq ≤ kj20) ∧ Aside0 (Kd.R (Kd.int .i64) 3 w' w.heap.size (fun _ => True) u430000 x430000_2) ∧ Aside0 (w'.heap[gb424]? = some (.cells #[(.slice A0_0 l0_0.length c0_0), .int .i64 a0_1] 41 (0, 0))) ∧ Aside0 (w'.heap[gb425]? = some (.cells #[(.slice none 0 0), .int .i64 0] 41 (0, 0))) ∧ Aside0 (w'.heap[gb429]? = some (.cells #[u430000, .int .i64 a0_1] 41 (0, 0))) ∧ Aside0 (Below w.heap.size w w'))
        case atStart => exact ⟨(0), (x430000_20), (u430000), (by first | rfl | (simp; done) | (simp [*]; done)), H', ⟨Nat.le_refl _⟩, ⟨by (with_reducible repeat (first | apply Kd.R_alloc | apply Kd.R_drewN | apply Kd.R_drew)); exact HO_430000.out⟩, ⟨by (with_reducible repeat (first | refine blk_drewN ?_ _ | refine blk_drew ?_ | refine blk_alloc ?_ _)); exact BK424.out⟩, ⟨by (with_reducible repeat (first | refine blk_drewN ?_ _ | refine blk_drew ?_ | refine blk_alloc ?_ _)); exact BK425.out⟩, ⟨by (with_reducible repeat (first | refine blk_drewN ?_ _ | refine blk_drew ?_ | refine blk_alloc ?_ _)); exact BK429.out⟩, ⟨by repeat (first | (with_reducible first | exact HB.out | apply below_alloc | apply pw_below_drewN | apply below_drew1 | refine below_set ?_ GE424.out | refine below_set ?_ GE425.out | refine below_set ?_ GE429.out) | exact HB.out)⟩⟩
        case round =>
          clear H'
          try clear c1
          try clear c2
          try clear p2
          try clear c3
          try clear c7
          try clear c9
          try clear c16
          try clear c17
          try clear c20
          try clear c22
          try clear c23
          try clear c25
          try clear c25b0
          try clear c25b1
          try clear c25b2
          try clear c26
          try clear c26b0
          try clear c26b1
          try clear c30
          try clear c31
          try clear hcz18_0
          try clear hcz18_1
          try clear hcz24_0
          try clear hcz24_1
          try clear hcz32_0
          try clear hcz32_1
          try clear hfz18_0
          try clear hfz18_1
          try clear hfz24_0
          try clear hfz24_1
          try clear hfz32_0
          try clear hfz32_1
          try clear p2
          obtain ⟨x24_2, x430000_2, u430000, rfl, HA, HK2, HO_430000, BK424, BK425, BK429, HB⟩ := hrel
          cases gk with
          | zero => exact absurd HA.out (by simp [impl_TouchKey.l0])
          | succ k2 =>
            have H := HA.out
            clear HA
            simp only [impl_TouchKey.l0] at H
            by_cases c33 : x24_2 < 4
            · rw [if_pos c33] at H
              have c33b0 : decide (x24_2 < 4) = true := decide_eq_true c33
              clear c33
              replace H := Option.bind_eq_some_iff.mp H
              obtain ⟨t434, A340, H⟩ := H
              replace H : (if 0 ≤ t434 then (if t434 < (x430000_2.length : Int) then (impl_TouchKey.l0 k2 a1 (wrap64 (x24_2 + 1)) (x430000_2.set (t434 : Int).toNat (wrap64 ((rd x430000_2 t434) + 1))) a0_1) else (none)) else (none)) = some (r1, r2) := H
              have A34 := Aside0.mk A340
              clear A340
              by_cases c35 : 0 ≤ t434
              · rw [if_pos c35] at H
                have c35b0 : decide (0 ≤ t434) = true := decide_eq_true c35
                clear c35
                by_cases c36 : t434 < (x430000_2.length : Int)
                · rw [if_pos c36] at H
                  have c36b0 : decide (t434 < (x430000_2.length : Int)) = true := decide_eq_true c36
                  clear c36
                  obtain ⟨y436, hy436⟩ : ∃ y_ : List Int, y_ = (x430000_2.set (t434 : Int).toNat (wrap64 ((rd x430000_2 t434) + 1))) := ⟨_, rfl⟩
                  replace H : (impl_TouchKey.l0 k2 a1 (wrap64 (x24_2 + 1)) y436 a0_1) = some (r1, r2) := by first | (rw [hy436]; with_reducible exact H) | (have H2_ := (Option.bind_some _ _).symm.trans H; rw [hy436]; with_reducible exact H2_) | (have H2_ := (Option.bind_some _ _).symm.trans H; with_reducible exact H2_) | with_reducible exact H | (rw [hy436]; exact H) | exact H
                  have Ny436 := Aside0.mk hy436
                  clear hy436
                  have H' := Aside0.mk H
                  clear H
                  try go_wp2
                  have n0_ := Aside0.mk (Kd.R_drew HO_430000.out)
                  have n1_ := Aside0.mk (blk_drew BK424.out)
                  have n2_ := Aside0.mk (blk_drew BK425.out)
                  have n3_ := Aside0.mk (blk_drew BK429.out)
                  have n4_ := Aside0.mk (below_drew1 HB.out)
                  clear HO_430000
                  clear BK424
                  clear BK425
                  clear BK429
                  clear HB
                  have HO_430000 := n0_
                  have BK424 := n1_
                  have BK425 := n2_
                  have BK429 := n3_
                  have HB := n4_
                  clear n0_ n1_ n2_ n3_ n4_
                  have p435 : 0 ≤ (t434 : Int) := of_decide_eq_true (by first | (with_reducible assumption) | assumption)
                  have q435 : t434 < (x430000_2.length : Int) := of_decide_eq_true (by first | (with_reducible assumption) | assumption)
                  obtain ⟨Aq_, cq_, eq_⟩ := Kd.R_slice HO_430000.out
                  subst eq_
                  obtain ⟨ad435, e435, hx435_0⟩ := Kd.at_int (Kd.R_reads' HO_430000.out).2.2 t434 p435 q435
                  cases e435
                  replace p435 := eq_true p435
                  replace q435 := eq_true q435
                  refine start_ (n := 10) (S := fun w' => w'.cell? ⟨gb429, 0, none⟩ = some ((.slice (some ad435) x430000_2.length cq_)) ∧ w'.cell? ⟨gb429, 1, none⟩ = some (.int .i64 a0_1) ∧ w'.cell? (ad435.add (t434).toNat) = some (.int .i64 (rd x430000_2 t434))) (ds := [9]) #[false, false, false, false, false, false, false, false, false, false] (by kernel_rfl) rfl rfl ⟨(blk_cell BK429.out 0).trans rfl, (blk_cell BK429.out 1).trans rfl, hx435_0⟩ (fun hHeld => ?_); refine with_tabW impl_TouchKey.tab9 impl_TouchKey.bits9 (fun HT_ HW_ => ?_)
                  generalize wr.drew = w38 at HO_430000 BK424 BK425 BK429 HB hx435_0 hHeld ⊢
                  refine pure_ (i := 0) (N := some 27) (v := ?_) (a' := ?_) #[true, false, false, false, false, false, false, false, false, false] rfl rfl (any_of HT_.out (by kernel_rfl)) (fun _ _ _ h => h) (Or.inl ⟨by rfl, ?_⟩) ?_ ?_
                  rotate_left
                  · intro w'
                    go_simp
                    with_reducible rfl
                  rotate_left
                  · simp only [Act.put, List.setIfInBounds_toArray, List.set_cons_zero, List.set_cons_succ, i64_w, i32_w]
                    rfl
                  refine pure_ (i := 2) (N := some 29) (v := ?_) (a' := ?_) #[true, false, true, false, false, false, false, false, false, false] rfl rfl (any_of HT_.out (by kernel_rfl)) (fun _ _ _ h => h) (Or.inl ⟨by rfl, ?_⟩) ?_ ?_
                  rotate_left
                  · intro w'
                    go_simp
                    with_reducible rfl
                  rotate_left
                  · simp only [Act.put, List.setIfInBounds_toArray, List.set_cons_zero, List.set_cons_succ, i64_w, i32_w]
                    rfl
                  refine pure_ (i := 3) (N := some 30) (v := ?_) (a' := ?_) #[true, false, true, true, false, false, false, false, false, false] rfl rfl (any_of HT_.out (by kernel_rfl)) (fun _ _ _ h => h) (Or.inl ⟨by rfl, ?_⟩) ?_ ?_
                  rotate_left
                  · intro w'
                    go_simp
                    with_reducible rfl
                  rotate_left
                  · simp only [Act.put, List.setIfInBounds_toArray, List.set_cons_zero, List.set_cons_succ, i64_w, i32_w]
                    rfl
                  refine take_ (i := 1) (N := some 28) (v := ?_) (a' := ?_) #[true, true, true, true, false, false, false, false, false, false] rfl rfl (take_ofW HT_.out HW_.out (by kernel_rfl)) (fun _ _ _ h => h) (Or.inl ⟨by rfl, ?_⟩) hHeld ?_ ?_
                  rotate_left
                  · rintro w' ⟨s0, s1, s2⟩
                    (try simp only [add_plain] at s0 s1 s2)
                    go_simp
                    with_reducible rfl
                  rotate_left
                  · simp only [Act.put, List.setIfInBounds_toArray, List.set_cons_zero, List.set_cons_succ, i64_w, i32_w]
                    rfl
                  refine one_ (i := 4) (N := some 31) #[true, true, true, true, true, false, false, false, false, false] rfl rfl (one_of HT_.out (by kernel_rfl)) (by decide) (fun K hK => ?_)
                  refine goes_ Try.func80 (by kernel_rfl) rfl #[.int .i64 x24_2, .string a1] (by rfl) rfl rfl (by (try simp only [List.map_toArray, List.map_cons, List.map_nil]); first | done | rfl | (simp only [List.length_drop, List.length_take]; rfl)) ?_
                  with_reducible refine (impl_placeIn.calls k2 x24_2 a1 t434 _ A34.out).mono ?_
                  rintro e w39 ⟨rfl, hb⟩
                  have HS2_ := (hb.cell (World.block_lt_of_cell? _ _ (hHeld.2.2))).trans (hHeld.2.2)
                  refine ⟨_, rfl, ?_⟩
                  have n0_ := Aside0.mk (Kd.R_below (by (with_reducible repeat (first | apply Kd.R_alloc | apply Kd.R_drewN | apply Kd.R_drew)); exact HO_430000.out) hb)
                  have n1_ := Aside0.mk (blk_below (g := gb424) (o := .cells #[.slice A0_0 l0_0.length c0_0, .int .i64 a0_1] 41 (0, 0)) (by (with_reducible repeat (first | refine blk_drewN ?_ _ | refine blk_drew ?_ | refine blk_alloc ?_ _)); exact BK424.out) hb)
                  have n2_ := Aside0.mk (blk_below (g := gb425) (o := .cells #[.slice none 0 0, .int .i64 0] 41 (0, 0)) (by (with_reducible repeat (first | refine blk_drewN ?_ _ | refine blk_drew ?_ | refine blk_alloc ?_ _)); exact BK425.out) hb)
                  have n3_ := Aside0.mk (blk_below (g := gb429) (o := .cells #[(.slice (some ad435) x430000_2.length cq_), .int .i64 a0_1] 41 (0, 0)) (by (with_reducible repeat (first | refine blk_drewN ?_ _ | refine blk_drew ?_ | refine blk_alloc ?_ _)); exact BK429.out) hb)
                  have n4_ := Aside0.mk (below_step (by repeat (first | (with_reducible first | exact HB.out | apply below_alloc | apply pw_below_drewN | apply below_drew1 | refine below_set ?_ GE424.out | refine below_set ?_ GE425.out | refine below_set ?_ GE429.out) | exact HB.out)) hb)
                  clear HO_430000
                  clear BK424
                  clear BK425
                  clear BK429
                  clear HB
                  have HO_430000 := n0_
                  have BK424 := n1_
                  have BK425 := n2_
                  have BK429 := n3_
                  have HB := n4_
                  clear n0_ n1_ n2_ n3_ n4_
                  (try clear hb)
                  (try clear hb2)
                  (try clear hk)
                  (try clear hi)
                  obtain ⟨Ao40, co40, eo40⟩ := Kd.R_slice HO_430000.out
                  (first | subst eo40 | (injection eo40 with f1_ f2_ f3_; have f4_ := f1_.symm; have f5_ := f3_.symm; clear f1_ f2_ f3_; subst f4_; subst f5_))
                  have p37 : 0 ≤ (t434 : Int) := of_decide_eq_true (by first | (with_reducible assumption) | assumption)
                  have q37 : (t434 : Int) < ((x430000_2.length : Int) : Int) := of_decide_eq_true (by first | (with_reducible assumption) | assumption)
                  obtain ⟨go37, co37, eo37, gb37, gl37, cl37, HG37⟩ := Kd.R_form HO_430000.out (by omega)
                  (first | cases eo37 | (injection eo37 with ea_ en_ ec_; (first | subst ea_ | (injection ea_ with ea_; subst ea_)); subst ec_; clear en_))
                  have GB37 := Aside0.mk gb37
                  have GG37 := Aside0.mk HG37
                  clear gb37 gl37 HG37
                  (first | simp only [add_plain] at hx435_0 | skip)
                  obtain ⟨hx37_0, hf37_0⟩ := Kd.R_celln 0 HO_430000.out (t434 : Int) p37 q37
                  replace p37 := eq_true p37
                  replace q37 := eq_true q37
                  have HP41 := Kd.R_putn HO_430000.out (t434 : Int) (wrap64 ((rd x430000_2 t434) + 1))
                  rw [← Ny436.out] at HP41
                  have HQ41 := Aside0.mk HP41
                  clear HP41
                  refine hK.out _ _ ⟨(blk_cell BK429.out 0).trans rfl, (blk_cell BK429.out 1).trans rfl, HS2_⟩ (fun hHeld => ?_)
                  clear hK K
                  refine norm_ (a' := ?_) ?_ ?_
                  rotate_left
                  · show Act.put _ (some 31) _ = _
                    simp only [Act.put, List.setIfInBounds_toArray, List.set_cons_zero, List.set_cons_succ, i64_w, i32_w]
                    rfl
                  refine pure_ (i := 5) (N := some 32) (v := ?_) (a' := ?_) #[true, true, true, true, true, true, false, false, false, false] rfl rfl (any_of HT_.out (by kernel_rfl)) (fun _ _ _ h => h) (Or.inl ⟨by rfl, ?_⟩) ?_ ?_
                  rotate_left
                  · intro w'
                    go_simp
                    with_reducible rfl
                  rotate_left
                  · simp only [Act.put, List.setIfInBounds_toArray, List.set_cons_zero, List.set_cons_succ, i64_w, i32_w]
                    rfl
                  refine take_ (i := 6) (N := some 33) (v := ?_) (a' := ?_) #[true, true, true, true, true, true, true, false, false, false] rfl rfl (take_ofW HT_.out HW_.out (by kernel_rfl)) (fun _ _ _ h => h) (Or.inl ⟨by rfl, ?_⟩) hHeld ?_ ?_
                  rotate_left
                  · rintro w' ⟨s0, s1, s2⟩
                    (try simp only [add_plain] at s0 s1 s2)
                    go_simp
                    with_reducible rfl
                  rotate_left
                  · simp only [Act.put, List.setIfInBounds_toArray, List.set_cons_zero, List.set_cons_succ, i64_w, i32_w]
                    rfl
                  refine pure_ (i := 7) (N := some 34) (v := ?_) (a' := ?_) #[true, true, true, true, true, true, true, true, false, false] rfl rfl (any_of HT_.out (by kernel_rfl)) (fun _ _ _ h => h) (Or.inl ⟨by rfl, ?_⟩) ?_ ?_
                  rotate_left
                  · intro w'
                    go_simp
                    with_reducible rfl
                  rotate_left
                  · simp only [Act.put, List.setIfInBounds_toArray, List.set_cons_zero, List.set_cons_succ, i64_w, i32_w]
                    rfl
                  refine pure_ (i := 8) (N := some 35) (v := ?_) (a' := ?_) #[true, true, true, true, true, true, true, true, true, false] rfl rfl (any_of HT_.out (by kernel_rfl)) (fun _ _ _ h => h) (Or.inl ⟨by rfl, ?_⟩) ?_ ?_
                  rotate_left
                  · intro w'
                    go_simp
                    with_reducible rfl
                  rotate_left
                  · simp only [Act.put, List.setIfInBounds_toArray, List.set_cons_zero, List.set_cons_succ, i64_w, i32_w]
                    rfl
                  refine last_ (i := 9) (N := none) #[true, true, true, true, true, true, true, true, true, true] rfl rfl (one_of HT_.out (by kernel_rfl)) (by decide) (fun K hK => ?_)
                  refine skip_ (w1 := ?_) (by rfl) rfl ?_ ?_
                  rotate_left
                  · go_simp
                    rfl
                  refine hK.out _ _ ?_
                  clear hK K
                  refine done_ (done_of HT_.out (by kernel_rfl)) ?_
                  try go_wp2
                  go_roundg k2
                  case measure => have := HJ20.out; have := HK2.out; omega
                  case rel => exact ⟨(wrap64 (x24_2 + 1)), (y436), (.slice (some ⟨go37, 0, none⟩) x430000_2.length co40), (by first | rfl | (simp; done) | (simp [*]; done)), H', ⟨by have := HJ20.out; have := HK2.out; omega⟩, ⟨by (with_reducible repeat (first | apply Kd.R_alloc | apply Kd.R_drewN | apply Kd.R_drew)); exact HQ41.out⟩, ⟨by (with_reducible repeat (first | refine blk_drewN ?_ _ | refine blk_drew ?_ | refine blk_alloc ?_ _)); refine blk_far ?_ (by have h_ := Kd.R_ne HO_430000.out BK424.out (by decide); intro e_; exact h_ (by rw [e_]; rfl)) _; (with_reducible repeat (first | refine blk_drewN ?_ _ | refine blk_drew ?_ | refine blk_alloc ?_ _)); exact BK424.out⟩, ⟨by (with_reducible repeat (first | refine blk_drewN ?_ _ | refine blk_drew ?_ | refine blk_alloc ?_ _)); refine blk_far ?_ (by have h_ := Kd.R_ne HO_430000.out BK425.out (by decide); intro e_; exact h_ (by rw [e_]; rfl)) _; (with_reducible repeat (first | refine blk_drewN ?_ _ | refine blk_drew ?_ | refine blk_alloc ?_ _)); exact BK425.out⟩, ⟨by (with_reducible repeat (first | refine blk_drewN ?_ _ | refine blk_drew ?_ | refine blk_alloc ?_ _)); refine blk_far ?_ (by have h_ := Kd.R_ne HO_430000.out BK429.out (by decide); intro e_; exact h_ (by rw [e_]; rfl)) _; (with_reducible repeat (first | refine blk_drewN ?_ _ | refine blk_drew ?_ | refine blk_alloc ?_ _)); exact BK429.out⟩, ⟨by repeat (first | (with_reducible first | exact HB.out | apply below_alloc | apply pw_below_drewN | apply below_drew1 | refine below_set ?_ GB37.out | refine below_set ?_ GE424.out | refine below_set ?_ GE425.out | refine below_set ?_ GE429.out) | exact HB.out)⟩⟩
                · rw [if_neg c36] at H
                  exact absurd H (by simp)
              · rw [if_neg c35] at H
                exact absurd H (by simp)
            · rw [if_neg c33] at H
              have c33b0 : decide (x24_2 < 4) = false := decide_eq_false c33
              clear c33
              have HF42 := Aside0.mk H
              clear H
              have hnb43 := NB429_424.out
              have hnc43 := NB424_429.out
              have hnb44 := NB429_425.out
              have hnc44 := NB425_429.out
              have hcz45_0 : wr.cell? ⟨gb429, 0, none⟩ = some (u430000) := (blk_cell BK429.out 0).trans rfl
              have hcz45_1 : wr.cell? ⟨gb429, 1, none⟩ = some (.int .i64 a0_1) := (blk_cell BK429.out 1).trans rfl
              have hfz45_0 := blk_frozen BK429.out 0
              have hfz45_1 := blk_frozen BK429.out 1
              go_upto_if 43 with (fail)
              have H := HF42.out
              clear HF42
              by_cases c46 : (wrap64 (a0_1 + 1)) = 64
              · rw [if_pos c46] at H
                have c46b0 : ((wrap64 (a0_1 + 1)) == 64) = true := beq_iff_eq.mpr c46
                have c46b1 : ((wrap64 (a0_1 + 1)) != 64) = false := bne_eq_false_iff_eq.mpr c46
                clear c46
                (first | rw [c46b0] | (simp only [i64_w, i32_w]; rw [c46b0]) | skip)
                have H' := Aside0.mk H
                clear H
                have hnb47 := NB429_424.out
                have hnc47 := NB424_429.out
                have hnb48 := NB429_425.out
                have hnc48 := NB425_429.out
                have hcz49_0 : wr.cell? ⟨gb429, 0, none⟩ = some (u430000) := (blk_cell BK429.out 0).trans rfl
                have hcz49_1 : wr.cell? ⟨gb429, 1, none⟩ = some (.int .i64 a0_1) := (blk_cell BK429.out 1).trans rfl
                have hfz49_0 := blk_frozen BK429.out 0
                have hfz49_1 := blk_frozen BK429.out 1
                obtain ⟨Ao50, co50, eo50⟩ := Kd.R_slice HO_430000.out
                subst eo50
                go_wp2
                go_loopg [48] k2 (fun kq v48 w' => ∃ (x48_3 : Int) (x430000_3 : List Int) (u430000 : Value), v48 = .int .i64 x48_3 ∧ Aside0 (impl_TouchKey.l1 kq (x430000_2.length : Int) x48_3 x430000_3 32 = some (r1, r2)) ∧ Aside0 (kq ≤ k2) ∧ Aside0 (Kd.R (Kd.int .i64) 3 w' w.heap.size (fun _ => True) u430000 x430000_3) ∧ Aside0 (w'.heap[gb424]? = some (.cells #[(.slice A0_0 l0_0.length c0_0), .int .i64 a0_1] 41 (0, 0))) ∧ Aside0 (w'.heap[gb425]? = some (.cells #[(.slice none 0 0), .int .i64 0] 41 (0, 0))) ∧ Aside0 (w'.heap[gb429]? = some (.cells #[u430000, .int .i64 32] 41 (0, 0))) ∧ Aside0 (Below w.heap.size w w'))
                case atStart => exact ⟨(0), (x430000_2), (.slice Ao50 x430000_2.length co50), (by first | rfl | (simp; done) | (simp [*]; done)), H', ⟨Nat.le_refl _⟩, ⟨by (with_reducible repeat (first | apply Kd.R_alloc | apply Kd.R_drewN | apply Kd.R_drew)); exact Kd.R_mono (Kd.R_far (p := ⟨gb429, 1, none⟩) (Kd.R_far (p := ⟨gb429, 1, none⟩) (Kd.R_types HO_430000.out BK429.out (by decide)) (fun _ hk => hk.2) (.int .i64 (wrap64 (a0_1 + 1)))) (fun _ hk => hk.2) (.int .i64 32)) (fun _ hk => trivial)⟩, ⟨by (with_reducible repeat (first | refine blk_drewN ?_ _ | refine blk_drew ?_ | refine blk_alloc ?_ _)); refine blk_far ?_ NB424_429.out _; (with_reducible repeat (first | refine blk_drewN ?_ _ | refine blk_drew ?_ | refine blk_alloc ?_ _)); refine blk_far ?_ NB424_429.out _; (with_reducible repeat (first | refine blk_drewN ?_ _ | refine blk_drew ?_ | refine blk_alloc ?_ _)); exact BK424.out⟩, ⟨by (with_reducible repeat (first | refine blk_drewN ?_ _ | refine blk_drew ?_ | refine blk_alloc ?_ _)); refine blk_far ?_ NB425_429.out _; (with_reducible repeat (first | refine blk_drewN ?_ _ | refine blk_drew ?_ | refine blk_alloc ?_ _)); refine blk_far ?_ NB425_429.out _; (with_reducible repeat (first | refine blk_drewN ?_ _ | refine blk_drew ?_ | refine blk_alloc ?_ _)); exact BK425.out⟩, ⟨by (with_reducible repeat (first | refine blk_drewN ?_ _ | refine blk_drew ?_ | refine blk_alloc ?_ _)); refine blk_put (cs := #[.slice Ao50 x430000_2.length co50, .int .i64 (wrap64 (a0_1 + 1))]) ?_ 1 _ rfl; (with_reducible repeat (first | refine blk_drewN ?_ _ | refine blk_drew ?_ | refine blk_alloc ?_ _)); refine blk_put (cs := #[.slice Ao50 x430000_2.length co50, .int .i64 a0_1]) ?_ 1 _ rfl; (with_reducible repeat (first | refine blk_drewN ?_ _ | refine blk_drew ?_ | refine blk_alloc ?_ _)); exact BK429.out⟩, ⟨by repeat (first | (with_reducible first | exact HB.out | apply below_alloc | apply pw_below_drewN | apply below_drew1 | refine below_set ?_ GE424.out | refine below_set ?_ GE425.out | refine below_set ?_ GE429.out) | exact HB.out)⟩⟩
                case round =>
                  clear H'
                  try clear c1
                  try clear c2
                  try clear p2
                  try clear c3
                  try clear p3
                  try clear q3
                  try clear hx3
                  try clear hf3
                  try clear c4
                  try clear p4
                  try clear q4
                  try clear hx4
                  try clear p6
                  try clear c7
                  try clear c8
                  try clear c9
                  try clear c16
                  try clear c17
                  try clear c20
                  try clear c22
                  try clear c23
                  try clear c25
                  try clear c25b0
                  try clear c25b1
                  try clear c25b2
                  try clear c26
                  try clear c26b0
                  try clear c26b1
                  try clear c30
                  try clear c31
                  try clear c33
                  try clear c33b0
                  try clear c35
                  try clear c35b0
                  try clear c36
                  try clear c36b0
                  try clear p37
                  try clear q37
                  try clear hx37
                  try clear hf37
                  try clear c43
                  try clear p43
                  try clear q43
                  try clear hx43
                  try clear c44
                  try clear c46
                  try clear c46b0
                  try clear c46b1
                  try clear c47
                  try clear c48
                  try clear hcz18_0
                  try clear hcz18_1
                  try clear hcz24_0
                  try clear hcz24_1
                  try clear hcz32_0
                  try clear hcz32_1
                  try clear hcz45_0
                  try clear hcz45_1
                  try clear hcz49_0
                  try clear hcz49_1
                  try clear hfz18_0
                  try clear hfz18_1
                  try clear hfz24_0
                  try clear hfz24_1
                  try clear hfz32_0
                  try clear hfz32_1
                  try clear hfz45_0
                  try clear hfz45_1
                  try clear hfz49_0
                  try clear hfz49_1
                  try clear hx37_0
                  try clear hx435_0
                  try clear p2
                  try clear p37
                  try clear p435
                  try clear q37
                  try clear q435
                  obtain ⟨x48_3, x430000_3, u430000, rfl, HA, HK3, HO_430000, BK424, BK425, BK429, HB⟩ := hrel
                  cases gk with
                  | zero => exact absurd HA.out (by simp [impl_TouchKey.l1])
                  | succ k3 =>
                    have H := HA.out
                    clear HA
                    simp only [impl_TouchKey.l1] at H
                    by_cases c51 : x48_3 < (x430000_2.length : Int)
                    · rw [if_pos c51] at H
                      have c51b0 : decide (x48_3 < (x430000_2.length : Int)) = true := decide_eq_true c51
                      clear c51
                      by_cases c52 : 0 ≤ x48_3
                      · rw [if_pos c52] at H
                        have c52b0 : decide (0 ≤ x48_3) = true := decide_eq_true c52
                        clear c52
                        by_cases c53 : x48_3 < (x430000_3.length : Int)
                        · rw [if_pos c53] at H
                          have c53b0 : decide (x48_3 < (x430000_3.length : Int)) = true := decide_eq_true c53
                          clear c53
                          obtain ⟨y438, hy438⟩ : ∃ y_ : List Int, y_ = (x430000_3.set (x48_3 : Int).toNat (wrap64 (Int.tdiv (rd x430000_3 x48_3) 2))) := ⟨_, rfl⟩
                          replace H : (impl_TouchKey.l1 k3 (x430000_2.length : Int) (wrap64 (x48_3 + 1)) y438 32) = some (r1, r2) := by first | (rw [hy438]; with_reducible exact H) | (have H2_ := (Option.bind_some _ _).symm.trans H; rw [hy438]; with_reducible exact H2_) | (have H2_ := (Option.bind_some _ _).symm.trans H; with_reducible exact H2_) | with_reducible exact H | (rw [hy438]; exact H) | exact H
                          have Ny438 := Aside0.mk hy438
                          clear hy438
                          have H' := Aside0.mk H
                          clear H
                          have hnb55 := NB429_424.out
                          have hnc55 := NB424_429.out
                          have hnb56 := NB429_425.out
                          have hnc56 := NB425_429.out
                          have hcz57_0 : wr.cell? ⟨gb429, 0, none⟩ = some (u430000) := (blk_cell BK429.out 0).trans rfl
                          have hcz57_1 : wr.cell? ⟨gb429, 1, none⟩ = some (.int .i64 32) := (blk_cell BK429.out 1).trans rfl
                          have hfz57_0 := blk_frozen BK429.out 0
                          have hfz57_1 := blk_frozen BK429.out 1
                          obtain ⟨Ao58, co58, eo58⟩ := Kd.R_slice HO_430000.out
                          subst eo58
                          have p437 : 0 ≤ (x48_3 : Int) := of_decide_eq_true (by first | (with_reducible assumption) | assumption)
                          have q437 : x48_3 < (x430000_3.length : Int) := of_decide_eq_true (by first | (with_reducible assumption) | assumption)
                          obtain ⟨ad437, e437, hx437_0⟩ := Kd.at_int (Kd.R_reads' HO_430000.out).2.2 x48_3 p437 q437
                          cases e437
                          replace p437 := eq_true p437
                          replace q437 := eq_true q437
                          have p54 : 0 ≤ (x48_3 : Int) := of_decide_eq_true (by first | (with_reducible assumption) | assumption)
                          have q54 : (x48_3 : Int) < ((x430000_3.length : Int) : Int) := of_decide_eq_true (by first | (with_reducible assumption) | assumption)
                          obtain ⟨go54, co54, eo54, gb54, gl54, cl54, HG54⟩ := Kd.R_form HO_430000.out (by omega)
                          (first | cases eo54 | (injection eo54 with ea_ en_ ec_; (first | subst ea_ | (injection ea_ with ea_; subst ea_)); subst ec_; clear en_))
                          have GB54 := Aside0.mk gb54
                          have GG54 := Aside0.mk HG54
                          clear gb54 gl54 HG54
                          (first | simp only [add_plain] at hx437_0 | skip)
                          obtain ⟨hx54_0, hf54_0⟩ := Kd.R_celln 0 HO_430000.out (x48_3 : Int) p54 q54
                          replace p54 := eq_true p54
                          replace q54 := eq_true q54
                          have HP59 := Kd.R_putg HO_430000.out (x48_3 : Int) (wrap64 (Int.tdiv (rd x430000_3 x48_3) 2))
                          go_wp2_with (first | ((with_reducible refine gate_store (t := 3) (p := 57) rfl ?_); refine store_event (t := 3) (p := 57) (v := ?vo_w60) (w1 := (wr.setCell ⟨go54, (x48_3 : Int).toNat, none⟩ (.int .i64 (wrap64 (Int.tdiv (rd x430000_3 x48_3) 2))))) ?hg ?ho ?hn ?hr ?_; (case ho => rfl); (case hg => rfl); (case hn => rfl); (case hr => first | (go_simp; done) | (go_simp; rfl)); intro w60 hw; have hg : wr.grownBy w60 (some go54) := (by rw [hw]; exact HP59.2); have hp_ : Kd.R (Kd.int .i64) 3 w60 w.heap.size (fun _ => True) (.slice (some ⟨go54, 0, none⟩) x430000_3.length co58) y438 := (by rw [hw, Ny438.out]; exact HP59.1); clear HP59; have n0_ := Aside0.mk (hp_); have n1_ := Aside0.mk (blk_grown (g := gb424) (o := .cells #[.slice A0_0 l0_0.length c0_0, .int .i64 a0_1] 41 (0, 0)) (by (with_reducible repeat (first | refine blk_drewN ?_ _ | refine blk_drew ?_ | refine blk_alloc ?_ _)); exact BK424.out) hg (Kd.R_ne HO_430000.out BK424.out (by decide))); have n2_ := Aside0.mk (blk_grown (g := gb425) (o := .cells #[.slice none 0 0, .int .i64 0] 41 (0, 0)) (by (with_reducible repeat (first | refine blk_drewN ?_ _ | refine blk_drew ?_ | refine blk_alloc ?_ _)); exact BK425.out) hg (Kd.R_ne HO_430000.out BK425.out (by decide))); have n3_ := Aside0.mk (blk_grown (g := gb429) (o := .cells #[.slice (some ⟨go54, 0, none⟩) x430000_3.length co58, .int .i64 32] 41 (0, 0)) (by (with_reducible repeat (first | refine blk_drewN ?_ _ | refine blk_drew ?_ | refine blk_alloc ?_ _)); exact BK429.out) hg (Kd.R_ne HO_430000.out BK429.out (by decide))); have n4_ := Aside0.mk ((by rw [hw]; exact below_set (HB.out) GB54.out : Below w.heap.size w w60)); clear HO_430000; clear BK424; clear BK425; clear BK429; clear HB; have HO_430000 := n0_; have BK424 := n1_; have BK425 := n2_; have BK429 := n3_; have HB := n4_; clear n0_ n1_ n2_ n3_ n4_; clear hg hw hp_))
                          go_roundg k3
                          case measure => have := HJ20.out; have := HK2.out; have := HK3.out; omega
                          case rel => exact ⟨(wrap64 (x48_3 + 1)), (y438), (.slice (some ⟨go54, 0, none⟩) x430000_3.length co58), (by first | rfl | (simp; done) | (simp [*]; done)), H', ⟨by have := HJ20.out; have := HK2.out; have := HK3.out; omega⟩, ⟨by (with_reducible repeat (first | apply Kd.R_alloc | apply Kd.R_drewN | apply Kd.R_drew)); exact HO_430000.out⟩, ⟨by (with_reducible repeat (first | refine blk_drewN ?_ _ | refine blk_drew ?_ | refine blk_alloc ?_ _)); exact BK424.out⟩, ⟨by (with_reducible repeat (first | refine blk_drewN ?_ _ | refine blk_drew ?_ | refine blk_alloc ?_ _)); exact BK425.out⟩, ⟨by (with_reducible repeat (first | refine blk_drewN ?_ _ | refine blk_drew ?_ | refine blk_alloc ?_ _)); exact BK429.out⟩, ⟨by repeat (first | (with_reducible first | exact HB.out | apply below_alloc | apply pw_below_drewN | apply below_drew1 | refine below_set ?_ GE424.out | refine below_set ?_ GE425.out | refine below_set ?_ GE429.out) | exact HB.out)⟩⟩
                        · rw [if_neg c53] at H
                          exact absurd H (by simp)
                      · rw [if_neg c52] at H
                        exact absurd H (by simp)
                    · rw [if_neg c51] at H
                      have c51b0 : decide (x48_3 < (x430000_2.length : Int)) = false := decide_eq_false c51
                      clear c51
                      simp only [Option.some.injEq, Prod.mk.injEq] at H
                      obtain ⟨rfl, rfl⟩ := H
                      have hnb61 := NB429_424.out
                      have hnc61 := NB424_429.out
                      have hnb62 := NB429_425.out
                      have hnc62 := NB425_429.out
                      have hcz63_0 : wr.cell? ⟨gb429, 0, none⟩ = some (u430000) := (blk_cell BK429.out 0).trans rfl
                      have hcz63_1 : wr.cell? ⟨gb429, 1, none⟩ = some (.int .i64 32) := (blk_cell BK429.out 1).trans rfl
                      have hfz63_0 := blk_frozen BK429.out 0
                      have hfz63_1 := blk_frozen BK429.out 1
                      obtain ⟨Ao64, co64, eo64⟩ := Kd.R_slice HO_430000.out
                      subst eo64
                      have hnb65 := NB425_424.out
                      have hnc65 := NB424_425.out
                      have hcz66_0 : wr.cell? ⟨gb425, 0, none⟩ = some (.slice none 0 0) := (blk_cell BK425.out 0).trans rfl
                      have hcz66_1 : wr.cell? ⟨gb425, 1, none⟩ = some (.int .i64 0) := (blk_cell BK425.out 1).trans rfl
                      have hfz66_0 := blk_frozen BK425.out 0
                      have hfz66_1 := blk_frozen BK425.out 1
                      go_wp2
                      refine bodyPost_ret (results_cell_row rfl _ _ gb425 41 #[.slice Ao64 x430000_3.length co64, .int .i64 32] (0, 0) _ rfl (by (with_reducible repeat (first | refine blk_drewN ?_ _ | refine blk_drew ?_ | refine blk_alloc ?_ _)); refine blk_put (cs := #[.slice Ao64 x430000_3.length co64, .int .i64 0]) ?_ 1 _ rfl; (with_reducible repeat (first | refine blk_drewN ?_ _ | refine blk_drew ?_ | refine blk_alloc ?_ _)); refine blk_put (cs := #[.slice none 0 0, .int .i64 0]) ?_ 0 _ rfl; (with_reducible repeat (first | refine blk_drewN ?_ _ | refine blk_drew ?_ | refine blk_alloc ?_ _)); exact BK425.out) Try.underlying41 rfl (by kernel_rfl)) rfl ?_
                      exact ⟨_, by first | rfl | (simp [errW_none, errW_some] <;> rfl) | (simp [*, errW_none, errW_some] <;> rfl), by (with_reducible repeat (first | apply Kd.R_alloc | apply Kd.R_drewN | apply Kd.R_drew)); exact Kd.R_mono (Kd.R_far (p := ⟨gb425, 1, none⟩) (Kd.R_far (p := ⟨gb425, 0, none⟩) (Kd.R_types HO_430000.out BK425.out (by decide)) (fun _ hk => hk.2) (.slice Ao64 x430000_3.length co64)) (fun _ hk => hk.2) (.int .i64 32)) (fun _ hk => trivial), by repeat (first | (with_reducible first | exact HB.out | apply below_alloc | apply pw_below_drewN | apply below_drew1 | refine below_set ?_ GE424.out | refine below_set ?_ GE425.out | refine below_set ?_ GE429.out) | exact HB.out)⟩
              · rw [if_neg c46] at H
                have c46b0 : ((wrap64 (a0_1 + 1)) == 64) = false := beq_eq_false_iff_ne.mpr c46
                have c46b1 : ((wrap64 (a0_1 + 1)) != 64) = true := bne_iff_ne.mpr c46
                (first | rw [c46b0] | (simp only [i64_w, i32_w]; rw [c46b0]) | skip)
                simp only [Option.some.injEq, Prod.mk.injEq] at H
                obtain ⟨rfl, rfl⟩ := H
                have hnb67 := NB429_424.out
                have hnc67 := NB424_429.out
                have hnb68 := NB429_425.out
                have hnc68 := NB425_429.out
                have hcz69_0 : wr.cell? ⟨gb429, 0, none⟩ = some (u430000) := (blk_cell BK429.out 0).trans rfl
                have hcz69_1 : wr.cell? ⟨gb429, 1, none⟩ = some (.int .i64 a0_1) := (blk_cell BK429.out 1).trans rfl
                have hfz69_0 := blk_frozen BK429.out 0
                have hfz69_1 := blk_frozen BK429.out 1
                obtain ⟨Ao70, co70, eo70⟩ := Kd.R_slice HO_430000.out
                subst eo70
                have hnb71 := NB425_424.out
                have hnc71 := NB424_425.out
                have hcz72_0 : wr.cell? ⟨gb425, 0, none⟩ = some (.slice none 0 0) := (blk_cell BK425.out 0).trans rfl
                have hcz72_1 : wr.cell? ⟨gb425, 1, none⟩ = some (.int .i64 0) := (blk_cell BK425.out 1).trans rfl
                have hfz72_0 := blk_frozen BK425.out 0
                have hfz72_1 := blk_frozen BK425.out 1
                go_wp2
                refine bodyPost_ret (results_cell_row rfl _ _ gb425 41 #[.slice Ao70 x430000_2.length co70, .int .i64 (wrap64 (a0_1 + 1))] (0, 0) _ rfl (by (with_reducible repeat (first | refine blk_drewN ?_ _ | refine blk_drew ?_ | refine blk_alloc ?_ _)); refine blk_put (cs := #[.slice Ao70 x430000_2.length co70, .int .i64 0]) ?_ 1 _ rfl; (with_reducible repeat (first | refine blk_drewN ?_ _ | refine blk_drew ?_ | refine blk_alloc ?_ _)); refine blk_put (cs := #[.slice none 0 0, .int .i64 0]) ?_ 0 _ rfl; (with_reducible repeat (first | refine blk_drewN ?_ _ | refine blk_drew ?_ | refine blk_alloc ?_ _)); refine blk_far ?_ NB425_429.out _; (with_reducible repeat (first | refine blk_drewN ?_ _ | refine blk_drew ?_ | refine blk_alloc ?_ _)); exact BK425.out) Try.underlying41 rfl (by kernel_rfl)) rfl ?_
                exact ⟨_, by first | rfl | (simp [errW_none, errW_some] <;> rfl) | (simp [*, errW_none, errW_some] <;> rfl), by (with_reducible repeat (first | apply Kd.R_alloc | apply Kd.R_drewN | apply Kd.R_drew)); exact Kd.R_mono (Kd.R_far (p := ⟨gb425, 1, none⟩) (Kd.R_far (p := ⟨gb425, 0, none⟩) (Kd.R_far (p := ⟨gb429, 1, none⟩) (Kd.R_types (Kd.R_types HO_430000.out BK429.out (by decide)) BK425.out (by decide)) (fun _ hk => hk.1.2) (.int .i64 (wrap64 (a0_1 + 1)))) (fun _ hk => hk.2) (.slice Ao70 x430000_2.length co70)) (fun _ hk => hk.2) (.int .i64 (wrap64 (a0_1 + 1)))) (fun _ hk => trivial), by repeat (first | (with_reducible first | exact HB.out | apply below_alloc | apply pw_below_drewN | apply below_drew1 | refine below_set ?_ GE424.out | refine below_set ?_ GE425.out | refine below_set ?_ GE429.out) | exact HB.out)⟩
  · replace c20 := Bool.eq_false_iff.mpr c20
    subst c20
    have H1 : (some (t426, a0_1)) = some (r1, r2) := by rw [if_neg (show ¬ (false = true) by decide)] at H; exact H
    clear H
    have H := H1
    clear H1
    simp only [Option.some.injEq, Prod.mk.injEq] at H
    obtain ⟨rfl, rfl⟩ := H
    have hnb73 := NB429_424.out
    have hnc73 := NB424_429.out
    have hnb74 := NB429_425.out
    have hnc74 := NB425_429.out
    have hcz75_0 : w19.cell? ⟨gb429, 0, none⟩ = some (.slice Ao13 t426.length co13) := (blk_cell BK429.out 0).trans rfl
    have hcz75_1 : w19.cell? ⟨gb429, 1, none⟩ = some (.int .i64 a0_1) := (blk_cell BK429.out 1).trans rfl
    have hfz75_0 := blk_frozen BK429.out 0
    have hfz75_1 := blk_frozen BK429.out 1
    have hnb76 := NB425_424.out
    have hnc76 := NB424_425.out
    have hcz77_0 : w19.cell? ⟨gb425, 0, none⟩ = some (.slice none 0 0) := (blk_cell BK425.out 0).trans rfl
    have hcz77_1 : w19.cell? ⟨gb425, 1, none⟩ = some (.int .i64 0) := (blk_cell BK425.out 1).trans rfl
    have hfz77_0 := blk_frozen BK425.out 0
    have hfz77_1 := blk_frozen BK425.out 1
    go_wp2
    refine bodyPost_ret (results_cell_row rfl _ _ gb425 41 #[.slice Ao13 t426.length co13, .int .i64 a0_1] (0, 0) _ rfl (by (with_reducible repeat (first | refine blk_drewN ?_ _ | refine blk_drew ?_ | refine blk_alloc ?_ _)); refine blk_put (cs := #[.slice Ao13 t426.length co13, .int .i64 0]) ?_ 1 _ rfl; (with_reducible repeat (first | refine blk_drewN ?_ _ | refine blk_drew ?_ | refine blk_alloc ?_ _)); refine blk_put (cs := #[.slice none 0 0, .int .i64 0]) ?_ 0 _ rfl; (with_reducible repeat (first | refine blk_drewN ?_ _ | refine blk_drew ?_ | refine blk_alloc ?_ _)); exact BK425.out) Try.underlying41 rfl (by kernel_rfl)) rfl ?_
    exact ⟨_, by first | rfl | (simp [errW_none, errW_some] <;> rfl) | (simp [*, errW_none, errW_some] <;> rfl), by (with_reducible repeat (first | apply Kd.R_alloc | apply Kd.R_drewN | apply Kd.R_drew)); exact Kd.R_mono (Kd.R_far (p := ⟨gb425, 1, none⟩) (Kd.R_far (p := ⟨gb425, 0, none⟩) (Kd.R_types HO428.out BK425.out (by decide)) (fun _ hk => hk.2) (.slice Ao13 t426.length co13)) (fun _ hk => hk.2) (.int .i64 a0_1)) (fun _ hk => trivial), by repeat (first | (with_reducible first | exact HB.out | apply below_alloc | apply pw_below_drewN | apply below_drew1 | refine below_set ?_ GE424.out | refine below_set ?_ GE425.out | refine below_set ?_ GE429.out) | exact HB.out)⟩


end Go.Proofs.Ytelmcjohkifeeaa.PA

namespace Go.Proofs.Ytelmcjohkifeeaa.PA
open Go.RowKit Go.Proofs.YtelmcjohkifeeaaW.PrintWords Go.Proofs.YtelmcjohkifeeaaW.PrintLast Go.Proofs.YtelmcjohkifeeaaW.PrintMore
attribute [local go_sem] max2_int min2_int max_two min_two max_three min_three max_four min_four   -- for this text's walks alone
set_option linter.unusedVariables false
set_option linter.unusedSimpArgs false
/-! ### laws_markIntS: function 91 -/
def laws_markIntS.l0 : Nat → List Int → Int → Int → Option (Int × List Int)
  | 0, _, _, _ => none
  | k + 1, x0, x1, x5 => if x5 < (x0.length : Int) then (if 0 ≤ x5 then (laws_markIntS.l0 k (x0.set (x5 : Int).toNat x1) (wrap64 (x1 + 1)) (wrap64 (x5 + 1))) else (none)) else (some (x1, x0))
def laws_markIntS.f (k : Nat) (l0 : List Int) (a1 : Int) : Option (Int × List Int) := laws_markIntS.l0 k l0 a1 0
theorem laws_markIntS.mono_l : ∀ k, (∀ y0 y1 y2, LeO (laws_markIntS.l0 k y0 y1 y2) (laws_markIntS.l0 (k + 1) y0 y1 y2))
  | 0 => fun _ _ _ r h => by simp [laws_markIntS.l0] at h
  | k + 1 => by
    have ih0 := laws_markIntS.mono_l k
    · intro y0 y1 y2
      unfold laws_markIntS.l0
      repeat' first
      | (with_reducible exact ih0 _ _ _)
      | (with_reducible exact LeO.refl _)
      | (with_reducible exact LeO.none _)
      | (with_reducible refine LeO.ite ?_ ?_)
      | (with_reducible refine LeO.bind ?_ (fun _ => ?_))
      | exact ih0 _ _ _
      | exact LeO.none _
      | refine LeO.ite ?_ ?_
      | refine LeO.bind ?_ (fun _ => ?_)
theorem laws_markIntS.mono : ∀ a0 a1 k, LeO (laws_markIntS.f k a0 a1) (laws_markIntS.f (k + 1) a0 a1) := by
  intro a0 a1 k
  have ih0 := laws_markIntS.mono_l k
  unfold laws_markIntS.f
  repeat' first
      | (with_reducible exact ih0 _ _ _)
      | (with_reducible exact LeO.refl _)
      | (with_reducible exact LeO.none _)
      | (with_reducible refine LeO.ite ?_ ?_)
      | (with_reducible refine LeO.bind ?_ (fun _ => ?_))
      | exact ih0 _ _ _
      | exact LeO.none _
      | refine LeO.ite ?_ ?_
      | refine LeO.bind ?_ (fun _ => ?_)
set_option maxHeartbeats 8000000 in
set_option maxRecDepth 100000 in
theorem laws_markIntS.calls (k : Nat) (P0_ : Nat → Prop) (u9000_ : Value) (l0 : List Int) (a1 : Int) (r1 : Int) (r2 : List Int) (w0 w : World) (hB : Below w0.heap.size w0 w) (ho0 : Kd.R (Kd.int .i64) 3 w w0.heap.size P0_ u9000_ l0) (h : laws_markIntS.f k l0 a1 = some (r1, r2)) :
    Calls Try.prog 91 #[u9000_, .int .i64 a1] w fun e w' => e = .returned (.int .i64 r1) ∧ Kd.R (Kd.int .i64) 3 w' w0.heap.size (fun k_ => (P0_ k_ ∨ w.heap.size ≤ k_)) u9000_ r2 ∧ Below w0.heap.size w0 w' ∧ Kept w w' (fun k_ => P0_ k_) := by
  have HO0 := Aside0.mk (show Kd.R (Kd.int .i64) 3 w w0.heap.size (fun k_ => (P0_ k_ ∨ w.heap.size ≤ k_)) u9000_ l0 from Kd.R_mono ho0 (fun k_ hk => (.inl hk)))
  have HK := Aside0.mk (Kept.refl w (fun k_ => P0_ k_))
  have HW0 := Aside0.mk hB.size
  have HB := Aside0.mk hB
  clear hB
  have H : (laws_markIntS.l0 k l0 a1 0) = some (r1, r2) := h
  clear h
  have H' := Aside0.mk H
  clear H
  go_enter Try.func91, Try.ntmps91
  go_wp2
  go_loopg [1, 5] k (fun kq v1 v5 w' => ∃ (x0_1 : List Int) (x1_1 : Int) (x5_1 : Int), v1 = .int .i64 x1_1 ∧ v5 = .int .i64 x5_1 ∧ Aside0 (laws_markIntS.l0 kq x0_1 x1_1 x5_1 = some (r1, r2)) ∧ Aside0 (kq ≤ k) ∧ Aside0 (Kd.R (Kd.int .i64) 3 w' w0.heap.size (fun k_ => (P0_ k_ ∨ w.heap.size ≤ k_)) u9000_ x0_1) ∧ Aside0 (Kept w w' (fun k_ => P0_ k_)) ∧ Aside0 (Below w0.heap.size w0 w'))
  case atStart => exact ⟨(l0), (a1), (0), (by first | rfl | (simp; done) | (simp [*]; done)), (by first | rfl | (simp; done) | (simp [*]; done)), H', ⟨Nat.le_refl _⟩, ⟨by (with_reducible repeat (first | apply Kd.R_alloc | apply Kd.R_drewN | apply Kd.R_drew)); exact HO0.out⟩, ⟨by repeat (first | (with_reducible first | exact HK.out | apply Kept.alloc | apply Kept.drewN | apply Kept.drew) | exact HK.out)⟩, ⟨by repeat (first | (with_reducible first | exact HB.out | apply below_alloc | apply pw_below_drewN | apply below_drew1) | exact HB.out)⟩⟩
  case round =>
    clear H'
    try clear p2
    obtain ⟨x0_1, x1_1, x5_1, rfl, rfl, HA, HK1, HO_0, HK, HB⟩ := hrel
    cases gk with
    | zero => exact absurd HA.out (by simp [laws_markIntS.l0])
    | succ k1 =>
      have H := HA.out
      clear HA
      simp only [laws_markIntS.l0] at H
      have HF3 := Aside0.mk H
      clear H
      obtain ⟨Ao4, co4, eo4⟩ := Kd.R_slice HO_0.out
      subst eo4
      go_upto_if 9 with (fail)
      have H := HF3.out
      clear HF3
      by_cases c5 : x5_1 < (x0_1.length : Int)
      · rw [if_pos c5] at H
        have c5b0 : decide (x5_1 < (x0_1.length : Int)) = true := decide_eq_true c5
        clear c5
        (first | rw [c5b0] | (simp only [i64_w, i32_w]; rw [c5b0]) | skip)
        by_cases c6 : 0 ≤ x5_1
        · rw [if_pos c6] at H
          have c6b0 : decide (0 ≤ x5_1) = true := decide_eq_true c6
          clear c6
          obtain ⟨y439, hy439⟩ : ∃ y_ : List Int, y_ = (x0_1.set (x5_1 : Int).toNat x1_1) := ⟨_, rfl⟩
          replace H : (laws_markIntS.l0 k1 y439 (wrap64 (x1_1 + 1)) (wrap64 (x5_1 + 1))) = some (r1, r2) := by first | (rw [hy439]; with_reducible exact H) | (have H2_ := (Option.bind_some _ _).symm.trans H; rw [hy439]; with_reducible exact H2_) | (have H2_ := (Option.bind_some _ _).symm.trans H; with_reducible exact H2_) | with_reducible exact H | (rw [hy439]; exact H) | exact H
          have Ny439 := Aside0.mk hy439
          clear hy439
          have H' := Aside0.mk H
          clear H
          have p7 : 0 ≤ (x5_1 : Int) := of_decide_eq_true (by first | (with_reducible assumption) | assumption)
          have q7 : (x5_1 : Int) < ((x0_1.length : Int) : Int) := of_decide_eq_true (by first | (with_reducible assumption) | assumption)
          obtain ⟨go7, co7, eo7, gb7, gl7, cl7, HG7⟩ := Kd.R_form HO_0.out (by omega)
          (first | cases eo7 | (injection eo7 with ea_ en_ ec_; (first | subst ea_ | (injection ea_ with ea_; subst ea_)); subst ec_; clear en_))
          have GB7 := Aside0.mk gb7
          have GG7 := Aside0.mk HG7
          clear gb7 gl7 HG7
          have HMgo7 := Aside0.mk (show (P0_ go7 ∨ w.heap.size ≤ go7) from (HO_0.out.1 _ rfl))
          obtain ⟨hx7_0, hf7_0⟩ := Kd.R_celln 0 HO_0.out (x5_1 : Int) p7 q7
          replace p7 := eq_true p7
          replace q7 := eq_true q7
          have HP8 := Kd.R_putg HO_0.out (x5_1 : Int) x1_1
          go_wp2_with (first | ((with_reducible refine gate_store (t := 3) (p := 15) rfl ?_); refine store_event (t := 3) (p := 15) (v := ?vo_w9) (w1 := (wr.setCell ⟨go7, (x5_1 : Int).toNat, none⟩ (.int .i64 x1_1))) ?hg ?ho ?hn ?hr ?_; (case ho => rfl); (case hg => rfl); (case hn => rfl); (case hr => first | (go_simp; done) | (go_simp; rfl)); intro w9 hw; have hg : wr.grownBy w9 (some go7) := (by rw [hw]; exact HP8.2); have hp_ : Kd.R (Kd.int .i64) 3 w9 w0.heap.size (fun k_ => (P0_ k_ ∨ w.heap.size ≤ k_)) (.slice (some ⟨go7, 0, none⟩) x0_1.length co4) y439 := (by rw [hw, Ny439.out]; exact HP8.1); clear HP8; have n0_ := Aside0.mk (hp_); have n1_ := Aside0.mk ((by rw [hw]; exact below_set (HB.out) GB7.out : Below w0.heap.size w0 w9)); have n2_ := Aside0.mk (Kept.of_grown (S := (fun k_ => P0_ k_)) hg (by repeat (first | (with_reducible first | exact HK.out | apply Kept.alloc | apply Kept.drewN | apply Kept.drew) | exact HK.out)) (fun k_ e_ => (HO_0.out.1 k_ e_))); clear HO_0; clear HB; clear HK; have HO_0 := n0_; have HB := n1_; have HK := n2_; clear n0_ n1_ n2_; clear hg hw hp_))
          go_roundg k1
          case measure => have := HK1.out; omega
          case rel => exact ⟨(y439), (wrap64 (x1_1 + 1)), (wrap64 (x5_1 + 1)), (by first | rfl | (simp; done) | (simp [*]; done)), (by first | rfl | (simp; done) | (simp [*]; done)), H', ⟨by have := HK1.out; omega⟩, ⟨by (with_reducible repeat (first | apply Kd.R_alloc | apply Kd.R_drewN | apply Kd.R_drew)); exact HO_0.out⟩, ⟨by repeat (first | (with_reducible first | exact HK.out | apply Kept.alloc | apply Kept.drewN | apply Kept.drew) | exact HK.out)⟩, ⟨by repeat (first | (with_reducible first | exact HB.out | apply below_alloc | apply pw_below_drewN | apply below_drew1) | exact HB.out)⟩⟩
        · rw [if_neg c6] at H
          exact absurd H (by simp)
      · rw [if_neg c5] at H
        have c5b0 : decide (x5_1 < (x0_1.length : Int)) = false := decide_eq_false c5
        clear c5
        (first | rw [c5b0] | (simp only [i64_w, i32_w]; rw [c5b0]) | skip)
        simp only [Option.some.injEq, Prod.mk.injEq] at H
        obtain ⟨rfl, rfl⟩ := H
        go_wp2
        go_ret
        exact ⟨by first | rfl | (simp [errW_none, errW_some] <;> rfl) | (simp [*, errW_none, errW_some] <;> rfl), by (with_reducible repeat (first | apply Kd.R_alloc | apply Kd.R_drewN | apply Kd.R_drew)); exact HO_0.out, by repeat (first | (with_reducible first | exact HB.out | apply below_alloc | apply pw_below_drewN | apply below_drew1) | exact HB.out), by repeat (first | (with_reducible first | exact HK.out | apply Kept.alloc | apply Kept.drewN | apply Kept.drew) | exact HK.out)⟩


end Go.Proofs.Ytelmcjohkifeeaa.PA

namespace Go.Proofs.Ytelmcjohkifeeaa.PA
open Go.RowKit Go.Proofs.YtelmcjohkifeeaaW.PrintWords Go.Proofs.YtelmcjohkifeeaaW.PrintLast Go.Proofs.YtelmcjohkifeeaaW.PrintMore
attribute [local go_sem] max2_int min2_int max_two min_two max_three min_three max_four min_four   -- for this text's walks alone
set_option linter.unusedVariables false
set_option linter.unusedSimpArgs false
/-! ### laws_markSketch: function 38 -/
def laws_markSketch.f (k : Nat) (l0_0 : List Int) (a0_1 : Int) (a1 : Int) : Option (Int × List Int) := (laws_markIntS.f k l0_0 a1).bind fun bt441 => (some (bt441.1, bt441.2))
theorem laws_markSketch.mono : ∀ a0 a1 a2 k, LeO (laws_markSketch.f k a0 a1 a2) (laws_markSketch.f (k + 1) a0 a1 a2) := by
  intro a0 a1 a2 k
  unfold laws_markSketch.f
  repeat' first
      | (with_reducible exact laws_markIntS.mono _ _ _)
      | (with_reducible exact LeO.refl _)
      | (with_reducible exact LeO.none _)
      | (with_reducible refine LeO.ite ?_ ?_)
      | (with_reducible refine LeO.bind ?_ (fun _ => ?_))
      | exact laws_markIntS.mono _ _ _
      | exact LeO.none _
      | refine LeO.ite ?_ ?_
      | refine LeO.bind ?_ (fun _ => ?_)
set_option maxHeartbeats 8000000 in
set_option maxRecDepth 100000 in
theorem laws_markSketch.calls (k : Nat) (P0_0_ : Nat → Prop) (u9000_ : Value) (l0_0 : List Int) (a0_1 : Int) (a1 : Int) (r1 : Int) (r2 : List Int) (w0 w : World) (hB : Below w0.heap.size w0 w) (ho0_0 : Kd.R (Kd.int .i64) 3 w w0.heap.size P0_0_ u9000_ l0_0) (h : laws_markSketch.f k l0_0 a0_1 a1 = some (r1, r2)) :
    Calls Try.prog 38 #[.agg #[u9000_, .int .i64 a0_1], .int .i64 a1] w fun e w' => e = .returned (.int .i64 r1) ∧ Kd.R (Kd.int .i64) 3 w' w0.heap.size (fun k_ => (P0_0_ k_ ∨ w.heap.size ≤ k_)) u9000_ r2 ∧ Below w0.heap.size w0 w' ∧ Kept w w' (fun k_ => P0_0_ k_) := by
  have hu41 := Try.underlying41
  have HO0_0 := Aside0.mk (show Kd.R (Kd.int .i64) 3 w w0.heap.size (fun k_ => (P0_0_ k_ ∨ w.heap.size ≤ k_)) u9000_ l0_0 from Kd.R_mono ho0_0 (fun k_ hk => (.inl hk)))
  have HK := Aside0.mk (Kept.refl w (fun k_ => P0_0_ k_))
  have HW0 := Aside0.mk hB.size
  have HB := Aside0.mk hB
  clear hB
  have H : ((laws_markIntS.f k l0_0 a1).bind fun bt441 => (some (bt441.1, bt441.2))) = some (r1, r2) := h
  clear h
  replace H := Option.bind_eq_some_iff.mp H
  obtain ⟨⟨t441, t442⟩, A30, H⟩ := H
  replace H : (some (t441, t442)) = some (r1, r2) := H
  have A3 := Aside0.mk A30
  clear A30
  simp only [Option.some.injEq, Prod.mk.injEq] at H
  obtain ⟨rfl, rfl⟩ := H
  obtain ⟨Ao4, co4, eo4⟩ := Kd.R_slice HO0_0.out
  subst eo4
  go_enter Try.func38, Try.ntmps38
  go_wp2_with (first | ((with_reducible refine gate_dst (N := 2) rfl ?_); refine box_event ?hg (N := 2) ?hd (cs := #[.slice Ao4 l0_0.length co4, .int .i64 a0_1]) (t := 41) ?hr ?_; (case hd => rfl); (case hg => rfl); (case hr => first | (go_simp; done) | (go_simp; rfl)); intro gb440 hg w5 hbox hb; have n0_ := Aside0.mk (Kd.R_below (by (with_reducible repeat (first | apply Kd.R_alloc | apply Kd.R_drewN | apply Kd.R_drew)); exact HO0_0.out) hb); have n1_ := Aside0.mk (Kept.below (S := (fun k_ => P0_0_ k_)) (by repeat (first | (with_reducible first | exact HK.out | apply Kept.alloc | apply Kept.drewN | apply Kept.drew) | exact HK.out)) hb); have n2_ := Aside0.mk (below_step (by repeat (first | (with_reducible first | exact HB.out | apply below_alloc | apply pw_below_drewN | apply below_drew1) | exact HB.out)) hb); have n3_ := Aside0.mk (hbox); have n4_ := Aside0.mk ((by rw [hg]; exact (by first | exact HK.out.1 | exact (show Kept w _ (fun k_ => P0_0_ k_) from by repeat (first | (with_reducible first | exact HK.out | apply Kept.alloc | apply Kept.drewN | apply Kept.drew) | exact HK.out)).1) : w.heap.size ≤ gb440)); have n5_ := Aside0.mk ((by rw [hg]; exact (below_size (by repeat (first | (with_reducible first | exact HB.out | apply below_alloc | apply pw_below_drewN | apply below_drew1) | exact HB.out))) : w0.heap.size ≤ gb440)); clear HO0_0; clear HK; clear HB; have HO0_0 := n0_; have HK := n1_; have HB := n2_; have BK440 := n3_; have GW440 := n4_; have GE440 := n5_; clear n0_ n1_ n2_ n3_ n4_ n5_; clear hb hbox hg; have hcz6_0 : w5.cell? ⟨gb440, 0, none⟩ = some (.slice Ao4 l0_0.length co4) := (blk_cell BK440.out 0).trans rfl; have hcz6_1 : w5.cell? ⟨gb440, 1, none⟩ = some (.int .i64 a0_1) := (blk_cell BK440.out 1).trans rfl; have hfz6_0 := blk_frozen BK440.out 0; have hfz6_1 := blk_frozen BK440.out 1) | ((with_reducible refine gate_callee (f := 91) rfl ?_); refine goesL_ (some 8) rfl rfl Try.func91 (by kernel_rfl) rfl #[.slice Ao4 l0_0.length co4, .int .i64 a1] rfl (by (try simp only [List.map_toArray, List.map_cons, List.map_nil]); first | done | rfl | (simp only [List.length_drop, List.length_take]; rfl)) ?_; (with_reducible refine (laws_markIntS.calls k (fun k_ => some k_ = (.slice Ao4 l0_0.length co4 : Value).ownBlock) (.slice Ao4 l0_0.length co4) l0_0 a1 t441 t442 w0 _ ?side1 ?side2 A3.out).mono ?_); (case side1 => repeat (first | (with_reducible first | exact HB.out | apply below_alloc | apply pw_below_drewN | apply below_drew1 | refine below_set ?_ GE440.out) | exact HB.out)); (case side2 => exact Kd.R_tight rfl HO0_0.out); rintro e w7 ⟨rfl, hy0, hb, hkp⟩; refine ⟨_, rfl, ?_⟩; have n0_ := Aside0.mk (Kd.R_reok rfl hy0 (fun k_ e_ => HO0_0.out.1 k_ e_)); have n1_ := Aside0.mk (blk_kept (by (with_reducible repeat (first | refine blk_drewN ?_ _ | refine blk_drew ?_ | refine blk_alloc ?_ _)); exact BK440.out) hkp (fun hs_ => (fun e_ => (Kd.R_ne HO0_0.out BK440.out (by decide)) e_) hs_)); have n2_ := Aside0.mk (Kept.then_ (S := (fun k_ => P0_0_ k_)) (by repeat (first | (with_reducible first | exact HK.out | apply Kept.alloc | apply Kept.drewN | apply Kept.drew | refine Kept.setCell ?_ (.inr GW440.out) _) | exact HK.out)) hkp (fun k_ hs_ => (fun e_ => (HO0_0.out.1 k_ e_.symm)) hs_)); have n3_ := Aside0.mk (hb); clear HO0_0; clear BK440; clear HK; clear HB; have HO0_0 := n0_; have BK440 := n1_; have HK := n2_; have HB := n3_; clear n0_ n1_ n2_ n3_; (try clear hb); (try clear hkp); (try clear hy0)))
  go_ret
  exact ⟨by first | rfl | (simp [errW_none, errW_some] <;> rfl) | (simp [*, errW_none, errW_some] <;> rfl), by (with_reducible repeat (first | apply Kd.R_alloc | apply Kd.R_drewN | apply Kd.R_drew)); exact HO0_0.out, by repeat (first | (with_reducible first | exact HB.out | apply below_alloc | apply pw_below_drewN | apply below_drew1 | refine below_set ?_ GE440.out) | exact HB.out), by repeat (first | (with_reducible first | exact HK.out | apply Kept.alloc | apply Kept.drewN | apply Kept.drew | refine Kept.setCell ?_ (.inr GW440.out) _) | exact HK.out)⟩


end Go.Proofs.Ytelmcjohkifeeaa.PA

namespace Go.Proofs.Ytelmcjohkifeeaa.PA
open Go.RowKit Go.Proofs.YtelmcjohkifeeaaW.PrintWords Go.Proofs.YtelmcjohkifeeaaW.PrintLast Go.Proofs.YtelmcjohkifeeaaW.PrintMore
attribute [local go_sem] max2_int min2_int max_two min_two max_three min_three max_four min_four   -- for this text's walks alone
set_option linter.unusedVariables false
set_option linter.unusedSimpArgs false
/-! ### laws_heldIntS: function 92 -/
def laws_heldIntS.l0 : Nat → List Int → Int → Int → Option (Int)
  | 0, _, _, _ => none
  | k + 1, x0, x1, x5 => if x5 < (x0.length : Int) then (if 0 ≤ x5 then (if (rd x0 x5) = x1 then (laws_heldIntS.l0 k x0 (wrap64 (x1 + 1)) (wrap64 (x5 + 1))) else (some (-1))) else (none)) else (some x1)
def laws_heldIntS.f (k : Nat) (l0 : List Int) (a1 : Int) : Option (Int) := laws_heldIntS.l0 k l0 a1 0
theorem laws_heldIntS.mono_l : ∀ k, (∀ y0 y1 y2, LeO (laws_heldIntS.l0 k y0 y1 y2) (laws_heldIntS.l0 (k + 1) y0 y1 y2))
  | 0 => fun _ _ _ r h => by simp [laws_heldIntS.l0] at h
  | k + 1 => by
    have ih0 := laws_heldIntS.mono_l k
    · intro y0 y1 y2
      unfold laws_heldIntS.l0
      repeat' first
      | (with_reducible exact ih0 _ _ _)
      | (with_reducible exact LeO.refl _)
      | (with_reducible exact LeO.none _)
      | (with_reducible refine LeO.ite ?_ ?_)
      | (with_reducible refine LeO.bind ?_ (fun _ => ?_))
      | exact ih0 _ _ _
      | exact LeO.none _
      | refine LeO.ite ?_ ?_
      | refine LeO.bind ?_ (fun _ => ?_)
theorem laws_heldIntS.mono : ∀ a0 a1 k, LeO (laws_heldIntS.f k a0 a1) (laws_heldIntS.f (k + 1) a0 a1) := by
  intro a0 a1 k
  have ih0 := laws_heldIntS.mono_l k
  unfold laws_heldIntS.f
  repeat' first
      | (with_reducible exact ih0 _ _ _)
      | (with_reducible exact LeO.refl _)
      | (with_reducible exact LeO.none _)
      | (with_reducible refine LeO.ite ?_ ?_)
      | (with_reducible refine LeO.bind ?_ (fun _ => ?_))
      | exact ih0 _ _ _
      | exact LeO.none _
      | refine LeO.ite ?_ ?_
      | refine LeO.bind ?_ (fun _ => ?_)
set_option maxHeartbeats 8000000 in
set_option maxRecDepth 100000 in
theorem laws_heldIntS.calls (k : Nat) (A0 : Option Addr) (c0 : Nat) (l0 : List Int) (a1 : Int) (r : Int) (w : World) (hr0 : Kd.C (Kd.int .i64) w A0 l0.length l0) (hc0 : l0.length ≤ c0) (h : laws_heldIntS.f k l0 a1 = some r) :
    Calls Try.prog 92 #[.slice A0 l0.length c0, .int .i64 a1] w fun e w' => e = .returned (.int .i64 r) ∧ Drawn0 w w' := by
  have HR0 := Aside0.mk hr0
  have HC0 := Aside0.mk hc0
  clear hr0 hc0
  have H : (laws_heldIntS.l0 k l0 a1 0) = some r := h
  clear h
  have H' := Aside0.mk H
  clear H
  go_enter Try.func92, Try.ntmps92
  go_wp2
  go_loopg [1, 5] k (fun kq v1 v5 w' => ∃ (x1_1 : Int) (x5_1 : Int), v1 = .int .i64 x1_1 ∧ v5 = .int .i64 x5_1 ∧ Aside0 (laws_heldIntS.l0 kq l0 x1_1 x5_1 = some r) ∧ Aside0 (kq ≤ k) ∧ Drawn0 w w')
  case atStart => exact ⟨(a1), (0), (by first | rfl | (simp; done) | (simp [*]; done)), (by first | rfl | (simp; done) | (simp [*]; done)), H', ⟨Nat.le_refl _⟩, by repeat (first | exact Drawn0.refl _ | apply Drawn0.step)⟩
  case round =>
    clear H'
    try clear p2
    obtain ⟨x1_1, x5_1, rfl, rfl, HA, HK1, ⟨m1, rfl⟩⟩ := hrel
    cases gk with
    | zero => exact absurd HA.out (by simp [laws_heldIntS.l0])
    | succ k1 =>
      have H := HA.out
      clear HA
      simp only [laws_heldIntS.l0] at H
      by_cases c3 : x5_1 < (l0.length : Int)
      · rw [if_pos c3] at H
        have c3b0 : decide (x5_1 < (l0.length : Int)) = true := decide_eq_true c3
        clear c3
        by_cases c4 : 0 ≤ x5_1
        · rw [if_pos c4] at H
          have c4b0 : decide (0 ≤ x5_1) = true := decide_eq_true c4
          clear c4
          have HF5 := Aside0.mk H
          clear H
          have p443 : 0 ≤ (x5_1 : Int) := of_decide_eq_true (by first | (with_reducible assumption) | assumption)
          have q443 : x5_1 < (l0.length : Int) := of_decide_eq_true (by first | (with_reducible assumption) | assumption)
          obtain ⟨ad443, e443, hx443_0⟩ := Kd.at_int HR0.out x5_1 p443 q443
          cases e443
          replace p443 := eq_true p443
          replace q443 := eq_true q443
          go_upto_if 17 with (fail)
          have H := HF5.out
          clear HF5
          by_cases c6 : (rd l0 x5_1) = x1_1
          · rw [if_pos c6] at H
            have c6b0 : ((rd l0 x5_1) == x1_1) = true := beq_iff_eq.mpr c6
            have c6b1 : ((rd l0 x5_1) != x1_1) = false := bne_eq_false_iff_eq.mpr c6
            clear c6
            (first | rw [c6b0] | (simp only [i64_w, i32_w]; rw [c6b0]) | skip)
            have H' := Aside0.mk H
            clear H
            go_wp2
            go_roundg k1
            case measure => have := HK1.out; omega
            case rel => exact ⟨(wrap64 (x1_1 + 1)), (wrap64 (x5_1 + 1)), (by first | rfl | (simp; done) | (simp [*]; done)), (by first | rfl | (simp; done) | (simp [*]; done)), H', ⟨by have := HK1.out; omega⟩, by repeat (first | exact Drawn0.refl _ | apply Drawn0.step)⟩
          · rw [if_neg c6] at H
            have c6b0 : ((rd l0 x5_1) == x1_1) = false := beq_eq_false_iff_ne.mpr c6
            have c6b1 : ((rd l0 x5_1) != x1_1) = true := bne_iff_ne.mpr c6
            (first | rw [c6b0] | (simp only [i64_w, i32_w]; rw [c6b0]) | skip)
            obtain rfl := Option.some.inj H
            go_wp2
            go_ret
            exact ⟨by first | rfl | (simp; done) | (simp [*]; done), by repeat (first | exact Drawn0.refl _ | apply Drawn0.step)⟩
        · rw [if_neg c4] at H
          exact absurd H (by simp)
      · rw [if_neg c3] at H
        have c3b0 : decide (x5_1 < (l0.length : Int)) = false := decide_eq_false c3
        clear c3
        obtain rfl := Option.some.inj H
        go_wp2
        go_ret
        exact ⟨by first | rfl | (simp; done) | (simp [*]; done), by repeat (first | exact Drawn0.refl _ | apply Drawn0.step)⟩


end Go.Proofs.Ytelmcjohkifeeaa.PA

namespace Go.Proofs.Ytelmcjohkifeeaa.PA
open Go.RowKit Go.Proofs.YtelmcjohkifeeaaW.PrintWords Go.Proofs.YtelmcjohkifeeaaW.PrintLast Go.Proofs.YtelmcjohkifeeaaW.PrintMore
attribute [local go_sem] max2_int min2_int max_two min_two max_three min_three max_four min_four   -- for this text's walks alone
set_option linter.unusedVariables false
set_option linter.unusedSimpArgs false
/-! ### laws_heldSketch: function 39 -/
def laws_heldSketch.f (k : Nat) (l0_0 : List Int) (a0_1 : Int) (a1 : Int) : Option (Int) := (laws_heldIntS.f k l0_0 a1).bind fun t445 => (if t445 < 0 then (some (-1)) else (some t445))
theorem laws_heldSketch.mono : ∀ a0 a1 a2 k, LeO (laws_heldSketch.f k a0 a1 a2) (laws_heldSketch.f (k + 1) a0 a1 a2) := by
  intro a0 a1 a2 k
  unfold laws_heldSketch.f
  repeat' first
      | (with_reducible exact laws_heldIntS.mono _ _ _)
      | (with_reducible exact LeO.refl _)
      | (with_reducible exact LeO.none _)
      | (with_reducible refine LeO.ite ?_ ?_)
      | (with_reducible refine LeO.bind ?_ (fun _ => ?_))
      | exact laws_heldIntS.mono _ _ _
      | exact LeO.none _
      | refine LeO.ite ?_ ?_
      | refine LeO.bind ?_ (fun _ => ?_)
set_option maxHeartbeats 8000000 in
set_option maxRecDepth 100000 in
theorem laws_heldSketch.calls (k : Nat) (A0_0 : Option Addr) (c0_0 : Nat) (l0_0 : List Int) (a0_1 : Int) (a1 : Int) (r : Int) (w : World) (hr0_0 : Kd.C (Kd.int .i64) w A0_0 l0_0.length l0_0) (hc0_0 : l0_0.length ≤ c0_0) (h : laws_heldSketch.f k l0_0 a0_1 a1 = some r) :
    Calls Try.prog 39 #[.agg #[.slice A0_0 l0_0.length c0_0, .int .i64 a0_1], .int .i64 a1] w fun e w' => e = .returned (.int .i64 r) ∧ Below w.heap.size w w' := by
  have hu41 := Try.underlying41
  have HR0_0 := Aside0.mk hr0_0
  have HC0_0 := Aside0.mk hc0_0
  clear hr0_0 hc0_0
  have HB := Aside0.mk (Below.refl w.heap.size w)
  have H : ((laws_heldIntS.f k l0_0 a1).bind fun t445 => (if t445 < 0 then (some (-1)) else (some t445))) = some r := h
  clear h
  replace H := Option.bind_eq_some_iff.mp H
  obtain ⟨t445, A30, H⟩ := H
  replace H : (if t445 < 0 then (some (-1)) else (some t445)) = some r := H
  have A3 := Aside0.mk A30
  clear A30
  have HF4 := Aside0.mk H
  clear H
  go_enter Try.func39, Try.ntmps39
  go_upto_if 10 with (first | ((with_reducible refine gate_dst (N := 2) rfl ?_); refine box_event ?hg (N := 2) ?hd (cs := #[.slice A0_0 l0_0.length c0_0, .int .i64 a0_1]) (t := 41) ?hr ?_; (case hd => rfl); (case hg => rfl); (case hr => first | (go_simp; done) | (go_simp; rfl)); intro gb444 hg w5 hbox hb; have n0_ := Aside0.mk (below_step (by repeat (first | (with_reducible first | exact HB.out | apply below_alloc | apply pw_below_drewN | apply below_drew1) | exact HB.out)) hb); have n1_ := Aside0.mk (hbox); have n2_ := Aside0.mk ((by rw [hg]; exact (below_size (by repeat (first | (with_reducible first | exact HB.out | apply below_alloc | apply pw_below_drewN | apply below_drew1) | exact HB.out))) : w.heap.size ≤ gb444)); have n3_ := Aside0.mk ((by rw [hg]; exact (below_size (by repeat (first | (with_reducible first | exact HB.out | apply below_alloc | apply pw_below_drewN | apply below_drew1) | exact HB.out))) : w.heap.size ≤ gb444)); clear HB; have HB := n0_; have BK444 := n1_; have GW444 := n2_; have GE444 := n3_; clear n0_ n1_ n2_ n3_; clear hb hbox hg; have hcz6_0 : w5.cell? ⟨gb444, 0, none⟩ = some (.slice A0_0 l0_0.length c0_0) := (blk_cell BK444.out 0).trans rfl; have hcz6_1 : w5.cell? ⟨gb444, 1, none⟩ = some (.int .i64 a0_1) := (blk_cell BK444.out 1).trans rfl; have hfz6_0 := blk_frozen BK444.out 0; have hfz6_1 := blk_frozen BK444.out 1) | ((with_reducible refine gate_callee (f := 92) rfl ?_); refine goesL_ (some 8) rfl rfl Try.func92 (by kernel_rfl) rfl #[.slice A0_0 l0_0.length c0_0, .int .i64 a1] rfl (by (try simp only [List.map_toArray, List.map_cons, List.map_nil]); first | done | rfl | (simp only [List.length_drop, List.length_take]; rfl)) ?_; (with_reducible refine (laws_heldIntS.calls k _ _ l0_0 a1 t445 _ ?side1 ?side2 A3.out).mono ?_); (case side1 => repeat (first | exact (Kd.C_below HR0_0.out HB.out) | (with_reducible refine Kd.C_alloc ?_ _) | (with_reducible refine Kd.C_drewN ?_ _) | (with_reducible refine Kd.C_drew ?_))); (case side2 => exact HC0_0.out); rintro e w' ⟨rfl, ⟨nd, rfl⟩⟩; refine ⟨_, rfl, ?_⟩))
  have H := HF4.out
  clear HF4
  by_cases c7 : t445 < 0
  · rw [if_pos c7] at H
    have c7b0 : decide (t445 < 0) = true := decide_eq_true c7
    clear c7
    (first | rw [c7b0] | (simp only [i64_w, i32_w]; rw [c7b0]) | skip)
    obtain rfl := Option.some.inj H
    go_wp2
    go_ret
    exact ⟨by first | rfl | (simp [errW_none, errW_some] <;> rfl) | (simp [*, errW_none, errW_some] <;> rfl), by repeat (first | (with_reducible first | exact HB.out | apply below_alloc | apply pw_below_drewN | apply below_drew1 | refine below_set ?_ GE444.out) | exact HB.out)⟩
  · rw [if_neg c7] at H
    have c7b0 : decide (t445 < 0) = false := decide_eq_false c7
    clear c7
    (first | rw [c7b0] | (simp only [i64_w, i32_w]; rw [c7b0]) | skip)
    obtain rfl := Option.some.inj H
    go_wp2
    go_ret
    exact ⟨by first | rfl | (simp [errW_none, errW_some] <;> rfl) | (simp [*, errW_none, errW_some] <;> rfl), by repeat (first | (with_reducible first | exact HB.out | apply below_alloc | apply pw_below_drewN | apply below_drew1 | refine below_set ?_ GE444.out) | exact HB.out)⟩


end Go.Proofs.Ytelmcjohkifeeaa.PA

namespace Go.Proofs.Ytelmcjohkifeeaa.PA
open Go.RowKit Go.Proofs.YtelmcjohkifeeaaW.PrintWords Go.Proofs.YtelmcjohkifeeaaW.PrintLast Go.Proofs.YtelmcjohkifeeaaW.PrintMore
attribute [local go_sem] max2_int min2_int max_two min_two max_three min_three max_four min_four   -- for this text's walks alone
set_option linter.unusedVariables false
set_option linter.unusedSimpArgs false
/-! ### laws_FnExactTouchKey: function 7 -/
def laws_FnExactTouchKey.j0 : Nat → ByteArray → Bool → List Int → Int → List Int → Int → List Int → Int → Option (Bool)
  | 0, _, _, _, _, _, _, _, _ => none
  | k + 1, x1, x49, x447000, x447001, x457000, x457001, x467000, x467001 => if x49 = true then (some false) else ((laws_markSketch.f k x467000 x467001 1).bind fun bt476 => ((laws_heldSketch.f k bt476.2 x467001 1).bind fun t478 => (if t478 < 0 then (some false) else (if t478 = bt476.1 then ((laws_toSketch.f k x447000 x447001).bind fun bt479 => ((impl_TouchKey.f k bt479.1 bt479.2 x1).bind fun bt483 => ((laws_eqSketch.f k bt483.1 bt483.2 x457000 x457001).bind fun t488 => (if t488 = true then ((laws_heldSketch.f k bt476.2 x467001 1).bind fun t489 => (if t489 < 0 then (some false) else (if t489 = bt476.1 then (some true) else (some false)))) else (some false))))) else (some false)))))
def laws_FnExactTouchKey.f (k : Nat) (l0_0 : List Int) (a0_1 : Int) (a1 : ByteArray) : Option (Bool) := if (a1.size : Int) > 1048576 then (some true) else ((laws_szSketch.f l0_0 a0_1 1048576).bind fun t447 => (if t447 < 0 then (some true) else ((laws_toSketch.f k l0_0 a0_1).bind fun bt448 => ((spec_TouchKey.f k bt448.1 bt448.2 a1).bind fun bt452 => ((laws_toSketch.f k l0_0 a0_1).bind fun bt457 => ((impl_TouchKey.f k bt457.1 bt457.2 a1).bind fun bt462 => ((laws_eqSketch.f k bt462.1 bt462.2 bt452.1 bt452.2).bind fun t467 => (if t467 = true then ((laws_toSketch.f k l0_0 a0_1).bind fun bt468 => ((laws_eqSketch.f k bt457.1 bt457.2 bt468.1 bt468.2).bind fun t472 => (if t472 = true then ((laws_markSketch.f k bt457.1 bt457.2 1).bind fun bt473 => (if bt473.1 < 0 then (laws_FnExactTouchKey.j0 k a1 true l0_0 a0_1 bt452.1 bt452.2 bt462.1 bt462.2) else ((laws_eqSketch.f k bt462.1 bt462.2 bt452.1 bt452.2).bind fun t475 => (laws_FnExactTouchKey.j0 k a1 (!t475) l0_0 a0_1 bt452.1 bt452.2 bt462.1 bt462.2)))) else (some false)))) else (some false)))))))))
theorem laws_FnExactTouchKey.mono_l : ∀ k, (∀ y0 y1 y2 y3 y4 y5 y6 y7, LeO (laws_FnExactTouchKey.j0 k y0 y1 y2 y3 y4 y5 y6 y7) (laws_FnExactTouchKey.j0 (k + 1) y0 y1 y2 y3 y4 y5 y6 y7))
  | 0 => fun _ _ _ _ _ _ _ _ r h => by simp [laws_FnExactTouchKey.j0] at h
  | k + 1 => by
    have ih0 := laws_FnExactTouchKey.mono_l k
    · intro y0 y1 y2 y3 y4 y5 y6 y7
      unfold laws_FnExactTouchKey.j0
      repeat' first
      | (with_reducible exact ih0 _ _ _ _ _ _ _ _)
      | (with_reducible exact impl_TouchKey.mono _ _ _ _)
      | (with_reducible exact laws_eqSketch.mono _ _ _ _ _)
      | (with_reducible exact laws_heldSketch.mono _ _ _ _)
      | (with_reducible exact laws_markSketch.mono _ _ _ _)
      | (with_reducible exact laws_toSketch.mono _ _ _)
      | (with_reducible exact spec_TouchKey.mono _ _ _ _)
      | (with_reducible exact LeO.refl _)
      | (with_reducible exact LeO.none _)
      | (with_reducible refine LeO.ite ?_ ?_)
      | (with_reducible refine LeO.bind ?_ (fun _ => ?_))
      | exact ih0 _ _ _ _ _ _ _ _
      | exact impl_TouchKey.mono _ _ _ _
      | exact laws_eqSketch.mono _ _ _ _ _
      | exact laws_heldSketch.mono _ _ _ _
      | exact laws_markSketch.mono _ _ _ _
      | exact laws_toSketch.mono _ _ _
      | exact spec_TouchKey.mono _ _ _ _
      | exact LeO.none _
      | refine LeO.ite ?_ ?_
      | refine LeO.bind ?_ (fun _ => ?_)
theorem laws_FnExactTouchKey.mono : ∀ a0 a1 a2 k, LeO (laws_FnExactTouchKey.f k a0 a1 a2) (laws_FnExactTouchKey.f (k + 1) a0 a1 a2) := by
  intro a0 a1 a2 k
  have ih0 := laws_FnExactTouchKey.mono_l k
  unfold laws_FnExactTouchKey.f
  repeat' first
      | (with_reducible exact ih0 _ _ _ _ _ _ _ _)
      | (with_reducible exact impl_TouchKey.mono _ _ _ _)
      | (with_reducible exact laws_eqSketch.mono _ _ _ _ _)
      | (with_reducible exact laws_heldSketch.mono _ _ _ _)
      | (with_reducible exact laws_markSketch.mono _ _ _ _)
      | (with_reducible exact laws_toSketch.mono _ _ _)
      | (with_reducible exact spec_TouchKey.mono _ _ _ _)
      | (with_reducible exact LeO.refl _)
      | (with_reducible exact LeO.none _)
      | (with_reducible refine LeO.ite ?_ ?_)
      | (with_reducible refine LeO.bind ?_ (fun _ => ?_))
      | exact ih0 _ _ _ _ _ _ _ _
      | exact impl_TouchKey.mono _ _ _ _
      | exact laws_eqSketch.mono _ _ _ _ _
      | exact laws_heldSketch.mono _ _ _ _
      | exact laws_markSketch.mono _ _ _ _
      | exact laws_toSketch.mono _ _ _
      | exact spec_TouchKey.mono _ _ _ _
      | exact LeO.none _
      | refine LeO.ite ?_ ?_
      | refine LeO.bind ?_ (fun _ => ?_)
set_option maxHeartbeats 8000000 in
set_option maxRecDepth 100000 in
theorem laws_FnExactTouchKey.calls (k : Nat) (A0_0 : Option Addr) (c0_0 : Nat) (l0_0 : List Int) (a0_1 : Int) (a1 : ByteArray) (r : Bool) (w : World) (hr0_0 : Kd.C (Kd.int .i64) w A0_0 l0_0.length l0_0) (hc0_0 : l0_0.length ≤ c0_0) (h : laws_FnExactTouchKey.f k l0_0 a0_1 a1 = some r) :
    Calls Try.prog 7 #[.agg #[.slice A0_0 l0_0.length c0_0, .int .i64 a0_1], .string a1] w fun e w' => e = .returned (.bool r) ∧ Below w.heap.size w w' := by
  have hu38 := Try.underlying38
  have hu41 := Try.underlying41
  have HR0_0 := Aside0.mk hr0_0
  have HC0_0 := Aside0.mk hc0_0
  clear hr0_0 hc0_0
  have HB := Aside0.mk (Below.refl w.heap.size w)
  have H : (if (a1.size : Int) > 1048576 then (some true) else ((laws_szSketch.f l0_0 a0_1 1048576).bind fun t447 => (if t447 < 0 then (some true) else ((laws_toSketch.f k l0_0 a0_1).bind fun bt448 => ((spec_TouchKey.f k bt448.1 bt448.2 a1).bind fun bt452 => ((laws_toSketch.f k l0_0 a0_1).bind fun bt457 => ((impl_TouchKey.f k bt457.1 bt457.2 a1).bind fun bt462 => ((laws_eqSketch.f k bt462.1 bt462.2 bt452.1 bt452.2).bind fun t467 => (if t467 = true then ((laws_toSketch.f k l0_0 a0_1).bind fun bt468 => ((laws_eqSketch.f k bt457.1 bt457.2 bt468.1 bt468.2).bind fun t472 => (if t472 = true then ((laws_markSketch.f k bt457.1 bt457.2 1).bind fun bt473 => (if bt473.1 < 0 then (laws_FnExactTouchKey.j0 k a1 true l0_0 a0_1 bt452.1 bt452.2 bt462.1 bt462.2) else ((laws_eqSketch.f k bt462.1 bt462.2 bt452.1 bt452.2).bind fun t475 => (laws_FnExactTouchKey.j0 k a1 (!t475) l0_0 a0_1 bt452.1 bt452.2 bt462.1 bt462.2)))) else (some false)))) else (some false)))))))))) = some r := h
  clear h
  have HF3 := Aside0.mk H
  clear H
  go_enter Try.func7, Try.ntmps7
  go_upto_if 15 with (first | ((with_reducible refine gate_dst (N := 2) rfl ?_); refine box_event ?hg (N := 2) ?hd (cs := #[.slice A0_0 l0_0.length c0_0, .int .i64 a0_1]) (t := 38) ?hr ?_; (case hd => rfl); (case hg => rfl); (case hr => first | (go_simp; done) | (go_simp; rfl)); intro gb446 hg w4 hbox hb; have n0_ := Aside0.mk (below_step (by repeat (first | (with_reducible first | exact HB.out | apply below_alloc | apply pw_below_drewN | apply below_drew1) | exact HB.out)) hb); have n1_ := Aside0.mk (hbox); have n2_ := Aside0.mk ((by rw [hg]; exact (below_size (by repeat (first | (with_reducible first | exact HB.out | apply below_alloc | apply pw_below_drewN | apply below_drew1) | exact HB.out))) : w.heap.size ≤ gb446)); have n3_ := Aside0.mk ((by rw [hg]; exact (below_size (by repeat (first | (with_reducible first | exact HB.out | apply below_alloc | apply pw_below_drewN | apply below_drew1) | exact HB.out))) : w.heap.size ≤ gb446)); clear HB; have HB := n0_; have BK446 := n1_; have GW446 := n2_; have GE446 := n3_; clear n0_ n1_ n2_ n3_; clear hb hbox hg))
  have H := HF3.out
  clear HF3
  by_cases c5 : (a1.size : Int) > 1048576
  · rw [if_pos c5] at H
    have c5b0 : decide (1048576 < (a1.size : Int)) = true := decide_eq_true c5
    have c5b1 : decide (1048576 < a1.size) = true := decide_eq_true (by omega)
    clear c5
    (first | rw [c5b0] | (simp only [i64_w, i32_w]; rw [c5b0]) | skip)
    obtain rfl := Option.some.inj H
    go_wp2
    go_ret
    exact ⟨by first | rfl | (simp [errW_none, errW_some] <;> rfl) | (simp [*, errW_none, errW_some] <;> rfl), by repeat (first | (with_reducible first | exact HB.out | apply below_alloc | apply pw_below_drewN | apply below_drew1 | refine below_set ?_ GE446.out) | exact HB.out)⟩
  · rw [if_neg c5] at H
    have c5b0 : decide (1048576 < (a1.size : Int)) = false := decide_eq_false c5
    have c5b1 : decide (1048576 < a1.size) = false := decide_eq_false (by omega)
    clear c5
    (first | rw [c5b0] | (simp only [i64_w, i32_w]; rw [c5b0]) | skip)
    replace H := Option.bind_eq_some_iff.mp H
    obtain ⟨t447, A60, H⟩ := H
    replace H : (if t447 < 0 then (some true) else ((laws_toSketch.f k l0_0 a0_1).bind fun bt448 => ((spec_TouchKey.f k bt448.1 bt448.2 a1).bind fun bt452 => ((laws_toSketch.f k l0_0 a0_1).bind fun bt457 => ((impl_TouchKey.f k bt457.1 bt457.2 a1).bind fun bt462 => ((laws_eqSketch.f k bt462.1 bt462.2 bt452.1 bt452.2).bind fun t467 => (if t467 = true then ((laws_toSketch.f k l0_0 a0_1).bind fun bt468 => ((laws_eqSketch.f k bt457.1 bt457.2 bt468.1 bt468.2).bind fun t472 => (if t472 = true then ((laws_markSketch.f k bt457.1 bt457.2 1).bind fun bt473 => (if bt473.1 < 0 then (laws_FnExactTouchKey.j0 k a1 true l0_0 a0_1 bt452.1 bt452.2 bt462.1 bt462.2) else ((laws_eqSketch.f k bt462.1 bt462.2 bt452.1 bt452.2).bind fun t475 => (laws_FnExactTouchKey.j0 k a1 (!t475) l0_0 a0_1 bt452.1 bt452.2 bt462.1 bt462.2)))) else (some false)))) else (some false)))))))) = some r := H
    have A6 := Aside0.mk A60
    clear A60
    have HF7 := Aside0.mk H
    clear H
    have hcz8_0 : w4.cell? ⟨gb446, 0, none⟩ = some (.slice A0_0 l0_0.length c0_0) := (blk_cell BK446.out 0).trans rfl
    have hcz8_1 : w4.cell? ⟨gb446, 1, none⟩ = some (.int .i64 a0_1) := (blk_cell BK446.out 1).trans rfl
    have hfz8_0 := blk_frozen BK446.out 0
    have hfz8_1 := blk_frozen BK446.out 1
    go_upto_if 20 with (first | ((with_reducible refine gate_callee (f := 24) rfl ?_); refine goesL_ (some 18) rfl rfl Try.func24 (by kernel_rfl) rfl #[.agg #[.slice A0_0 l0_0.length c0_0, .int .i64 a0_1], .int .i64 1048576] rfl (by (try simp only [List.map_toArray, List.map_cons, List.map_nil]); first | done | rfl | (simp only [List.length_drop, List.length_take]; rfl)) ?_; (with_reducible refine (laws_szSketch.calls _ _ l0_0 a0_1 1048576 t447 _ ?side1 ?side2 A6.out).mono ?_); (case side1 => repeat (first | exact (Kd.C_below HR0_0.out HB.out) | (with_reducible refine Kd.C_alloc ?_ _) | (with_reducible refine Kd.C_drewN ?_ _) | (with_reducible refine Kd.C_drew ?_))); (case side2 => exact HC0_0.out); rintro e w9 ⟨rfl, hb⟩; refine ⟨_, rfl, ?_⟩; have n0_ := Aside0.mk (blk_below (g := gb446) (o := .cells #[.slice A0_0 l0_0.length c0_0, .int .i64 a0_1] 38 (0, 0)) (by (with_reducible repeat (first | refine blk_drewN ?_ _ | refine blk_drew ?_ | refine blk_alloc ?_ _)); exact BK446.out) hb); have n1_ := Aside0.mk (below_step (by repeat (first | (with_reducible first | exact HB.out | apply below_alloc | apply pw_below_drewN | apply below_drew1 | refine below_set ?_ GE446.out) | exact HB.out)) hb); clear BK446; clear HB; have BK446 := n0_; have HB := n1_; clear n0_ n1_; (try clear hb); (try clear hb2); (try clear hk); (try clear hi)))
    have H := HF7.out
    clear HF7
    by_cases c10 : t447 < 0
    · rw [if_pos c10] at H
      have c10b0 : decide (t447 < 0) = true := decide_eq_true c10
      clear c10
      (first | rw [c10b0] | (simp only [i64_w, i32_w]; rw [c10b0]) | skip)
      obtain rfl := Option.some.inj H
      go_wp2
      go_ret
      exact ⟨by first | rfl | (simp [errW_none, errW_some] <;> rfl) | (simp [*, errW_none, errW_some] <;> rfl), by repeat (first | (with_reducible first | exact HB.out | apply below_alloc | apply pw_below_drewN | apply below_drew1 | refine below_set ?_ GE446.out) | exact HB.out)⟩
    · rw [if_neg c10] at H
      have c10b0 : decide (t447 < 0) = false := decide_eq_false c10
      clear c10
      (first | rw [c10b0] | (simp only [i64_w, i32_w]; rw [c10b0]) | skip)
      replace H := Option.bind_eq_some_iff.mp H
      obtain ⟨⟨t448, t451⟩, A110, H⟩ := H
      replace H : ((spec_TouchKey.f k t448 t451 a1).bind fun bt452 => ((laws_toSketch.f k l0_0 a0_1).bind fun bt457 => ((impl_TouchKey.f k bt457.1 bt457.2 a1).bind fun bt462 => ((laws_eqSketch.f k bt462.1 bt462.2 bt452.1 bt452.2).bind fun t467 => (if t467 = true then ((laws_toSketch.f k l0_0 a0_1).bind fun bt468 => ((laws_eqSketch.f k bt457.1 bt457.2 bt468.1 bt468.2).bind fun t472 => (if t472 = true then ((laws_markSketch.f k bt457.1 bt457.2 1).bind fun bt473 => (if bt473.1 < 0 then (laws_FnExactTouchKey.j0 k a1 true l0_0 a0_1 bt452.1 bt452.2 bt462.1 bt462.2) else ((laws_eqSketch.f k bt462.1 bt462.2 bt452.1 bt452.2).bind fun t475 => (laws_FnExactTouchKey.j0 k a1 (!t475) l0_0 a0_1 bt452.1 bt452.2 bt462.1 bt462.2)))) else (some false)))) else (some false)))))) = some r := H
      have A11 := Aside0.mk A110
      clear A110
      replace H := Option.bind_eq_some_iff.mp H
      obtain ⟨⟨t452, t455⟩, A120, H⟩ := H
      replace H : ((laws_toSketch.f k l0_0 a0_1).bind fun bt457 => ((impl_TouchKey.f k bt457.1 bt457.2 a1).bind fun bt462 => ((laws_eqSketch.f k bt462.1 bt462.2 t452 t455).bind fun t467 => (if t467 = true then ((laws_toSketch.f k l0_0 a0_1).bind fun bt468 => ((laws_eqSketch.f k bt457.1 bt457.2 bt468.1 bt468.2).bind fun t472 => (if t472 = true then ((laws_markSketch.f k bt457.1 bt457.2 1).bind fun bt473 => (if bt473.1 < 0 then (laws_FnExactTouchKey.j0 k a1 true l0_0 a0_1 t452 t455 bt462.1 bt462.2) else ((laws_eqSketch.f k bt462.1 bt462.2 t452 t455).bind fun t475 => (laws_FnExactTouchKey.j0 k a1 (!t475) l0_0 a0_1 t452 t455 bt462.1 bt462.2)))) else (some false)))) else (some false))))) = some r := H
      have A12 := Aside0.mk A120
      clear A120
      replace H := Option.bind_eq_some_iff.mp H
      obtain ⟨⟨t457, t460⟩, A130, H⟩ := H
      replace H : ((impl_TouchKey.f k t457 t460 a1).bind fun bt462 => ((laws_eqSketch.f k bt462.1 bt462.2 t452 t455).bind fun t467 => (if t467 = true then ((laws_toSketch.f k l0_0 a0_1).bind fun bt468 => ((laws_eqSketch.f k t457 t460 bt468.1 bt468.2).bind fun t472 => (if t472 = true then ((laws_markSketch.f k t457 t460 1).bind fun bt473 => (if bt473.1 < 0 then (laws_FnExactTouchKey.j0 k a1 true l0_0 a0_1 t452 t455 bt462.1 bt462.2) else ((laws_eqSketch.f k bt462.1 bt462.2 t452 t455).bind fun t475 => (laws_FnExactTouchKey.j0 k a1 (!t475) l0_0 a0_1 t452 t455 bt462.1 bt462.2)))) else (some false)))) else (some false)))) = some r := H
      have A13 := Aside0.mk A130
      clear A130
      replace H := Option.bind_eq_some_iff.mp H
      obtain ⟨⟨t462, t465⟩, A140, H⟩ := H
      replace H : ((laws_eqSketch.f k t462 t465 t452 t455).bind fun t467 => (if t467 = true then ((laws_toSketch.f k l0_0 a0_1).bind fun bt468 => ((laws_eqSketch.f k t457 t460 bt468.1 bt468.2).bind fun t472 => (if t472 = true then ((laws_markSketch.f k t457 t460 1).bind fun bt473 => (if bt473.1 < 0 then (laws_FnExactTouchKey.j0 k a1 true l0_0 a0_1 t452 t455 t462 t465) else ((laws_eqSketch.f k t462 t465 t452 t455).bind fun t475 => (laws_FnExactTouchKey.j0 k a1 (!t475) l0_0 a0_1 t452 t455 t462 t465)))) else (some false)))) else (some false))) = some r := H
      have A14 := Aside0.mk A140
      clear A140
      replace H := Option.bind_eq_some_iff.mp H
      obtain ⟨t467, A150, H⟩ := H
      replace H : (if t467 = true then ((laws_toSketch.f k l0_0 a0_1).bind fun bt468 => ((laws_eqSketch.f k t457 t460 bt468.1 bt468.2).bind fun t472 => (if t472 = true then ((laws_markSketch.f k t457 t460 1).bind fun bt473 => (if bt473.1 < 0 then (laws_FnExactTouchKey.j0 k a1 true l0_0 a0_1 t452 t455 t462 t465) else ((laws_eqSketch.f k t462 t465 t452 t455).bind fun t475 => (laws_FnExactTouchKey.j0 k a1 (!t475) l0_0 a0_1 t452 t455 t462 t465)))) else (some false)))) else (some false)) = some r := H
      have A15 := Aside0.mk A150
      clear A150
      have HF16 := Aside0.mk H
      clear H
      have hcz17_0 : w9.cell? ⟨gb446, 0, none⟩ = some (.slice A0_0 l0_0.length c0_0) := (blk_cell BK446.out 0).trans rfl
      have hcz17_1 : w9.cell? ⟨gb446, 1, none⟩ = some (.int .i64 a0_1) := (blk_cell BK446.out 1).trans rfl
      have hfz17_0 := blk_frozen BK446.out 0
      have hfz17_1 := blk_frozen BK446.out 1
      go_upto_if 33 with (first | ((with_reducible refine gate_callee (f := 26) rfl ?_); refine goesL_ (some 22) rfl rfl Try.func26 (by kernel_rfl) rfl #[.agg #[.slice A0_0 l0_0.length c0_0, .int .i64 a0_1]] rfl (by (try simp only [List.map_toArray, List.map_cons, List.map_nil]); first | done | rfl | (simp only [List.length_drop, List.length_take]; rfl)) ?_; (with_reducible refine (laws_toSketch.calls k _ _ l0_0 a0_1 t448 t451 _ ?side1 ?side2 A11.out).mono ?_); (case side1 => repeat (first | exact (Kd.C_below HR0_0.out HB.out) | (with_reducible refine Kd.C_alloc ?_ _) | (with_reducible refine Kd.C_drewN ?_ _) | (with_reducible refine Kd.C_drew ?_))); (case side2 => exact HC0_0.out); rintro e w18 ⟨v449, rfl, ho0, hb⟩; refine ⟨_, rfl, ?_⟩; have n0_ := Aside0.mk (Kd.R_lower ho0 (below_size (by repeat (first | (with_reducible first | exact HB.out | apply below_alloc | apply pw_below_drewN | apply below_drew1 | refine below_set ?_ GE446.out) | exact HB.out)))); have n1_ := Aside0.mk (blk_below (g := gb446) (o := .cells #[.slice A0_0 l0_0.length c0_0, .int .i64 a0_1] 38 (0, 0)) (by (with_reducible repeat (first | refine blk_drewN ?_ _ | refine blk_drew ?_ | refine blk_alloc ?_ _)); exact BK446.out) hb); have n2_ := Aside0.mk (below_step (by repeat (first | (with_reducible first | exact HB.out | apply below_alloc | apply pw_below_drewN | apply below_drew1 | refine below_set ?_ GE446.out) | exact HB.out)) hb); clear BK446; clear HB; have HO450 := n0_; have BK446 := n1_; have HB := n2_; clear n0_ n1_ n2_; (try clear hb); (try clear hb2); (try clear hk); (try clear hi); (try clear ho0); obtain ⟨Ao19, co19, eo19⟩ := Kd.R_slice HO450.out; subst eo19) | ((with_reducible refine gate_callee (f := 36) rfl ?_); refine goesL_ (some 24) rfl rfl Try.func36 (by kernel_rfl) rfl #[.agg #[.slice Ao19 t448.length co19, .int .i64 t451], .string a1] rfl (by (try simp only [List.map_toArray, List.map_cons, List.map_nil]); first | done | rfl | (simp only [List.length_drop, List.length_take]; rfl)) ?_; (with_reducible refine (spec_TouchKey.calls k _ _ t448 t451 a1 t452 t455 _ ?side1 ?side2 A12.out).mono ?_); (case side1 => repeat (first | exact (Kd.R_reads' HO450.out).2.2 | (with_reducible refine Kd.C_alloc ?_ _) | (with_reducible refine Kd.C_drewN ?_ _) | (with_reducible refine Kd.C_drew ?_))); (case side2 => exact (Kd.R_reads' HO450.out).2.1); rintro e w20 ⟨v453, rfl, ho0, hb⟩; refine ⟨_, rfl, ?_⟩; have n0_ := Aside0.mk (Kd.R_elder' (by (with_reducible repeat (first | apply Kd.R_alloc | apply Kd.R_drewN | apply Kd.R_drew)); exact HO450.out) (Kd.R_base ho0) hb); have n1_ := Aside0.mk (Kd.R_lower (Kd.R_new' ho0 (Kd.R_lt (by (with_reducible repeat (first | apply Kd.R_alloc | apply Kd.R_drewN | apply Kd.R_drew)); exact HO450.out))) (below_size (by repeat (first | (with_reducible first | exact HB.out | apply below_alloc | apply pw_below_drewN | apply below_drew1 | refine below_set ?_ GE446.out) | exact HB.out)))); have n2_ := Aside0.mk (blk_below (g := gb446) (o := .cells #[.slice A0_0 l0_0.length c0_0, .int .i64 a0_1] 38 (0, 0)) (by (with_reducible repeat (first | refine blk_drewN ?_ _ | refine blk_drew ?_ | refine blk_alloc ?_ _)); exact BK446.out) hb); have n3_ := Aside0.mk (below_step (by repeat (first | (with_reducible first | exact HB.out | apply below_alloc | apply pw_below_drewN | apply below_drew1 | refine below_set ?_ GE446.out) | exact HB.out)) hb); clear HO450; clear BK446; clear HB; have HO450 := n0_; have HO454 := n1_; have BK446 := n2_; have HB := n3_; clear n0_ n1_ n2_ n3_; (try clear hb); (try clear hb2); (try clear hk); (try clear hi); (try clear ho0)) | ((with_reducible refine gate_dst (N := 6) rfl ?_); refine box_event ?hg (N := 6) ?hd (cs := #[.slice none 0 0, .int .i64 0]) (t := 41) ?hr ?_; (case hd => rfl); (case hg => rfl); (case hr => first | (go_simp; done) | (go_simp; rfl)); intro gb456 hg w21 hbox hb; have n0_ := Aside0.mk (Kd.R_below (by (with_reducible repeat (first | apply Kd.R_alloc | apply Kd.R_drewN | apply Kd.R_drew)); exact HO450.out) hb); have n1_ := Aside0.mk (Kd.R_below (by (with_reducible repeat (first | apply Kd.R_alloc | apply Kd.R_drewN | apply Kd.R_drew)); exact HO454.out) hb); have n2_ := Aside0.mk (blk_below (g := gb446) (o := .cells #[.slice A0_0 l0_0.length c0_0, .int .i64 a0_1] 38 (0, 0)) (by (with_reducible repeat (first | refine blk_drewN ?_ _ | refine blk_drew ?_ | refine blk_alloc ?_ _)); exact BK446.out) hb); have n3_ := Aside0.mk (below_step (by repeat (first | (with_reducible first | exact HB.out | apply below_alloc | apply pw_below_drewN | apply below_drew1 | refine below_set ?_ GE446.out) | exact HB.out)) hb); have n4_ := Aside0.mk (hbox); have n5_ := Aside0.mk ((by rw [hg]; exact (below_size (by repeat (first | (with_reducible first | exact HB.out | apply below_alloc | apply pw_below_drewN | apply below_drew1 | refine below_set ?_ GE446.out) | exact HB.out))) : w.heap.size ≤ gb456)); have n6_ := Aside0.mk ((by rw [hg]; exact (below_size (by repeat (first | (with_reducible first | exact HB.out | apply below_alloc | apply pw_below_drewN | apply below_drew1 | refine below_set ?_ GE446.out) | exact HB.out))) : w.heap.size ≤ gb456)); have n7_ := Aside0.mk ((by rw [hg]; exact Nat.ne_of_lt (blk_lt (g := gb446) (o := .cells #[.slice A0_0 l0_0.length c0_0, .int .i64 a0_1] 38 (0, 0)) (by (with_reducible repeat (first | refine blk_drewN ?_ _ | refine blk_drew ?_ | refine blk_alloc ?_ _)); exact BK446.out)) : gb446 ≠ gb456)); have n8_ := Aside0.mk ((by rw [hg]; exact Nat.ne_of_gt (blk_lt (g := gb446) (o := .cells #[.slice A0_0 l0_0.length c0_0, .int .i64 a0_1] 38 (0, 0)) (by (with_reducible repeat (first | refine blk_drewN ?_ _ | refine blk_drew ?_ | refine blk_alloc ?_ _)); exact BK446.out)) : gb456 ≠ gb446)); clear HO450; clear HO454; clear BK446; clear HB; have HO450 := n0_; have HO454 := n1_; have BK446 := n2_; have HB := n3_; have BK456 := n4_; have GW456 := n5_; have GE456 := n6_; have NB446_456 := n7_; have NB456_446 := n8_; clear n0_ n1_ n2_ n3_ n4_ n5_ n6_ n7_ n8_; clear hb hbox hg; obtain ⟨Ao22, co22, eo22⟩ := Kd.R_slice HO454.out; subst eo22; have hnb23 := NB456_446.out; have hnc23 := NB446_456.out; have hcz24_0 : w21.cell? ⟨gb456, 0, none⟩ = some (.slice none 0 0) := (blk_cell BK456.out 0).trans rfl; have hcz24_1 : w21.cell? ⟨gb456, 1, none⟩ = some (.int .i64 0) := (blk_cell BK456.out 1).trans rfl; have hfz24_0 := blk_frozen BK456.out 0; have hfz24_1 := blk_frozen BK456.out 1; have hcz25_0 : w21.cell? ⟨gb446, 0, none⟩ = some (.slice A0_0 l0_0.length c0_0) := (blk_cell BK446.out 0).trans rfl; have hcz25_1 : w21.cell? ⟨gb446, 1, none⟩ = some (.int .i64 a0_1) := (blk_cell BK446.out 1).trans rfl; have hfz25_0 := blk_frozen BK446.out 0; have hfz25_1 := blk_frozen BK446.out 1) | ((with_reducible refine gate_callee (f := 26) rfl ?_); refine goesL_ (some 26) rfl rfl Try.func26 (by kernel_rfl) rfl #[.agg #[.slice A0_0 l0_0.length c0_0, .int .i64 a0_1]] rfl (by (try simp only [List.map_toArray, List.map_cons, List.map_nil]); first | done | rfl | (simp only [List.length_drop, List.length_take]; rfl)) ?_; (with_reducible refine (laws_toSketch.calls k _ _ l0_0 a0_1 t457 t460 _ ?side1 ?side2 A13.out).mono ?_); (case side1 => exact Kd.C_below HR0_0.out (by repeat (first | (with_reducible first | exact HB.out | apply below_alloc | apply pw_below_drewN | apply below_drew1 | refine below_set ?_ GE446.out | refine below_set ?_ GE456.out) | exact HB.out))); (case side2 => exact HC0_0.out); rintro e w26 ⟨v458, rfl, ho0, hb⟩; refine ⟨_, rfl, ?_⟩; have n0_ := Aside0.mk (Kd.R_elder' (by (with_reducible repeat (first | apply Kd.R_alloc | apply Kd.R_drewN | apply Kd.R_drew)); exact (Kd.R_mono (Kd.R_far (p := ⟨gb456, 1, none⟩) (Kd.R_far (p := ⟨gb456, 0, none⟩) (Kd.R_types HO450.out BK456.out (by decide)) (fun _ hk => hk.2) (.slice Ao22 t452.length co22)) (fun _ hk => hk.2) (.int .i64 t455)) (fun _ h_ => h_.1))) (Kd.R_base ho0) hb); have n1_ := Aside0.mk (Kd.R_elder' (by (with_reducible repeat (first | apply Kd.R_alloc | apply Kd.R_drewN | apply Kd.R_drew)); exact (Kd.R_mono (Kd.R_far (p := ⟨gb456, 1, none⟩) (Kd.R_far (p := ⟨gb456, 0, none⟩) (Kd.R_types HO454.out BK456.out (by decide)) (fun _ hk => hk.2) (.slice Ao22 t452.length co22)) (fun _ hk => hk.2) (.int .i64 t455)) (fun _ h_ => h_.1))) (Kd.R_base ho0) hb); have n2_ := Aside0.mk (Kd.R_lower (Kd.R_new' (Kd.R_new' ho0 (Kd.R_lt (by (with_reducible repeat (first | apply Kd.R_alloc | apply Kd.R_drewN | apply Kd.R_drew)); exact (Kd.R_mono (Kd.R_far (p := ⟨gb456, 1, none⟩) (Kd.R_far (p := ⟨gb456, 0, none⟩) (Kd.R_types HO450.out BK456.out (by decide)) (fun _ hk => hk.2) (.slice Ao22 t452.length co22)) (fun _ hk => hk.2) (.int .i64 t455)) (fun _ h_ => h_.1))))) (Kd.R_lt (by (with_reducible repeat (first | apply Kd.R_alloc | apply Kd.R_drewN | apply Kd.R_drew)); exact (Kd.R_mono (Kd.R_far (p := ⟨gb456, 1, none⟩) (Kd.R_far (p := ⟨gb456, 0, none⟩) (Kd.R_types HO454.out BK456.out (by decide)) (fun _ hk => hk.2) (.slice Ao22 t452.length co22)) (fun _ hk => hk.2) (.int .i64 t455)) (fun _ h_ => h_.1))))) (below_size (by repeat (first | (with_reducible first | exact HB.out | apply below_alloc | apply pw_below_drewN | apply below_drew1 | refine below_set ?_ GE446.out | refine below_set ?_ GE456.out) | exact HB.out)))); have n3_ := Aside0.mk (blk_below (g := gb446) (o := .cells #[.slice A0_0 l0_0.length c0_0, .int .i64 a0_1] 38 (0, 0)) (by (with_reducible repeat (first | refine blk_drewN ?_ _ | refine blk_drew ?_ | refine blk_alloc ?_ _)); refine blk_far ?_ NB446_456.out _; (with_reducible repeat (first | refine blk_drewN ?_ _ | refine blk_drew ?_ | refine blk_alloc ?_ _)); refine blk_far ?_ NB446_456.out _; (with_reducible repeat (first | refine blk_drewN ?_ _ | refine blk_drew ?_ | refine blk_alloc ?_ _)); exact BK446.out) hb); have n4_ := Aside0.mk (blk_below (g := gb456) (o := .cells #[.slice Ao22 t452.length co22, .int .i64 t455] 41 (0, 0)) (by (with_reducible repeat (first | refine blk_drewN ?_ _ | refine blk_drew ?_ | refine blk_alloc ?_ _)); refine blk_put (cs := #[.slice Ao22 t452.length co22, .int .i64 0]) ?_ 1 _ rfl; (with_reducible repeat (first | refine blk_drewN ?_ _ | refine blk_drew ?_ | refine blk_alloc ?_ _)); refine blk_put (cs := #[.slice none 0 0, .int .i64 0]) ?_ 0 _ rfl; (with_reducible repeat (first | refine blk_drewN ?_ _ | refine blk_drew ?_ | refine blk_alloc ?_ _)); exact BK456.out) hb); have n5_ := Aside0.mk (below_step (by repeat (first | (with_reducible first | exact HB.out | apply below_alloc | apply pw_below_drewN | apply below_drew1 | refine below_set ?_ GE446.out | refine below_set ?_ GE456.out) | exact HB.out)) hb); clear HO450; clear HO454; clear BK446; clear BK456; clear HB; have HO450 := n0_; have HO454 := n1_; have HO459 := n2_; have BK446 := n3_; have BK456 := n4_; have HB := n5_; clear n0_ n1_ n2_ n3_ n4_ n5_; (try clear hb); (try clear hb2); (try clear hk); (try clear hi); (try clear ho0)) | ((with_reducible refine gate_dst (N := 7) rfl ?_); refine box_event ?hg (N := 7) ?hd (cs := #[.slice none 0 0, .int .i64 0]) (t := 41) ?hr ?_; (case hd => rfl); (case hg => rfl); (case hr => first | (go_simp; done) | (go_simp; rfl)); intro gb461 hg w27 hbox hb; have n0_ := Aside0.mk (Kd.R_below (by (with_reducible repeat (first | apply Kd.R_alloc | apply Kd.R_drewN | apply Kd.R_drew)); exact HO450.out) hb); have n1_ := Aside0.mk (Kd.R_below (by (with_reducible repeat (first | apply Kd.R_alloc | apply Kd.R_drewN | apply Kd.R_drew)); exact HO454.out) hb); have n2_ := Aside0.mk (Kd.R_below (by (with_reducible repeat (first | apply Kd.R_alloc | apply Kd.R_drewN | apply Kd.R_drew)); exact HO459.out) hb); have n3_ := Aside0.mk (blk_below (g := gb446) (o := .cells #[.slice A0_0 l0_0.length c0_0, .int .i64 a0_1] 38 (0, 0)) (by (with_reducible repeat (first | refine blk_drewN ?_ _ | refine blk_drew ?_ | refine blk_alloc ?_ _)); exact BK446.out) hb); have n4_ := Aside0.mk (blk_below (g := gb456) (o := .cells #[.slice Ao22 t452.length co22, .int .i64 t455] 41 (0, 0)) (by (with_reducible repeat (first | refine blk_drewN ?_ _ | refine blk_drew ?_ | refine blk_alloc ?_ _)); exact BK456.out) hb); have n5_ := Aside0.mk (below_step (by repeat (first | (with_reducible first | exact HB.out | apply below_alloc | apply pw_below_drewN | apply below_drew1 | refine below_set ?_ GE446.out | refine below_set ?_ GE456.out) | exact HB.out)) hb); have n6_ := Aside0.mk (hbox); have n7_ := Aside0.mk ((by rw [hg]; exact (below_size (by repeat (first | (with_reducible first | exact HB.out | apply below_alloc | apply pw_below_drewN | apply below_drew1 | refine below_set ?_ GE446.out | refine below_set ?_ GE456.out) | exact HB.out))) : w.heap.size ≤ gb461)); have n8_ := Aside0.mk ((by rw [hg]; exact (below_size (by repeat (first | (with_reducible first | exact HB.out | apply below_alloc | apply pw_below_drewN | apply below_drew1 | refine below_set ?_ GE446.out | refine below_set ?_ GE456.out) | exact HB.out))) : w.heap.size ≤ gb461)); have n9_ := Aside0.mk ((by rw [hg]; exact Nat.ne_of_lt (blk_lt (g := gb446) (o := .cells #[.slice A0_0 l0_0.length c0_0, .int .i64 a0_1] 38 (0, 0)) (by (with_reducible repeat (first | refine blk_drewN ?_ _ | refine blk_drew ?_ | refine blk_alloc ?_ _)); exact BK446.out)) : gb446 ≠ gb461)); have n10_ := Aside0.mk ((by rw [hg]; exact Nat.ne_of_gt (blk_lt (g := gb446) (o := .cells #[.slice A0_0 l0_0.length c0_0, .int .i64 a0_1] 38 (0, 0)) (by (with_reducible repeat (first | refine blk_drewN ?_ _ | refine blk_drew ?_ | refine blk_alloc ?_ _)); exact BK446.out)) : gb461 ≠ gb446)); have n11_ := Aside0.mk ((by rw [hg]; exact Nat.ne_of_lt (blk_lt (g := gb456) (o := .cells #[.slice Ao22 t452.length co22, .int .i64 t455] 41 (0, 0)) (by (with_reducible repeat (first | refine blk_drewN ?_ _ | refine blk_drew ?_ | refine blk_alloc ?_ _)); exact BK456.out)) : gb456 ≠ gb461)); have n12_ := Aside0.mk ((by rw [hg]; exact Nat.ne_of_gt (blk_lt (g := gb456) (o := .cells #[.slice Ao22 t452.length co22, .int .i64 t455] 41 (0, 0)) (by (with_reducible repeat (first | refine blk_drewN ?_ _ | refine blk_drew ?_ | refine blk_alloc ?_ _)); exact BK456.out)) : gb461 ≠ gb456)); clear HO450; clear HO454; clear HO459; clear BK446; clear BK456; clear HB; have HO450 := n0_; have HO454 := n1_; have HO459 := n2_; have BK446 := n3_; have BK456 := n4_; have HB := n5_; have BK461 := n6_; have GW461 := n7_; have GE461 := n8_; have NB446_461 := n9_; have NB461_446 := n10_; have NB456_461 := n11_; have NB461_456 := n12_; clear n0_ n1_ n2_ n3_ n4_ n5_ n6_ n7_ n8_ n9_ n10_ n11_ n12_; clear hb hbox hg; obtain ⟨Ao28, co28, eo28⟩ := Kd.R_slice HO459.out; subst eo28; have hnb29 := NB461_446.out; have hnc29 := NB446_461.out; have hnb30 := NB461_456.out; have hnc30 := NB456_461.out; have hcz31_0 : w27.cell? ⟨gb461, 0, none⟩ = some (.slice none 0 0) := (blk_cell BK461.out 0).trans rfl; have hcz31_1 : w27.cell? ⟨gb461, 1, none⟩ = some (.int .i64 0) := (blk_cell BK461.out 1).trans rfl; have hfz31_0 := blk_frozen BK461.out 0; have hfz31_1 := blk_frozen BK461.out 1) | ((with_reducible refine gate_callee (f := 37) rfl ?_); refine goesL_ (some 29) rfl rfl Try.func37 (by kernel_rfl) rfl #[.agg #[.slice Ao28 t457.length co28, .int .i64 t460], .string a1] rfl (by (try simp only [List.map_toArray, List.map_cons, List.map_nil]); first | done | rfl | (simp only [List.length_drop, List.length_take]; rfl)) ?_; (with_reducible refine (impl_TouchKey.calls k _ _ t457 t460 a1 t462 t465 _ ?side1 ?side2 A14.out).mono ?_); (case side1 => refine (Kd.R_reads' (e := 3) (base := w.heap.size) (ok := fun k_ => ((True ∧ some k_ ≠ (.slice Ao19 t448.length co19 : Value).ownBlock) ∧ some k_ ≠ (.slice Ao22 t452.length co22 : Value).ownBlock)) (n := t457.length) (c := co28) ?_).2.2; exact (by (with_reducible repeat (first | apply Kd.R_alloc | apply Kd.R_drewN | apply Kd.R_drew)); exact (Kd.R_mono (Kd.R_far (p := ⟨gb461, 1, none⟩) (Kd.R_far (p := ⟨gb461, 0, none⟩) (Kd.R_types HO459.out BK461.out (by decide)) (fun _ hk => hk.2) (.slice Ao28 t457.length co28)) (fun _ hk => hk.2) (.int .i64 t460)) (fun _ h_ => h_.1)))); (case side2 => exact (Kd.R_reads' HO459.out).2.1); rintro e w32 ⟨v463, rfl, ho0, hb⟩; refine ⟨_, rfl, ?_⟩; have n0_ := Aside0.mk (Kd.R_elder' (by (with_reducible repeat (first | apply Kd.R_alloc | apply Kd.R_drewN | apply Kd.R_drew)); exact (Kd.R_mono (Kd.R_far (p := ⟨gb461, 1, none⟩) (Kd.R_far (p := ⟨gb461, 0, none⟩) (Kd.R_types HO450.out BK461.out (by decide)) (fun _ hk => hk.2) (.slice Ao28 t457.length co28)) (fun _ hk => hk.2) (.int .i64 t460)) (fun _ h_ => h_.1))) (Kd.R_base ho0) hb); have n1_ := Aside0.mk (Kd.R_elder' (by (with_reducible repeat (first | apply Kd.R_alloc | apply Kd.R_drewN | apply Kd.R_drew)); exact (Kd.R_mono (Kd.R_far (p := ⟨gb461, 1, none⟩) (Kd.R_far (p := ⟨gb461, 0, none⟩) (Kd.R_types HO454.out BK461.out (by decide)) (fun _ hk => hk.2) (.slice Ao28 t457.length co28)) (fun _ hk => hk.2) (.int .i64 t460)) (fun _ h_ => h_.1))) (Kd.R_base ho0) hb); have n2_ := Aside0.mk (Kd.R_elder' (by (with_reducible repeat (first | apply Kd.R_alloc | apply Kd.R_drewN | apply Kd.R_drew)); exact (Kd.R_mono (Kd.R_far (p := ⟨gb461, 1, none⟩) (Kd.R_far (p := ⟨gb461, 0, none⟩) (Kd.R_types HO459.out BK461.out (by decide)) (fun _ hk => hk.2) (.slice Ao28 t457.length co28)) (fun _ hk => hk.2) (.int .i64 t460)) (fun _ h_ => h_.1))) (Kd.R_base ho0) hb); have n3_ := Aside0.mk (Kd.R_lower (Kd.R_new' (Kd.R_new' (Kd.R_new' ho0 (Kd.R_lt (by (with_reducible repeat (first | apply Kd.R_alloc | apply Kd.R_drewN | apply Kd.R_drew)); exact (Kd.R_mono (Kd.R_far (p := ⟨gb461, 1, none⟩) (Kd.R_far (p := ⟨gb461, 0, none⟩) (Kd.R_types HO450.out BK461.out (by decide)) (fun _ hk => hk.2) (.slice Ao28 t457.length co28)) (fun _ hk => hk.2) (.int .i64 t460)) (fun _ h_ => h_.1))))) (Kd.R_lt (by (with_reducible repeat (first | apply Kd.R_alloc | apply Kd.R_drewN | apply Kd.R_drew)); exact (Kd.R_mono (Kd.R_far (p := ⟨gb461, 1, none⟩) (Kd.R_far (p := ⟨gb461, 0, none⟩) (Kd.R_types HO454.out BK461.out (by decide)) (fun _ hk => hk.2) (.slice Ao28 t457.length co28)) (fun _ hk => hk.2) (.int .i64 t460)) (fun _ h_ => h_.1))))) (Kd.R_lt (by (with_reducible repeat (first | apply Kd.R_alloc | apply Kd.R_drewN | apply Kd.R_drew)); exact (Kd.R_mono (Kd.R_far (p := ⟨gb461, 1, none⟩) (Kd.R_far (p := ⟨gb461, 0, none⟩) (Kd.R_types HO459.out BK461.out (by decide)) (fun _ hk => hk.2) (.slice Ao28 t457.length co28)) (fun _ hk => hk.2) (.int .i64 t460)) (fun _ h_ => h_.1))))) (below_size (by repeat (first | (with_reducible first | exact HB.out | apply below_alloc | apply pw_below_drewN | apply below_drew1 | refine below_set ?_ GE446.out | refine below_set ?_ GE456.out | refine below_set ?_ GE461.out) | exact HB.out)))); have n4_ := Aside0.mk (blk_below (g := gb446) (o := .cells #[.slice A0_0 l0_0.length c0_0, .int .i64 a0_1] 38 (0, 0)) (by (with_reducible repeat (first | refine blk_drewN ?_ _ | refine blk_drew ?_ | refine blk_alloc ?_ _)); refine blk_far ?_ NB446_461.out _; (with_reducible repeat (first | refine blk_drewN ?_ _ | refine blk_drew ?_ | refine blk_alloc ?_ _)); refine blk_far ?_ NB446_461.out _; (with_reducible repeat (first | refine blk_drewN ?_ _ | refine blk_drew ?_ | refine blk_alloc ?_ _)); exact BK446.out) hb); have n5_ := Aside0.mk (blk_below (g := gb456) (o := .cells #[.slice Ao22 t452.length co22, .int .i64 t455] 41 (0, 0)) (by (with_reducible repeat (first | refine blk_drewN ?_ _ | refine blk_drew ?_ | refine blk_alloc ?_ _)); refine blk_far ?_ NB456_461.out _; (with_reducible repeat (first | refine blk_drewN ?_ _ | refine blk_drew ?_ | refine blk_alloc ?_ _)); refine blk_far ?_ NB456_461.out _; (with_reducible repeat (first | refine blk_drewN ?_ _ | refine blk_drew ?_ | refine blk_alloc ?_ _)); exact BK456.out) hb); have n6_ := Aside0.mk (blk_below (g := gb461) (o := .cells #[.slice Ao28 t457.length co28, .int .i64 t460] 41 (0, 0)) (by (with_reducible repeat (first | refine blk_drewN ?_ _ | refine blk_drew ?_ | refine blk_alloc ?_ _)); refine blk_put (cs := #[.slice Ao28 t457.length co28, .int .i64 0]) ?_ 1 _ rfl; (with_reducible repeat (first | refine blk_drewN ?_ _ | refine blk_drew ?_ | refine blk_alloc ?_ _)); refine blk_put (cs := #[.slice none 0 0, .int .i64 0]) ?_ 0 _ rfl; (with_reducible repeat (first | refine blk_drewN ?_ _ | refine blk_drew ?_ | refine blk_alloc ?_ _)); exact BK461.out) hb); have n7_ := Aside0.mk (below_step (by repeat (first | (with_reducible first | exact HB.out | apply below_alloc | apply pw_below_drewN | apply below_drew1 | refine below_set ?_ GE446.out | refine below_set ?_ GE456.out | refine below_set ?_ GE461.out) | exact HB.out)) hb); clear HO450; clear HO454; clear HO459; clear BK446; clear BK456; clear BK461; clear HB; have HO450 := n0_; have HO454 := n1_; have HO459 := n2_; have HO464 := n3_; have BK446 := n4_; have BK456 := n5_; have BK461 := n6_; have HB := n7_; clear n0_ n1_ n2_ n3_ n4_ n5_ n6_ n7_; (try clear hb); (try clear hb2); (try clear hk); (try clear hi); (try clear ho0)) | ((with_reducible refine gate_dst (N := 8) rfl ?_); refine box_event ?hg (N := 8) ?hd (cs := #[.slice none 0 0, .int .i64 0]) (t := 41) ?hr ?_; (case hd => rfl); (case hg => rfl); (case hr => first | (go_simp; done) | (go_simp; rfl)); intro gb466 hg w33 hbox hb; have n0_ := Aside0.mk (Kd.R_below (by (with_reducible repeat (first | apply Kd.R_alloc | apply Kd.R_drewN | apply Kd.R_drew)); exact HO450.out) hb); have n1_ := Aside0.mk (Kd.R_below (by (with_reducible repeat (first | apply Kd.R_alloc | apply Kd.R_drewN | apply Kd.R_drew)); exact HO454.out) hb); have n2_ := Aside0.mk (Kd.R_below (by (with_reducible repeat (first | apply Kd.R_alloc | apply Kd.R_drewN | apply Kd.R_drew)); exact HO459.out) hb); have n3_ := Aside0.mk (Kd.R_below (by (with_reducible repeat (first | apply Kd.R_alloc | apply Kd.R_drewN | apply Kd.R_drew)); exact HO464.out) hb); have n4_ := Aside0.mk (blk_below (g := gb446) (o := .cells #[.slice A0_0 l0_0.length c0_0, .int .i64 a0_1] 38 (0, 0)) (by (with_reducible repeat (first | refine blk_drewN ?_ _ | refine blk_drew ?_ | refine blk_alloc ?_ _)); exact BK446.out) hb); have n5_ := Aside0.mk (blk_below (g := gb456) (o := .cells #[.slice Ao22 t452.length co22, .int .i64 t455] 41 (0, 0)) (by (with_reducible repeat (first | refine blk_drewN ?_ _ | refine blk_drew ?_ | refine blk_alloc ?_ _)); exact BK456.out) hb); have n6_ := Aside0.mk (blk_below (g := gb461) (o := .cells #[.slice Ao28 t457.length co28, .int .i64 t460] 41 (0, 0)) (by (with_reducible repeat (first | refine blk_drewN ?_ _ | refine blk_drew ?_ | refine blk_alloc ?_ _)); exact BK461.out) hb); have n7_ := Aside0.mk (below_step (by repeat (first | (with_reducible first | exact HB.out | apply below_alloc | apply pw_below_drewN | apply below_drew1 | refine below_set ?_ GE446.out | refine below_set ?_ GE456.out | refine below_set ?_ GE461.out) | exact HB.out)) hb); have n8_ := Aside0.mk (hbox); have n9_ := Aside0.mk ((by rw [hg]; exact (below_size (by repeat (first | (with_reducible first | exact HB.out | apply below_alloc | apply pw_below_drewN | apply below_drew1 | refine below_set ?_ GE446.out | refine below_set ?_ GE456.out | refine below_set ?_ GE461.out) | exact HB.out))) : w.heap.size ≤ gb466)); have n10_ := Aside0.mk ((by rw [hg]; exact (below_size (by repeat (first | (with_reducible first | exact HB.out | apply below_alloc | apply pw_below_drewN | apply below_drew1 | refine below_set ?_ GE446.out | refine below_set ?_ GE456.out | refine below_set ?_ GE461.out) | exact HB.out))) : w.heap.size ≤ gb466)); have n11_ := Aside0.mk ((by rw [hg]; exact Nat.ne_of_lt (blk_lt (g := gb446) (o := .cells #[.slice A0_0 l0_0.length c0_0, .int .i64 a0_1] 38 (0, 0)) (by (with_reducible repeat (first | refine blk_drewN ?_ _ | refine blk_drew ?_ | refine blk_alloc ?_ _)); exact BK446.out)) : gb446 ≠ gb466)); have n12_ := Aside0.mk ((by rw [hg]; exact Nat.ne_of_gt (blk_lt (g := gb446) (o := .cells #[.slice A0_0 l0_0.length c0_0, .int .i64 a0_1] 38 (0, 0)) (by (with_reducible repeat (first | refine blk_drewN ?_ _ | refine blk_drew ?_ | refine blk_alloc ?_ _)); exact BK446.out)) : gb466 ≠ gb446)); have n13_ := Aside0.mk ((by rw [hg]; exact Nat.ne_of_lt (blk_lt (g := gb456) (o := .cells #[.slice Ao22 t452.length co22, .int .i64 t455] 41 (0, 0)) (by (with_reducible repeat (first | refine blk_drewN ?_ _ | refine blk_drew ?_ | refine blk_alloc ?_ _)); exact BK456.out)) : gb456 ≠ gb466)); have n14_ := Aside0.mk ((by rw [hg]; exact Nat.ne_of_gt (blk_lt (g := gb456) (o := .cells #[.slice Ao22 t452.length co22, .int .i64 t455] 41 (0, 0)) (by (with_reducible repeat (first | refine blk_drewN ?_ _ | refine blk_drew ?_ | refine blk_alloc ?_ _)); exact BK456.out)) : gb466 ≠ gb456)); have n15_ := Aside0.mk ((by rw [hg]; exact Nat.ne_of_lt (blk_lt (g := gb461) (o := .cells #[.slice Ao28 t457.length co28, .int .i64 t460] 41 (0, 0)) (by (with_reducible repeat (first | refine blk_drewN ?_ _ | refine blk_drew ?_ | refine blk_alloc ?_ _)); exact BK461.out)) : gb461 ≠ gb466)); have n16_ := Aside0.mk ((by rw [hg]; exact Nat.ne_of_gt (blk_lt (g := gb461) (o := .cells #[.slice Ao28 t457.length co28, .int .i64 t460] 41 (0, 0)) (by (with_reducible repeat (first | refine blk_drewN ?_ _ | refine blk_drew ?_ | refine blk_alloc ?_ _)); exact BK461.out)) : gb466 ≠ gb461)); clear HO450; clear HO454; clear HO459; clear HO464; clear BK446; clear BK456; clear BK461; clear HB; have HO450 := n0_; have HO454 := n1_; have HO459 := n2_; have HO464 := n3_; have BK446 := n4_; have BK456 := n5_; have BK461 := n6_; have HB := n7_; have BK466 := n8_; have GW466 := n9_; have GE466 := n10_; have NB446_466 := n11_; have NB466_446 := n12_; have NB456_466 := n13_; have NB466_456 := n14_; have NB461_466 := n15_; have NB466_461 := n16_; clear n0_ n1_ n2_ n3_ n4_ n5_ n6_ n7_ n8_ n9_ n10_ n11_ n12_ n13_ n14_ n15_ n16_; clear hb hbox hg; obtain ⟨Ao34, co34, eo34⟩ := Kd.R_slice HO464.out; subst eo34; have hnb35 := NB466_446.out; have hnc35 := NB446_466.out; have hnb36 := NB466_456.out; have hnc36 := NB456_466.out; have hnb37 := NB466_461.out; have hnc37 := NB461_466.out; have hcz38_0 : w33.cell? ⟨gb466, 0, none⟩ = some (.slice none 0 0) := (blk_cell BK466.out 0).trans rfl; have hcz38_1 : w33.cell? ⟨gb466, 1, none⟩ = some (.int .i64 0) := (blk_cell BK466.out 1).trans rfl; have hfz38_0 := blk_frozen BK466.out 0; have hfz38_1 := blk_frozen BK466.out 1; have hcz39_0 : w33.cell? ⟨gb456, 0, none⟩ = some (.slice Ao22 t452.length co22) := (blk_cell BK456.out 0).trans rfl; have hcz39_1 : w33.cell? ⟨gb456, 1, none⟩ = some (.int .i64 t455) := (blk_cell BK456.out 1).trans rfl; have hfz39_0 := blk_frozen BK456.out 0; have hfz39_1 := blk_frozen BK456.out 1) | ((with_reducible refine gate_callee (f := 28) rfl ?_); refine goesL_ (some 32) rfl rfl Try.func28 (by kernel_rfl) rfl #[.agg #[.slice Ao34 t462.length co34, .int .i64 t465], .agg #[.slice Ao22 t452.length co22, .int .i64 t455]] rfl (by (try simp only [List.map_toArray, List.map_cons, List.map_nil]); first | done | rfl | (simp only [List.length_drop, List.length_take]; rfl)) ?_; (with_reducible refine (laws_eqSketch.calls k _ _ t462 t465 _ _ t452 t455 t467 _ ?side1 ?side2 ?side3 ?side4 A15.out).mono ?_); (case side1 => refine (Kd.R_reads' (e := 3) (base := w.heap.size) (ok := fun k_ => (((True ∧ some k_ ≠ (.slice Ao19 t448.length co19 : Value).ownBlock) ∧ some k_ ≠ (.slice Ao22 t452.length co22 : Value).ownBlock) ∧ some k_ ≠ (.slice Ao28 t457.length co28 : Value).ownBlock)) (n := t462.length) (c := co34) ?_).2.2; exact (by (with_reducible repeat (first | apply Kd.R_alloc | apply Kd.R_drewN | apply Kd.R_drew)); exact (Kd.R_mono (Kd.R_far (p := ⟨gb466, 1, none⟩) (Kd.R_far (p := ⟨gb466, 0, none⟩) (Kd.R_types HO464.out BK466.out (by decide)) (fun _ hk => hk.2) (.slice Ao34 t462.length co34)) (fun _ hk => hk.2) (.int .i64 t465)) (fun _ h_ => h_.1)))); (case side2 => exact (Kd.R_reads' HO464.out).2.1); (case side3 => refine (Kd.R_reads' (e := 3) (base := w.heap.size) (ok := fun k_ => (((True ∧ some k_ ≠ (.slice Ao19 t448.length co19 : Value).ownBlock) ∧ some k_ ≠ (.slice Ao28 t457.length co28 : Value).ownBlock) ∧ some k_ ≠ (.slice Ao34 t462.length co34 : Value).ownBlock)) (n := t452.length) (c := co22) ?_).2.2; exact (by (with_reducible repeat (first | apply Kd.R_alloc | apply Kd.R_drewN | apply Kd.R_drew)); exact (Kd.R_mono (Kd.R_far (p := ⟨gb466, 1, none⟩) (Kd.R_far (p := ⟨gb466, 0, none⟩) (Kd.R_types HO454.out BK466.out (by decide)) (fun _ hk => hk.2) (.slice Ao34 t462.length co34)) (fun _ hk => hk.2) (.int .i64 t465)) (fun _ h_ => h_.1)))); (case side4 => exact (Kd.R_reads' HO454.out).2.1); rintro e w40 ⟨rfl, hb⟩; refine ⟨_, rfl, ?_⟩; have n0_ := Aside0.mk (Kd.R_below (by (with_reducible repeat (first | apply Kd.R_alloc | apply Kd.R_drewN | apply Kd.R_drew)); exact (Kd.R_mono (Kd.R_far (p := ⟨gb466, 1, none⟩) (Kd.R_far (p := ⟨gb466, 0, none⟩) (Kd.R_types HO450.out BK466.out (by decide)) (fun _ hk => hk.2) (.slice Ao34 t462.length co34)) (fun _ hk => hk.2) (.int .i64 t465)) (fun _ h_ => h_.1))) hb); have n1_ := Aside0.mk (Kd.R_below (by (with_reducible repeat (first | apply Kd.R_alloc | apply Kd.R_drewN | apply Kd.R_drew)); exact (Kd.R_mono (Kd.R_far (p := ⟨gb466, 1, none⟩) (Kd.R_far (p := ⟨gb466, 0, none⟩) (Kd.R_types HO454.out BK466.out (by decide)) (fun _ hk => hk.2) (.slice Ao34 t462.length co34)) (fun _ hk => hk.2) (.int .i64 t465)) (fun _ h_ => h_.1))) hb); have n2_ := Aside0.mk (Kd.R_below (by (with_reducible repeat (first | apply Kd.R_alloc | apply Kd.R_drewN | apply Kd.R_drew)); exact (Kd.R_mono (Kd.R_far (p := ⟨gb466, 1, none⟩) (Kd.R_far (p := ⟨gb466, 0, none⟩) (Kd.R_types HO459.out BK466.out (by decide)) (fun _ hk => hk.2) (.slice Ao34 t462.length co34)) (fun _ hk => hk.2) (.int .i64 t465)) (fun _ h_ => h_.1))) hb); have n3_ := Aside0.mk (Kd.R_below (by (with_reducible repeat (first | apply Kd.R_alloc | apply Kd.R_drewN | apply Kd.R_drew)); exact (Kd.R_mono (Kd.R_far (p := ⟨gb466, 1, none⟩) (Kd.R_far (p := ⟨gb466, 0, none⟩) (Kd.R_types HO464.out BK466.out (by decide)) (fun _ hk => hk.2) (.slice Ao34 t462.length co34)) (fun _ hk => hk.2) (.int .i64 t465)) (fun _ h_ => h_.1))) hb); have n4_ := Aside0.mk (blk_below (g := gb446) (o := .cells #[.slice A0_0 l0_0.length c0_0, .int .i64 a0_1] 38 (0, 0)) (by (with_reducible repeat (first | refine blk_drewN ?_ _ | refine blk_drew ?_ | refine blk_alloc ?_ _)); refine blk_far ?_ NB446_466.out _; (with_reducible repeat (first | refine blk_drewN ?_ _ | refine blk_drew ?_ | refine blk_alloc ?_ _)); refine blk_far ?_ NB446_466.out _; (with_reducible repeat (first | refine blk_drewN ?_ _ | refine blk_drew ?_ | refine blk_alloc ?_ _)); exact BK446.out) hb); have n5_ := Aside0.mk (blk_below (g := gb456) (o := .cells #[.slice Ao22 t452.length co22, .int .i64 t455] 41 (0, 0)) (by (with_reducible repeat (first | refine blk_drewN ?_ _ | refine blk_drew ?_ | refine blk_alloc ?_ _)); refine blk_far ?_ NB456_466.out _; (with_reducible repeat (first | refine blk_drewN ?_ _ | refine blk_drew ?_ | refine blk_alloc ?_ _)); refine blk_far ?_ NB456_466.out _; (with_reducible repeat (first | refine blk_drewN ?_ _ | refine blk_drew ?_ | refine blk_alloc ?_ _)); exact BK456.out) hb); have n6_ := Aside0.mk (blk_below (g := gb461) (o := .cells #[.slice Ao28 t457.length co28, .int .i64 t460] 41 (0, 0)) (by (with_reducible repeat (first | refine blk_drewN ?_ _ | refine blk_drew ?_ | refine blk_alloc ?_ _)); refine blk_far ?_ NB461_466.out _; (with_reducible repeat (first | refine blk_drewN ?_ _ | refine blk_drew ?_ | refine blk_alloc ?_ _)); refine blk_far ?_ NB461_466.out _; (with_reducible repeat (first | refine blk_drewN ?_ _ | refine blk_drew ?_ | refine blk_alloc ?_ _)); exact BK461.out) hb); have n7_ := Aside0.mk (blk_below (g := gb466) (o := .cells #[.slice Ao34 t462.length co34, .int .i64 t465] 41 (0, 0)) (by (with_reducible repeat (first | refine blk_drewN ?_ _ | refine blk_drew ?_ | refine blk_alloc ?_ _)); refine blk_put (cs := #[.slice Ao34 t462.length co34, .int .i64 0]) ?_ 1 _ rfl; (with_reducible repeat (first | refine blk_drewN ?_ _ | refine blk_drew ?_ | refine blk_alloc ?_ _)); refine blk_put (cs := #[.slice none 0 0, .int .i64 0]) ?_ 0 _ rfl; (with_reducible repeat (first | refine blk_drewN ?_ _ | refine blk_drew ?_ | refine blk_alloc ?_ _)); exact BK466.out) hb); have n8_ := Aside0.mk (below_step (by repeat (first | (with_reducible first | exact HB.out | apply below_alloc | apply pw_below_drewN | apply below_drew1 | refine below_set ?_ GE446.out | refine below_set ?_ GE456.out | refine below_set ?_ GE461.out | refine below_set ?_ GE466.out) | exact HB.out)) hb); clear HO450; clear HO454; clear HO459; clear HO464; clear BK446; clear BK456; clear BK461; clear BK466; clear HB; have HO450 := n0_; have HO454 := n1_; have HO459 := n2_; have HO464 := n3_; have BK446 := n4_; have BK456 := n5_; have BK461 := n6_; have BK466 := n7_; have HB := n8_; clear n0_ n1_ n2_ n3_ n4_ n5_ n6_ n7_ n8_; (try clear hb); (try clear hb2); (try clear hk); (try clear hi)))
      have H := HF16.out
      clear HF16
      by_cases c41 : t467 = true
      · subst c41
        have H1 : ((laws_toSketch.f k l0_0 a0_1).bind fun bt468 => ((laws_eqSketch.f k t457 t460 bt468.1 bt468.2).bind fun t472 => (if t472 = true then ((laws_markSketch.f k t457 t460 1).bind fun bt473 => (if bt473.1 < 0 then (laws_FnExactTouchKey.j0 k a1 true l0_0 a0_1 t452 t455 t462 t465) else ((laws_eqSketch.f k t462 t465 t452 t455).bind fun t475 => (laws_FnExactTouchKey.j0 k a1 (!t475) l0_0 a0_1 t452 t455 t462 t465)))) else (some false)))) = some r := by rw [if_pos rfl] at H; exact H
        clear H
        have H := H1
        clear H1
        replace H := Option.bind_eq_some_iff.mp H
        obtain ⟨⟨t468, t471⟩, A420, H⟩ := H
        replace H : ((laws_eqSketch.f k t457 t460 t468 t471).bind fun t472 => (if t472 = true then ((laws_markSketch.f k t457 t460 1).bind fun bt473 => (if bt473.1 < 0 then (laws_FnExactTouchKey.j0 k a1 true l0_0 a0_1 t452 t455 t462 t465) else ((laws_eqSketch.f k t462 t465 t452 t455).bind fun t475 => (laws_FnExactTouchKey.j0 k a1 (!t475) l0_0 a0_1 t452 t455 t462 t465)))) else (some false))) = some r := H
        have A42 := Aside0.mk A420
        clear A420
        replace H := Option.bind_eq_some_iff.mp H
        obtain ⟨t472, A430, H⟩ := H
        replace H : (if t472 = true then ((laws_markSketch.f k t457 t460 1).bind fun bt473 => (if bt473.1 < 0 then (laws_FnExactTouchKey.j0 k a1 true l0_0 a0_1 t452 t455 t462 t465) else ((laws_eqSketch.f k t462 t465 t452 t455).bind fun t475 => (laws_FnExactTouchKey.j0 k a1 (!t475) l0_0 a0_1 t452 t455 t462 t465)))) else (some false)) = some r := H
        have A43 := Aside0.mk A430
        clear A430
        have HF44 := Aside0.mk H
        clear H
        try go_wp2
        have n0_ := Aside0.mk (Kd.R_drew HO450.out)
        have n1_ := Aside0.mk (Kd.R_drew HO454.out)
        have n2_ := Aside0.mk (Kd.R_drew HO459.out)
        have n3_ := Aside0.mk (Kd.R_drew HO464.out)
        have n4_ := Aside0.mk (blk_drew BK446.out)
        have n5_ := Aside0.mk (blk_drew BK456.out)
        have n6_ := Aside0.mk (blk_drew BK461.out)
        have n7_ := Aside0.mk (blk_drew BK466.out)
        have n8_ := Aside0.mk (below_drew1 HB.out)
        clear HO450
        clear HO454
        clear HO459
        clear HO464
        clear BK446
        clear BK456
        clear BK461
        clear BK466
        clear HB
        have HO450 := n0_
        have HO454 := n1_
        have HO459 := n2_
        have HO464 := n3_
        have BK446 := n4_
        have BK456 := n5_
        have BK461 := n6_
        have BK466 := n7_
        have HB := n8_
        clear n0_ n1_ n2_ n3_ n4_ n5_ n6_ n7_ n8_
        refine start_ (n := 5) (S := fun w' => w'.cell? ⟨gb461, 0, none⟩ = some (.slice Ao28 t457.length co28) ∧ w'.cell? ⟨gb461, 1, none⟩ = some (.int .i64 t460) ∧ w'.cell? ⟨gb446, 0, none⟩ = some (.slice A0_0 l0_0.length c0_0) ∧ w'.cell? ⟨gb446, 1, none⟩ = some (.int .i64 a0_1)) (ds := []) #[false, false, false, false, false] (by kernel_rfl) rfl rfl ⟨(blk_cell BK461.out 0).trans rfl, (blk_cell BK461.out 1).trans rfl, (blk_cell BK446.out 0).trans rfl, (blk_cell BK446.out 1).trans rfl⟩ (fun hHeld => ?_)
        generalize w40.drew = w45 at HO450 HO454 HO459 HO464 BK446 BK456 BK461 BK466 HB hHeld ⊢
        refine take_ (i := 0) (N := some 34) (v := ?_) (a' := ?_) #[true, false, false, false, false] rfl rfl (by kernel_rfl) (fun _ _ _ h => h) (Or.inl ⟨by rfl, ?_⟩) hHeld ?_ ?_
        rotate_left
        · rintro w' ⟨s0, s1, s2, s3⟩
          (try simp only [add_plain] at s0 s1 s2 s3)
          go_simp
          with_reducible rfl
        rotate_left
        · simp only [Act.put, List.setIfInBounds_toArray, List.set_cons_zero, List.set_cons_succ, i64_w, i32_w]
          rfl
        refine take_ (i := 1) (N := some 35) (v := ?_) (a' := ?_) #[true, true, false, false, false] rfl rfl (by kernel_rfl) (fun _ _ _ h => h) (Or.inl ⟨by rfl, ?_⟩) hHeld ?_ ?_
        rotate_left
        · rintro w' ⟨s0, s1, s2, s3⟩
          (try simp only [add_plain] at s0 s1 s2 s3)
          go_simp
          with_reducible rfl
        rotate_left
        · simp only [Act.put, List.setIfInBounds_toArray, List.set_cons_zero, List.set_cons_succ, i64_w, i32_w]
          rfl
        refine one_ (i := 2) (N := some 36) #[true, true, true, false, false] rfl rfl (by kernel_rfl) (by decide) (fun K hK => ?_)
        refine goes_ Try.func26 (by kernel_rfl) rfl #[.agg #[.slice A0_0 l0_0.length c0_0, .int .i64 a0_1]] (by rfl) rfl rfl (by (try simp only [List.map_toArray, List.map_cons, List.map_nil]); first | done | rfl | (simp only [List.length_drop, List.length_take]; rfl)) ?_
        with_reducible refine (laws_toSketch.calls k _ _ l0_0 a0_1 t468 t471 _ ?side1 ?side2 A42.out).mono ?_
        (case side1 => repeat (first | exact (Kd.C_below HR0_0.out HB.out) | (with_reducible refine Kd.C_alloc ?_ _) | (with_reducible refine Kd.C_drewN ?_ _) | (with_reducible refine Kd.C_drew ?_)))
        (case side2 => exact HC0_0.out)
        rintro e w46 ⟨v469, rfl, ho0, hb⟩
        refine ⟨_, rfl, ?_⟩
        have n0_ := Aside0.mk (Kd.R_elder' (by (with_reducible repeat (first | apply Kd.R_alloc | apply Kd.R_drewN | apply Kd.R_drew)); exact HO450.out) (Kd.R_base ho0) hb)
        have n1_ := Aside0.mk (Kd.R_elder' (by (with_reducible repeat (first | apply Kd.R_alloc | apply Kd.R_drewN | apply Kd.R_drew)); exact HO454.out) (Kd.R_base ho0) hb)
        have n2_ := Aside0.mk (Kd.R_elder' (by (with_reducible repeat (first | apply Kd.R_alloc | apply Kd.R_drewN | apply Kd.R_drew)); exact HO459.out) (Kd.R_base ho0) hb)
        have n3_ := Aside0.mk (Kd.R_elder' (by (with_reducible repeat (first | apply Kd.R_alloc | apply Kd.R_drewN | apply Kd.R_drew)); exact HO464.out) (Kd.R_base ho0) hb)
        have n4_ := Aside0.mk (Kd.R_lower (Kd.R_new' (Kd.R_new' (Kd.R_new' (Kd.R_new' ho0 (Kd.R_lt (by (with_reducible repeat (first | apply Kd.R_alloc | apply Kd.R_drewN | apply Kd.R_drew)); exact HO450.out))) (Kd.R_lt (by (with_reducible repeat (first | apply Kd.R_alloc | apply Kd.R_drewN | apply Kd.R_drew)); exact HO454.out))) (Kd.R_lt (by (with_reducible repeat (first | apply Kd.R_alloc | apply Kd.R_drewN | apply Kd.R_drew)); exact HO459.out))) (Kd.R_lt (by (with_reducible repeat (first | apply Kd.R_alloc | apply Kd.R_drewN | apply Kd.R_drew)); exact HO464.out))) (below_size (by repeat (first | (with_reducible first | exact HB.out | apply below_alloc | apply pw_below_drewN | apply below_drew1 | refine below_set ?_ GE446.out | refine below_set ?_ GE456.out | refine below_set ?_ GE461.out | refine below_set ?_ GE466.out) | exact HB.out))))
        have n5_ := Aside0.mk (blk_below (g := gb446) (o := .cells #[.slice A0_0 l0_0.length c0_0, .int .i64 a0_1] 38 (0, 0)) (by (with_reducible repeat (first | refine blk_drewN ?_ _ | refine blk_drew ?_ | refine blk_alloc ?_ _)); exact BK446.out) hb)
        have n6_ := Aside0.mk (blk_below (g := gb456) (o := .cells #[.slice Ao22 t452.length co22, .int .i64 t455] 41 (0, 0)) (by (with_reducible repeat (first | refine blk_drewN ?_ _ | refine blk_drew ?_ | refine blk_alloc ?_ _)); exact BK456.out) hb)
        have n7_ := Aside0.mk (blk_below (g := gb461) (o := .cells #[.slice Ao28 t457.length co28, .int .i64 t460] 41 (0, 0)) (by (with_reducible repeat (first | refine blk_drewN ?_ _ | refine blk_drew ?_ | refine blk_alloc ?_ _)); exact BK461.out) hb)
        have n8_ := Aside0.mk (blk_below (g := gb466) (o := .cells #[.slice Ao34 t462.length co34, .int .i64 t465] 41 (0, 0)) (by (with_reducible repeat (first | refine blk_drewN ?_ _ | refine blk_drew ?_ | refine blk_alloc ?_ _)); exact BK466.out) hb)
        have n9_ := Aside0.mk (below_step (by repeat (first | (with_reducible first | exact HB.out | apply below_alloc | apply pw_below_drewN | apply below_drew1 | refine below_set ?_ GE446.out | refine below_set ?_ GE456.out | refine below_set ?_ GE461.out | refine below_set ?_ GE466.out) | exact HB.out)) hb)
        clear HO450
        clear HO454
        clear HO459
        clear HO464
        clear BK446
        clear BK456
        clear BK461
        clear BK466
        clear HB
        have HO450 := n0_
        have HO454 := n1_
        have HO459 := n2_
        have HO464 := n3_
        have HO470 := n4_
        have BK446 := n5_
        have BK456 := n6_
        have BK461 := n7_
        have BK466 := n8_
        have HB := n9_
        clear n0_ n1_ n2_ n3_ n4_ n5_ n6_ n7_ n8_ n9_
        (try clear hb)
        (try clear hb2)
        (try clear hk)
        (try clear hi)
        (try clear ho0)
        obtain ⟨Ao47, co47, eo47⟩ := Kd.R_slice HO470.out
        (first | subst eo47 | (injection eo47 with f1_ f2_ f3_; have f4_ := f1_.symm; have f5_ := f3_.symm; clear f1_ f2_ f3_; subst f4_; subst f5_))
        refine hK.out _ _ ⟨(blk_cell BK461.out 0).trans rfl, (blk_cell BK461.out 1).trans rfl, (blk_cell BK446.out 0).trans rfl, (blk_cell BK446.out 1).trans rfl⟩ (fun hHeld => ?_)
        clear hK K
        refine norm_ (a' := ?_) ?_ ?_
        rotate_left
        · show Act.put _ (some 36) _ = _
          simp only [Act.put, List.setIfInBounds_toArray, List.set_cons_zero, List.set_cons_succ, i64_w, i32_w]
          rfl
        refine one_ (i := 3) (N := some 37) #[true, true, true, true, false] rfl rfl (by kernel_rfl) (by decide) (fun K hK => ?_)
        refine goes_ Try.func28 (by kernel_rfl) rfl #[.agg #[.slice Ao28 t457.length co28, .int .i64 t460], .agg #[.slice Ao47 t468.length co47, .int .i64 t471]] (by rfl) rfl rfl (by (try simp only [List.map_toArray, List.map_cons, List.map_nil]); first | done | rfl | (simp only [List.length_drop, List.length_take]; rfl)) ?_
        with_reducible refine (laws_eqSketch.calls k _ _ t457 t460 _ _ t468 t471 t472 _ ?side1 ?side2 ?side3 ?side4 A43.out).mono ?_
        (case side1 => repeat (first | exact (Kd.R_reads' HO459.out).2.2 | (with_reducible refine Kd.C_alloc ?_ _) | (with_reducible refine Kd.C_drewN ?_ _) | (with_reducible refine Kd.C_drew ?_)))
        (case side2 => exact (Kd.R_reads' HO459.out).2.1)
        (case side3 => repeat (first | exact (Kd.R_reads' HO470.out).2.2 | (with_reducible refine Kd.C_alloc ?_ _) | (with_reducible refine Kd.C_drewN ?_ _) | (with_reducible refine Kd.C_drew ?_)))
        (case side4 => exact (Kd.R_reads' HO470.out).2.1)
        rintro e w48 ⟨rfl, hb⟩
        refine ⟨_, rfl, ?_⟩
        have n0_ := Aside0.mk (Kd.R_below (by (with_reducible repeat (first | apply Kd.R_alloc | apply Kd.R_drewN | apply Kd.R_drew)); exact HO450.out) hb)
        have n1_ := Aside0.mk (Kd.R_below (by (with_reducible repeat (first | apply Kd.R_alloc | apply Kd.R_drewN | apply Kd.R_drew)); exact HO454.out) hb)
        have n2_ := Aside0.mk (Kd.R_below (by (with_reducible repeat (first | apply Kd.R_alloc | apply Kd.R_drewN | apply Kd.R_drew)); exact HO459.out) hb)
        have n3_ := Aside0.mk (Kd.R_below (by (with_reducible repeat (first | apply Kd.R_alloc | apply Kd.R_drewN | apply Kd.R_drew)); exact HO464.out) hb)
        have n4_ := Aside0.mk (Kd.R_below (by (with_reducible repeat (first | apply Kd.R_alloc | apply Kd.R_drewN | apply Kd.R_drew)); exact HO470.out) hb)
        have n5_ := Aside0.mk (blk_below (g := gb446) (o := .cells #[.slice A0_0 l0_0.length c0_0, .int .i64 a0_1] 38 (0, 0)) (by (with_reducible repeat (first | refine blk_drewN ?_ _ | refine blk_drew ?_ | refine blk_alloc ?_ _)); exact BK446.out) hb)
        have n6_ := Aside0.mk (blk_below (g := gb456) (o := .cells #[.slice Ao22 t452.length co22, .int .i64 t455] 41 (0, 0)) (by (with_reducible repeat (first | refine blk_drewN ?_ _ | refine blk_drew ?_ | refine blk_alloc ?_ _)); exact BK456.out) hb)
        have n7_ := Aside0.mk (blk_below (g := gb461) (o := .cells #[.slice Ao28 t457.length co28, .int .i64 t460] 41 (0, 0)) (by (with_reducible repeat (first | refine blk_drewN ?_ _ | refine blk_drew ?_ | refine blk_alloc ?_ _)); exact BK461.out) hb)
        have n8_ := Aside0.mk (blk_below (g := gb466) (o := .cells #[.slice Ao34 t462.length co34, .int .i64 t465] 41 (0, 0)) (by (with_reducible repeat (first | refine blk_drewN ?_ _ | refine blk_drew ?_ | refine blk_alloc ?_ _)); exact BK466.out) hb)
        have n9_ := Aside0.mk (below_step (by repeat (first | (with_reducible first | exact HB.out | apply below_alloc | apply pw_below_drewN | apply below_drew1 | refine below_set ?_ GE446.out | refine below_set ?_ GE456.out | refine below_set ?_ GE461.out | refine below_set ?_ GE466.out) | exact HB.out)) hb)
        clear HO450
        clear HO454
        clear HO459
        clear HO464
        clear HO470
        clear BK446
        clear BK456
        clear BK461
        clear BK466
        clear HB
        have HO450 := n0_
        have HO454 := n1_
        have HO459 := n2_
        have HO464 := n3_
        have HO470 := n4_
        have BK446 := n5_
        have BK456 := n6_
        have BK461 := n7_
        have BK466 := n8_
        have HB := n9_
        clear n0_ n1_ n2_ n3_ n4_ n5_ n6_ n7_ n8_ n9_
        (try clear hb)
        (try clear hb2)
        (try clear hk)
        (try clear hi)
        refine hK.out _ _ ⟨(blk_cell BK461.out 0).trans rfl, (blk_cell BK461.out 1).trans rfl, (blk_cell BK446.out 0).trans rfl, (blk_cell BK446.out 1).trans rfl⟩ (fun hHeld => ?_)
        clear hK K
        refine norm_ (a' := ?_) ?_ ?_
        rotate_left
        · show Act.put _ (some 37) _ = _
          simp only [Act.put, List.setIfInBounds_toArray, List.set_cons_zero, List.set_cons_succ, i64_w, i32_w]
          rfl
        refine pure_ (i := 4) (N := some 38) (v := ?_) (a' := ?_) #[true, true, true, true, true] rfl rfl (by kernel_rfl) (fun _ _ _ h => h) (Or.inl ⟨by rfl, ?_⟩) ?_ ?_
        rotate_left
        · intro w'
          go_simp
          with_reducible rfl
        rotate_left
        · simp only [Act.put, List.setIfInBounds_toArray, List.set_cons_zero, List.set_cons_succ, i64_w, i32_w]
          rfl
        refine done_ (by kernel_rfl) ?_
        go_upto_if 38 with (fail)
        have H := HF44.out
        clear HF44
        by_cases c49 : t472 = true
        · subst c49
          have H1 : ((laws_markSketch.f k t457 t460 1).bind fun bt473 => (if bt473.1 < 0 then (laws_FnExactTouchKey.j0 k a1 true l0_0 a0_1 t452 t455 t462 t465) else ((laws_eqSketch.f k t462 t465 t452 t455).bind fun t475 => (laws_FnExactTouchKey.j0 k a1 (!t475) l0_0 a0_1 t452 t455 t462 t465)))) = some r := by rw [if_pos rfl] at H; exact H
          clear H
          have H := H1
          clear H1
          replace H := Option.bind_eq_some_iff.mp H
          obtain ⟨⟨t473, t474⟩, A500, H⟩ := H
          replace H : (if t473 < 0 then (laws_FnExactTouchKey.j0 k a1 true l0_0 a0_1 t452 t455 t462 t465) else ((laws_eqSketch.f k t462 t465 t452 t455).bind fun t475 => (laws_FnExactTouchKey.j0 k a1 (!t475) l0_0 a0_1 t452 t455 t462 t465))) = some r := H
          have A50 := Aside0.mk A500
          clear A500
          have HC51 := Aside0.mk H
          clear H
          have hnb52 := NB461_446.out
          have hnc52 := NB446_461.out
          have hnb53 := NB461_456.out
          have hnc53 := NB456_461.out
          have hnb54 := NB461_466.out
          have hnc54 := NB466_461.out
          have hcz55_0 : w48.cell? ⟨gb461, 0, none⟩ = some (.slice Ao28 t457.length co28) := (blk_cell BK461.out 0).trans rfl
          have hcz55_1 : w48.cell? ⟨gb461, 1, none⟩ = some (.int .i64 t460) := (blk_cell BK461.out 1).trans rfl
          have hfz55_0 := blk_frozen BK461.out 0
          have hfz55_1 := blk_frozen BK461.out 1
          go_upto_region 16 with (first | ((with_reducible refine gate_callee (f := 38) rfl ?_); refine goesL_ (some 41) rfl rfl Try.func38 (by kernel_rfl) rfl #[.agg #[.slice Ao28 t457.length co28, .int .i64 t460], .int .i64 1] rfl (by (try simp only [List.map_toArray, List.map_cons, List.map_nil]); first | done | rfl | (simp only [List.length_drop, List.length_take]; rfl)) ?_; (with_reducible refine (laws_markSketch.calls k (fun k_ => some k_ = (.slice Ao28 t457.length co28 : Value).ownBlock) (.slice Ao28 t457.length co28) t457 t460 1 t473 t474 w _ ?side1 ?side2 A50.out).mono ?_); (case side1 => repeat (first | (with_reducible first | exact HB.out | apply below_alloc | apply pw_below_drewN | apply below_drew1 | refine below_set ?_ GE446.out | refine below_set ?_ GE456.out | refine below_set ?_ GE461.out | refine below_set ?_ GE466.out) | exact HB.out)); (case side2 => exact Kd.R_tight rfl HO459.out); rintro e w56 ⟨rfl, hy0, hb, hkp⟩; refine ⟨_, rfl, ?_⟩; have n0_ := Aside0.mk (blk_kept (by (with_reducible repeat (first | refine blk_drewN ?_ _ | refine blk_drew ?_ | refine blk_alloc ?_ _)); exact BK446.out) hkp (fun hs_ => (fun e_ => (Kd.R_ne HO459.out BK446.out (by decide)) e_) hs_)); have n1_ := Aside0.mk (Kd.R_mono (ok' := fun k_ => some k_ ≠ (.slice Ao22 t452.length co22 : Value).ownBlock ∧ some k_ ≠ (.slice Ao28 t457.length co28 : Value).ownBlock ∧ some k_ ≠ (.slice Ao34 t462.length co34 : Value).ownBlock ∧ some k_ ≠ (.slice Ao47 t468.length co47 : Value).ownBlock) (Kd.R_keptB (HO450.out) hkp (fun k_ hk_ hs_ => (hk_.1.1.2) hs_)) (fun k_ hk_ => ⟨hk_.1.1.1.1.2, hk_.1.1.1.2, hk_.1.1.2, hk_.1.2⟩)); have n2_ := Aside0.mk (Kd.R_mono (ok' := fun k_ => some k_ ≠ (.slice Ao19 t448.length co19 : Value).ownBlock ∧ some k_ ≠ (.slice Ao28 t457.length co28 : Value).ownBlock ∧ some k_ ≠ (.slice Ao34 t462.length co34 : Value).ownBlock ∧ some k_ ≠ (.slice Ao47 t468.length co47 : Value).ownBlock) (Kd.R_keptB (HO454.out) hkp (fun k_ hk_ hs_ => (hk_.1.1.2) hs_)) (fun k_ hk_ => ⟨hk_.1.1.1.1.2, hk_.1.1.1.2, hk_.1.1.2, hk_.1.2⟩)); have n3_ := Aside0.mk (blk_kept (by (with_reducible repeat (first | refine blk_drewN ?_ _ | refine blk_drew ?_ | refine blk_alloc ?_ _)); exact BK456.out) hkp (fun hs_ => (fun e_ => (Kd.R_ne HO459.out BK456.out (by decide)) e_) hs_)); have n4_ := Aside0.mk (Kd.R_reok rfl hy0 (fun k_ e_ => HO459.out.1 k_ e_)); have n5_ := Aside0.mk (blk_kept (by (with_reducible repeat (first | refine blk_drewN ?_ _ | refine blk_drew ?_ | refine blk_alloc ?_ _)); exact BK461.out) hkp (fun hs_ => (fun e_ => (Kd.R_ne HO459.out BK461.out (by decide)) e_) hs_)); have n6_ := Aside0.mk (Kd.R_mono (ok' := fun k_ => some k_ ≠ (.slice Ao19 t448.length co19 : Value).ownBlock ∧ some k_ ≠ (.slice Ao22 t452.length co22 : Value).ownBlock ∧ some k_ ≠ (.slice Ao28 t457.length co28 : Value).ownBlock ∧ some k_ ≠ (.slice Ao47 t468.length co47 : Value).ownBlock) (Kd.R_keptB (HO464.out) hkp (fun k_ hk_ hs_ => (hk_.1.2) hs_)) (fun k_ hk_ => ⟨hk_.1.1.1.1.2, hk_.1.1.1.2, hk_.1.1.2, hk_.1.2⟩)); have n7_ := Aside0.mk (blk_kept (by (with_reducible repeat (first | refine blk_drewN ?_ _ | refine blk_drew ?_ | refine blk_alloc ?_ _)); exact BK466.out) hkp (fun hs_ => (fun e_ => (Kd.R_ne HO459.out BK466.out (by decide)) e_) hs_)); have n8_ := Aside0.mk (Kd.R_mono (ok' := fun k_ => some k_ ≠ (.slice Ao19 t448.length co19 : Value).ownBlock ∧ some k_ ≠ (.slice Ao22 t452.length co22 : Value).ownBlock ∧ some k_ ≠ (.slice Ao28 t457.length co28 : Value).ownBlock ∧ some k_ ≠ (.slice Ao34 t462.length co34 : Value).ownBlock) (Kd.R_keptB (HO470.out) hkp (fun k_ hk_ hs_ => (hk_.1.2) hs_)) (fun k_ hk_ => ⟨hk_.1.1.1.1.2, hk_.1.1.1.2, hk_.1.1.2, hk_.1.2⟩)); have n9_ := Aside0.mk (hb); clear BK446; clear HO450; clear HO454; clear BK456; clear HO459; clear BK461; clear HO464; clear BK466; clear HO470; clear HB; have BK446 := n0_; have HO450 := n1_; have HO454 := n2_; have BK456 := n3_; have HO459 := n4_; have BK461 := n5_; have HO464 := n6_; have BK466 := n7_; have HO470 := n8_; have HB := n9_; clear n0_ n1_ n2_ n3_ n4_ n5_ n6_ n7_ n8_ n9_; (try clear hb); (try clear hkp); (try clear hy0)))
          (try simp only [Act.put, List.setIfInBounds_toArray, List.set_cons_zero, List.set_cons_succ])
          go_cut [49] (fun v49 wc => ∃ (kq : Nat) (x49_50 : Bool), v49 = .bool x49_50 ∧ Aside0 (laws_FnExactTouchKey.j0 kq a1 x49_50 l0_0 a0_1 t452 t455 t462 t465 = some r) ∧ Aside0 (kq ≤ k) ∧ Aside0 (Kd.R (Kd.int .i64) 3 wc w.heap.size (fun k_ => some k_ ≠ ((.slice Ao28 t457.length co28) : Value).ownBlock ∧ some k_ ≠ ((.slice Ao34 t462.length co34) : Value).ownBlock) (.slice Ao22 t452.length co22) t452) ∧ Aside0 (Kd.R (Kd.int .i64) 3 wc w.heap.size (fun k_ => some k_ ≠ ((.slice Ao22 t452.length co22) : Value).ownBlock ∧ some k_ ≠ ((.slice Ao34 t462.length co34) : Value).ownBlock) (.slice Ao28 t457.length co28) t474) ∧ Aside0 (Kd.R (Kd.int .i64) 3 wc w.heap.size (fun k_ => some k_ ≠ ((.slice Ao22 t452.length co22) : Value).ownBlock ∧ some k_ ≠ ((.slice Ao28 t457.length co28) : Value).ownBlock) (.slice Ao34 t462.length co34) t462) ∧ Aside0 (wc.heap[gb446]? = some (.cells #[(.slice A0_0 l0_0.length c0_0), .int .i64 a0_1] 38 (0, 0))) ∧ Aside0 (wc.heap[gb456]? = some (.cells #[(.slice Ao22 t452.length co22), .int .i64 t455] 41 (0, 0))) ∧ Aside0 (wc.heap[gb461]? = some (.cells #[(.slice Ao28 t457.length co28), .int .i64 t460] 41 (0, 0))) ∧ Aside0 (wc.heap[gb466]? = some (.cells #[(.slice Ao34 t462.length co34), .int .i64 t465] 41 (0, 0))) ∧ Aside0 (Below w.heap.size w wc))
          case first =>
            have H := HC51.out
            clear HC51
            by_cases c57 : t473 < 0
            · rw [if_pos c57] at H
              have c57b0 : decide (t473 < 0) = true := decide_eq_true c57
              clear c57
              (first | rw [c57b0] | (simp only [i64_w, i32_w]; rw [c57b0]) | skip)
              have H' := Aside0.mk H
              clear H
              go_wp2
              go_meet
              case rel => exact ⟨_, (true), (by first | rfl | (simp; done) | (simp [*]; done)), H', ⟨by first | omega | exact Nat.le_refl _⟩, ⟨by (with_reducible repeat (first | apply Kd.R_alloc | apply Kd.R_drewN | apply Kd.R_drew)); exact Kd.R_mono HO454.out (fun _ hk => ⟨hk.2.1, hk.2.2.1⟩)⟩, ⟨by (with_reducible repeat (first | apply Kd.R_alloc | apply Kd.R_drewN | apply Kd.R_drew)); exact Kd.R_mono HO459.out (fun _ hk => ⟨hk.1.1.2, hk.1.2⟩)⟩, ⟨by (with_reducible repeat (first | apply Kd.R_alloc | apply Kd.R_drewN | apply Kd.R_drew)); exact Kd.R_mono HO464.out (fun _ hk => ⟨hk.2.1, hk.2.2.1⟩)⟩, ⟨by (with_reducible repeat (first | refine blk_drewN ?_ _ | refine blk_drew ?_ | refine blk_alloc ?_ _)); exact BK446.out⟩, ⟨by (with_reducible repeat (first | refine blk_drewN ?_ _ | refine blk_drew ?_ | refine blk_alloc ?_ _)); exact BK456.out⟩, ⟨by (with_reducible repeat (first | refine blk_drewN ?_ _ | refine blk_drew ?_ | refine blk_alloc ?_ _)); exact BK461.out⟩, ⟨by (with_reducible repeat (first | refine blk_drewN ?_ _ | refine blk_drew ?_ | refine blk_alloc ?_ _)); exact BK466.out⟩, ⟨by repeat (first | (with_reducible first | exact HB.out | apply below_alloc | apply pw_below_drewN | apply below_drew1 | refine below_set ?_ GE446.out | refine below_set ?_ GE456.out | refine below_set ?_ GE461.out | refine below_set ?_ GE466.out) | exact HB.out)⟩⟩
            · rw [if_neg c57] at H
              have c57b0 : decide (t473 < 0) = false := decide_eq_false c57
              clear c57
              (first | rw [c57b0] | (simp only [i64_w, i32_w]; rw [c57b0]) | skip)
              replace H := Option.bind_eq_some_iff.mp H
              obtain ⟨t475, A580, H⟩ := H
              replace H : (laws_FnExactTouchKey.j0 k a1 (!t475) l0_0 a0_1 t452 t455 t462 t465) = some r := H
              have A58 := Aside0.mk A580
              clear A580
              have H' := Aside0.mk H
              clear H
              have hnb59 := NB466_446.out
              have hnc59 := NB446_466.out
              have hnb60 := NB466_456.out
              have hnc60 := NB456_466.out
              have hnb61 := NB466_461.out
              have hnc61 := NB461_466.out
              have hcz62_0 : w56.cell? ⟨gb466, 0, none⟩ = some (.slice Ao34 t462.length co34) := (blk_cell BK466.out 0).trans rfl
              have hcz62_1 : w56.cell? ⟨gb466, 1, none⟩ = some (.int .i64 t465) := (blk_cell BK466.out 1).trans rfl
              have hfz62_0 := blk_frozen BK466.out 0
              have hfz62_1 := blk_frozen BK466.out 1
              have hnb63 := NB456_446.out
              have hnc63 := NB446_456.out
              have hnb64 := NB456_461.out
              have hnc64 := NB461_456.out
              have hcz65_0 : w56.cell? ⟨gb456, 0, none⟩ = some (.slice Ao22 t452.length co22) := (blk_cell BK456.out 0).trans rfl
              have hcz65_1 : w56.cell? ⟨gb456, 1, none⟩ = some (.int .i64 t455) := (blk_cell BK456.out 1).trans rfl
              have hfz65_0 := blk_frozen BK456.out 0
              have hfz65_1 := blk_frozen BK456.out 1
              go_wp2_with (first | (go_at_call 28; (with_reducible refine (laws_eqSketch.calls k _ _ t462 t465 _ _ t452 t455 t475 _ ?side1 ?side2 ?side3 ?side4 A58.out).mono ?_); (case side1 => repeat (first | exact (Kd.R_reads' HO464.out).2.2 | (with_reducible refine Kd.C_alloc ?_ _) | (with_reducible refine Kd.C_drewN ?_ _) | (with_reducible refine Kd.C_drew ?_))); (case side2 => exact (Kd.R_reads' HO464.out).2.1); (case side3 => repeat (first | exact (Kd.R_reads' HO454.out).2.2 | (with_reducible refine Kd.C_alloc ?_ _) | (with_reducible refine Kd.C_drewN ?_ _) | (with_reducible refine Kd.C_drew ?_))); (case side4 => exact (Kd.R_reads' HO454.out).2.1); rintro e w66 ⟨rfl, hb⟩; have n0_ := Aside0.mk (Kd.R_below (by (with_reducible repeat (first | apply Kd.R_alloc | apply Kd.R_drewN | apply Kd.R_drew)); exact HO450.out) hb); have n1_ := Aside0.mk (Kd.R_below (by (with_reducible repeat (first | apply Kd.R_alloc | apply Kd.R_drewN | apply Kd.R_drew)); exact HO454.out) hb); have n2_ := Aside0.mk (Kd.R_below (by (with_reducible repeat (first | apply Kd.R_alloc | apply Kd.R_drewN | apply Kd.R_drew)); exact HO459.out) hb); have n3_ := Aside0.mk (Kd.R_below (by (with_reducible repeat (first | apply Kd.R_alloc | apply Kd.R_drewN | apply Kd.R_drew)); exact HO464.out) hb); have n4_ := Aside0.mk (Kd.R_below (by (with_reducible repeat (first | apply Kd.R_alloc | apply Kd.R_drewN | apply Kd.R_drew)); exact HO470.out) hb); have n5_ := Aside0.mk (blk_below (g := gb446) (o := .cells #[.slice A0_0 l0_0.length c0_0, .int .i64 a0_1] 38 (0, 0)) (by (with_reducible repeat (first | refine blk_drewN ?_ _ | refine blk_drew ?_ | refine blk_alloc ?_ _)); exact BK446.out) hb); have n6_ := Aside0.mk (blk_below (g := gb456) (o := .cells #[.slice Ao22 t452.length co22, .int .i64 t455] 41 (0, 0)) (by (with_reducible repeat (first | refine blk_drewN ?_ _ | refine blk_drew ?_ | refine blk_alloc ?_ _)); exact BK456.out) hb); have n7_ := Aside0.mk (blk_below (g := gb461) (o := .cells #[.slice Ao28 t457.length co28, .int .i64 t460] 41 (0, 0)) (by (with_reducible repeat (first | refine blk_drewN ?_ _ | refine blk_drew ?_ | refine blk_alloc ?_ _)); exact BK461.out) hb); have n8_ := Aside0.mk (blk_below (g := gb466) (o := .cells #[.slice Ao34 t462.length co34, .int .i64 t465] 41 (0, 0)) (by (with_reducible repeat (first | refine blk_drewN ?_ _ | refine blk_drew ?_ | refine blk_alloc ?_ _)); exact BK466.out) hb); have n9_ := Aside0.mk (below_step (by repeat (first | (with_reducible first | exact HB.out | apply below_alloc | apply pw_below_drewN | apply below_drew1 | refine below_set ?_ GE446.out | refine below_set ?_ GE456.out | refine below_set ?_ GE461.out | refine below_set ?_ GE466.out) | exact HB.out)) hb); clear HO450; clear HO454; clear HO459; clear HO464; clear HO470; clear BK446; clear BK456; clear BK461; clear BK466; clear HB; have HO450 := n0_; have HO454 := n1_; have HO459 := n2_; have HO464 := n3_; have HO470 := n4_; have BK446 := n5_; have BK456 := n6_; have BK461 := n7_; have BK466 := n8_; have HB := n9_; clear n0_ n1_ n2_ n3_ n4_ n5_ n6_ n7_ n8_ n9_; (try clear hb); (try clear hb2); (try clear hk); (try clear hi)))
              go_meet
              case rel => exact ⟨_, (!t475), (by first | rfl | (simp; done) | (simp [*]; done)), H', ⟨by first | omega | exact Nat.le_refl _⟩, ⟨by (with_reducible repeat (first | apply Kd.R_alloc | apply Kd.R_drewN | apply Kd.R_drew)); exact Kd.R_mono HO454.out (fun _ hk => ⟨hk.2.1, hk.2.2.1⟩)⟩, ⟨by (with_reducible repeat (first | apply Kd.R_alloc | apply Kd.R_drewN | apply Kd.R_drew)); exact Kd.R_mono HO459.out (fun _ hk => ⟨hk.1.1.2, hk.1.2⟩)⟩, ⟨by (with_reducible repeat (first | apply Kd.R_alloc | apply Kd.R_drewN | apply Kd.R_drew)); exact Kd.R_mono HO464.out (fun _ hk => ⟨hk.2.1, hk.2.2.1⟩)⟩, ⟨by (with_reducible repeat (first | refine blk_drewN ?_ _ | refine blk_drew ?_ | refine blk_alloc ?_ _)); exact BK446.out⟩, ⟨by (with_reducible repeat (first | refine blk_drewN ?_ _ | refine blk_drew ?_ | refine blk_alloc ?_ _)); exact BK456.out⟩, ⟨by (with_reducible repeat (first | refine blk_drewN ?_ _ | refine blk_drew ?_ | refine blk_alloc ?_ _)); exact BK461.out⟩, ⟨by (with_reducible repeat (first | refine blk_drewN ?_ _ | refine blk_drew ?_ | refine blk_alloc ?_ _)); exact BK466.out⟩, ⟨by repeat (first | (with_reducible first | exact HB.out | apply below_alloc | apply pw_below_drewN | apply below_drew1 | refine below_set ?_ GE446.out | refine below_set ?_ GE456.out | refine below_set ?_ GE461.out | refine below_set ?_ GE466.out) | exact HB.out)⟩⟩
          case rest =>
            clear HC51
            try clear c1
            try clear c2
            try clear p2
            try clear c3
            try clear c4
            try clear c5
            try clear c5b0
            try clear c5b1
            try clear c6
            try clear c7
            try clear c10
            try clear c10b0
            try clear c23
            try clear c24
            try clear c26
            try clear c28
            try clear c29
            try clear c30
            try clear c35
            try clear c36
            try clear c37
            try clear c38
            try clear c41
            try clear c49
            try clear c52
            try clear c53
            try clear c54
            try clear c57
            try clear c57b0
            try clear c59
            try clear c60
            try clear c61
            try clear c63
            try clear c64
            try clear hcz17_0
            try clear hcz17_1
            try clear hcz24_0
            try clear hcz24_1
            try clear hcz25_0
            try clear hcz25_1
            try clear hcz31_0
            try clear hcz31_1
            try clear hcz38_0
            try clear hcz38_1
            try clear hcz39_0
            try clear hcz39_1
            try clear hcz55_0
            try clear hcz55_1
            try clear hcz62_0
            try clear hcz62_1
            try clear hcz65_0
            try clear hcz65_1
            try clear hcz8_0
            try clear hcz8_1
            try clear hfz17_0
            try clear hfz17_1
            try clear hfz24_0
            try clear hfz24_1
            try clear hfz25_0
            try clear hfz25_1
            try clear hfz31_0
            try clear hfz31_1
            try clear hfz38_0
            try clear hfz38_1
            try clear hfz39_0
            try clear hfz39_1
            try clear hfz55_0
            try clear hfz55_1
            try clear hfz62_0
            try clear hfz62_1
            try clear hfz65_0
            try clear hfz65_1
            try clear hfz8_0
            try clear hfz8_1
            obtain ⟨kq, x49_50, rfl, HA, HJ50, HO_457000, HO_462000, HO_467000, BK446, BK456, BK461, BK466, HB⟩ := hcut
            have hl462000_50 := (Kd.R_reads' HO_462000.out).1
            rw [hl462000_50] at HO_462000
            (try simp only [hl462000_50])
            (try simp only [hl462000_50] at BK446)
            (try simp only [hl462000_50] at BK456)
            (try simp only [hl462000_50] at BK461)
            (try simp only [hl462000_50] at BK466)
            (try simp only [hl462000_50] at HO_457000)
            (try simp only [hl462000_50] at HO_467000)
            cases kq with
            | zero => exact absurd HA.out (by simp [laws_FnExactTouchKey.j0])
            | succ kj50 =>
              have H := HA.out
              clear HA
              simp only [laws_FnExactTouchKey.j0] at H
              by_cases c67 : x49_50 = true
              · subst c67
                have H1 : (some false) = some r := by rw [if_pos rfl] at H; exact H
                clear H
                have H := H1
                clear H1
                obtain rfl := Option.some.inj H
                go_wp2
                go_ret
                exact ⟨by first | rfl | (simp [errW_none, errW_some] <;> rfl) | (simp [*, errW_none, errW_some] <;> rfl), by repeat (first | (with_reducible first | exact HB.out | apply below_alloc | apply pw_below_drewN | apply below_drew1 | refine below_set ?_ GE446.out | refine below_set ?_ GE456.out | refine below_set ?_ GE461.out | refine below_set ?_ GE466.out) | exact HB.out)⟩
              · replace c67 := Bool.eq_false_iff.mpr c67
                subst c67
                have H1 : ((laws_markSketch.f kj50 t462 t465 1).bind fun bt476 => ((laws_heldSketch.f kj50 bt476.2 t465 1).bind fun t478 => (if t478 < 0 then (some false) else (if t478 = bt476.1 then ((laws_toSketch.f kj50 l0_0 a0_1).bind fun bt479 => ((impl_TouchKey.f kj50 bt479.1 bt479.2 a1).bind fun bt483 => ((laws_eqSketch.f kj50 bt483.1 bt483.2 t452 t455).bind fun t488 => (if t488 = true then ((laws_heldSketch.f kj50 bt476.2 t465 1).bind fun t489 => (if t489 < 0 then (some false) else (if t489 = bt476.1 then (some true) else (some false)))) else (some false))))) else (some false))))) = some r := by rw [if_neg (show ¬ (false = true) by decide)] at H; exact H
                clear H
                have H := H1
                clear H1
                replace H := Option.bind_eq_some_iff.mp H
                obtain ⟨⟨t476, t477⟩, A680, H⟩ := H
                replace H : ((laws_heldSketch.f kj50 t477 t465 1).bind fun t478 => (if t478 < 0 then (some false) else (if t478 = t476 then ((laws_toSketch.f kj50 l0_0 a0_1).bind fun bt479 => ((impl_TouchKey.f kj50 bt479.1 bt479.2 a1).bind fun bt483 => ((laws_eqSketch.f kj50 bt483.1 bt483.2 t452 t455).bind fun t488 => (if t488 = true then ((laws_heldSketch.f kj50 t477 t465 1).bind fun t489 => (if t489 < 0 then (some false) else (if t489 = t476 then (some true) else (some false)))) else (some false))))) else (some false)))) = some r := H
                have A68 := Aside0.mk A680
                clear A680
                replace H := Option.bind_eq_some_iff.mp H
                obtain ⟨t478, A690, H⟩ := H
                replace H : (if t478 < 0 then (some false) else (if t478 = t476 then ((laws_toSketch.f kj50 l0_0 a0_1).bind fun bt479 => ((impl_TouchKey.f kj50 bt479.1 bt479.2 a1).bind fun bt483 => ((laws_eqSketch.f kj50 bt483.1 bt483.2 t452 t455).bind fun t488 => (if t488 = true then ((laws_heldSketch.f kj50 t477 t465 1).bind fun t489 => (if t489 < 0 then (some false) else (if t489 = t476 then (some true) else (some false)))) else (some false))))) else (some false))) = some r := H
                have A69 := Aside0.mk A690
                clear A690
                have HF70 := Aside0.mk H
                clear H
                have hnb71 := NB466_446.out
                have hnc71 := NB446_466.out
                have hnb72 := NB466_456.out
                have hnc72 := NB456_466.out
                have hnb73 := NB466_461.out
                have hnc73 := NB461_466.out
                have hcz74_0 : wc.cell? ⟨gb466, 0, none⟩ = some (.slice Ao34 t462.length co34) := (blk_cell BK466.out 0).trans rfl
                have hcz74_1 : wc.cell? ⟨gb466, 1, none⟩ = some (.int .i64 t465) := (blk_cell BK466.out 1).trans rfl
                have hfz74_0 := blk_frozen BK466.out 0
                have hfz74_1 := blk_frozen BK466.out 1
                go_upto_if 57 with (first | ((with_reducible refine gate_callee (f := 38) rfl ?_); refine goesL_ (some 52) rfl rfl Try.func38 (by kernel_rfl) rfl #[.agg #[.slice Ao34 t462.length co34, .int .i64 t465], .int .i64 1] rfl (by (try simp only [List.map_toArray, List.map_cons, List.map_nil]); first | done | rfl | (simp only [List.length_drop, List.length_take]; rfl)) ?_; (with_reducible refine (laws_markSketch.calls kj50 (fun k_ => some k_ = (.slice Ao34 t462.length co34 : Value).ownBlock) (.slice Ao34 t462.length co34) t462 t465 1 t476 t477 w _ ?side1 ?side2 A68.out).mono ?_); (case side1 => repeat (first | (with_reducible first | exact HB.out | apply below_alloc | apply pw_below_drewN | apply below_drew1 | refine below_set ?_ GE446.out | refine below_set ?_ GE456.out | refine below_set ?_ GE461.out | refine below_set ?_ GE466.out) | exact HB.out)); (case side2 => exact Kd.R_tight rfl HO_467000.out); rintro e w75 ⟨rfl, hy0, hb, hkp⟩; refine ⟨_, rfl, ?_⟩; have n0_ := Aside0.mk (Kd.R_mono (ok' := fun k_ => some k_ ≠ (.slice Ao28 t474.length co28 : Value).ownBlock ∧ some k_ ≠ (.slice Ao34 t462.length co34 : Value).ownBlock) (Kd.R_keptB (HO_457000.out) hkp (fun k_ hk_ hs_ => (hk_.2) hs_)) (fun k_ hk_ => ⟨hk_.1.1, hk_.1.2⟩)); have n1_ := Aside0.mk (Kd.R_mono (ok' := fun k_ => some k_ ≠ (.slice Ao22 t452.length co22 : Value).ownBlock ∧ some k_ ≠ (.slice Ao34 t462.length co34 : Value).ownBlock) (Kd.R_keptB (HO_462000.out) hkp (fun k_ hk_ hs_ => (hk_.2) hs_)) (fun k_ hk_ => ⟨hk_.1.1, hk_.1.2⟩)); have n2_ := Aside0.mk (Kd.R_reok rfl hy0 (fun k_ e_ => HO_467000.out.1 k_ e_)); have n3_ := Aside0.mk (blk_kept (by (with_reducible repeat (first | refine blk_drewN ?_ _ | refine blk_drew ?_ | refine blk_alloc ?_ _)); exact BK446.out) hkp (fun hs_ => (fun e_ => (Kd.R_ne HO_467000.out BK446.out (by decide)) e_) hs_)); have n4_ := Aside0.mk (blk_kept (by (with_reducible repeat (first | refine blk_drewN ?_ _ | refine blk_drew ?_ | refine blk_alloc ?_ _)); exact BK456.out) hkp (fun hs_ => (fun e_ => (Kd.R_ne HO_467000.out BK456.out (by decide)) e_) hs_)); have n5_ := Aside0.mk (blk_kept (by (with_reducible repeat (first | refine blk_drewN ?_ _ | refine blk_drew ?_ | refine blk_alloc ?_ _)); exact BK461.out) hkp (fun hs_ => (fun e_ => (Kd.R_ne HO_467000.out BK461.out (by decide)) e_) hs_)); have n6_ := Aside0.mk (blk_kept (by (with_reducible repeat (first | refine blk_drewN ?_ _ | refine blk_drew ?_ | refine blk_alloc ?_ _)); exact BK466.out) hkp (fun hs_ => (fun e_ => (Kd.R_ne HO_467000.out BK466.out (by decide)) e_) hs_)); have n7_ := Aside0.mk (hb); clear HO_457000; clear HO_462000; clear HO_467000; clear BK446; clear BK456; clear BK461; clear BK466; clear HB; have HO_457000 := n0_; have HO_462000 := n1_; have HO_467000 := n2_; have BK446 := n3_; have BK456 := n4_; have BK461 := n5_; have BK466 := n6_; have HB := n7_; clear n0_ n1_ n2_ n3_ n4_ n5_ n6_ n7_; (try clear hb); (try clear hkp); (try clear hy0); have hcz76_0 : w75.cell? ⟨gb466, 0, none⟩ = some (.slice Ao34 t462.length co34) := (blk_cell BK466.out 0).trans rfl; have hcz76_1 : w75.cell? ⟨gb466, 1, none⟩ = some (.int .i64 t465) := (blk_cell BK466.out 1).trans rfl; have hfz76_0 := blk_frozen BK466.out 0; have hfz76_1 := blk_frozen BK466.out 1) | ((with_reducible refine gate_callee (f := 39) rfl ?_); refine goesL_ (some 55) rfl rfl Try.func39 (by kernel_rfl) rfl #[.agg #[.slice Ao34 t477.length co34, .int .i64 t465], .int .i64 1] rfl (by (try simp only [List.map_toArray, List.map_cons, List.map_nil]); first | done | (rw [show t477.length = t462.length from (Kd.R_reads' HO_467000.out).1.symm] <;> rfl) | rfl | (simp only [List.length_drop, List.length_take]; rfl)) ?_; (with_reducible refine (laws_heldSketch.calls kj50 _ _ t477 t465 1 t478 _ ?side1 ?side2 A69.out).mono ?_); (case side1 => repeat (first | exact (Kd.R_reads' HO_467000.out).2.2 | (with_reducible refine Kd.C_alloc ?_ _) | (with_reducible refine Kd.C_drewN ?_ _) | (with_reducible refine Kd.C_drew ?_))); (case side2 => rw [show t477.length = t462.length from (Kd.R_reads' HO_467000.out).1.symm]; exact (Kd.R_reads' HO_467000.out).2.1); rintro e w77 ⟨rfl, hb⟩; refine ⟨_, rfl, ?_⟩; have n0_ := Aside0.mk (Kd.R_below (by (with_reducible repeat (first | apply Kd.R_alloc | apply Kd.R_drewN | apply Kd.R_drew)); exact HO_457000.out) hb); have n1_ := Aside0.mk (Kd.R_below (by (with_reducible repeat (first | apply Kd.R_alloc | apply Kd.R_drewN | apply Kd.R_drew)); exact HO_462000.out) hb); have n2_ := Aside0.mk (Kd.R_below (by (with_reducible repeat (first | apply Kd.R_alloc | apply Kd.R_drewN | apply Kd.R_drew)); exact HO_467000.out) hb); have n3_ := Aside0.mk (blk_below (g := gb446) (o := .cells #[.slice A0_0 l0_0.length c0_0, .int .i64 a0_1] 38 (0, 0)) (by (with_reducible repeat (first | refine blk_drewN ?_ _ | refine blk_drew ?_ | refine blk_alloc ?_ _)); exact BK446.out) hb); have n4_ := Aside0.mk (blk_below (g := gb456) (o := .cells #[.slice Ao22 t452.length co22, .int .i64 t455] 41 (0, 0)) (by (with_reducible repeat (first | refine blk_drewN ?_ _ | refine blk_drew ?_ | refine blk_alloc ?_ _)); exact BK456.out) hb); have n5_ := Aside0.mk (blk_below (g := gb461) (o := .cells #[.slice Ao28 t474.length co28, .int .i64 t460] 41 (0, 0)) (by (with_reducible repeat (first | refine blk_drewN ?_ _ | refine blk_drew ?_ | refine blk_alloc ?_ _)); exact BK461.out) hb); have n6_ := Aside0.mk (blk_below (g := gb466) (o := .cells #[.slice Ao34 t462.length co34, .int .i64 t465] 41 (0, 0)) (by (with_reducible repeat (first | refine blk_drewN ?_ _ | refine blk_drew ?_ | refine blk_alloc ?_ _)); exact BK466.out) hb); have n7_ := Aside0.mk (below_step (by repeat (first | (with_reducible first | exact HB.out | apply below_alloc | apply pw_below_drewN | apply below_drew1 | refine below_set ?_ GE446.out | refine below_set ?_ GE456.out | refine below_set ?_ GE461.out | refine below_set ?_ GE466.out) | exact HB.out)) hb); clear HO_457000; clear HO_462000; clear HO_467000; clear BK446; clear BK456; clear BK461; clear BK466; clear HB; have HO_457000 := n0_; have HO_462000 := n1_; have HO_467000 := n2_; have BK446 := n3_; have BK456 := n4_; have BK461 := n5_; have BK466 := n6_; have HB := n7_; clear n0_ n1_ n2_ n3_ n4_ n5_ n6_ n7_; (try clear hb); (try clear hb2); (try clear hk); (try clear hi)))
                have H := HF70.out
                clear HF70
                by_cases c78 : t478 < 0
                · rw [if_pos c78] at H
                  have c78b0 : decide (t478 < 0) = true := decide_eq_true c78
                  clear c78
                  (first | rw [c78b0] | (simp only [i64_w, i32_w]; rw [c78b0]) | skip)
                  obtain rfl := Option.some.inj H
                  go_wp2
                  go_ret
                  exact ⟨by first | rfl | (simp [errW_none, errW_some] <;> rfl) | (simp [*, errW_none, errW_some] <;> rfl), by repeat (first | (with_reducible first | exact HB.out | apply below_alloc | apply pw_below_drewN | apply below_drew1 | refine below_set ?_ GE446.out | refine below_set ?_ GE456.out | refine below_set ?_ GE461.out | refine below_set ?_ GE466.out) | exact HB.out)⟩
                · rw [if_neg c78] at H
                  have c78b0 : decide (t478 < 0) = false := decide_eq_false c78
                  clear c78
                  (first | rw [c78b0] | (simp only [i64_w, i32_w]; rw [c78b0]) | skip)
                  by_cases c79 : t478 = t476
                  · rw [if_pos c79] at H
                    have c79b0 : (t478 == t476) = true := beq_iff_eq.mpr c79
                    have c79b1 : (t478 != t476) = false := bne_eq_false_iff_eq.mpr c79
                    clear c79
                    replace H := Option.bind_eq_some_iff.mp H
                    obtain ⟨⟨t479, t482⟩, A800, H⟩ := H
                    replace H : ((impl_TouchKey.f kj50 t479 t482 a1).bind fun bt483 => ((laws_eqSketch.f kj50 bt483.1 bt483.2 t452 t455).bind fun t488 => (if t488 = true then ((laws_heldSketch.f kj50 t477 t465 1).bind fun t489 => (if t489 < 0 then (some false) else (if t489 = t476 then (some true) else (some false)))) else (some false)))) = some r := H
                    have A80 := Aside0.mk A800
                    clear A800
                    replace H := Option.bind_eq_some_iff.mp H
                    obtain ⟨⟨t483, t486⟩, A810, H⟩ := H
                    replace H : ((laws_eqSketch.f kj50 t483 t486 t452 t455).bind fun t488 => (if t488 = true then ((laws_heldSketch.f kj50 t477 t465 1).bind fun t489 => (if t489 < 0 then (some false) else (if t489 = t476 then (some true) else (some false)))) else (some false))) = some r := H
                    have A81 := Aside0.mk A810
                    clear A810
                    replace H := Option.bind_eq_some_iff.mp H
                    obtain ⟨t488, A820, H⟩ := H
                    replace H : (if t488 = true then ((laws_heldSketch.f kj50 t477 t465 1).bind fun t489 => (if t489 < 0 then (some false) else (if t489 = t476 then (some true) else (some false)))) else (some false)) = some r := H
                    have A82 := Aside0.mk A820
                    clear A820
                    have HF83 := Aside0.mk H
                    clear H
                    have hnb84 := NB446_456.out
                    have hnc84 := NB456_446.out
                    have hnb85 := NB446_461.out
                    have hnc85 := NB461_446.out
                    have hnb86 := NB446_466.out
                    have hnc86 := NB466_446.out
                    have hcz87_0 : w77.cell? ⟨gb446, 0, none⟩ = some (.slice A0_0 l0_0.length c0_0) := (blk_cell BK446.out 0).trans rfl
                    have hcz87_1 : w77.cell? ⟨gb446, 1, none⟩ = some (.int .i64 a0_1) := (blk_cell BK446.out 1).trans rfl
                    have hfz87_0 := blk_frozen BK446.out 0
                    have hfz87_1 := blk_frozen BK446.out 1
                    go_upto_if 68 with (first | ((with_reducible refine gate_callee (f := 26) rfl ?_); refine goesL_ (some 62) rfl rfl Try.func26 (by kernel_rfl) rfl #[.agg #[.slice A0_0 l0_0.length c0_0, .int .i64 a0_1]] rfl (by (try simp only [List.map_toArray, List.map_cons, List.map_nil]); first | done | rfl | (simp only [List.length_drop, List.length_take]; rfl)) ?_; (with_reducible refine (laws_toSketch.calls kj50 _ _ l0_0 a0_1 t479 t482 _ ?side1 ?side2 A80.out).mono ?_); (case side1 => repeat (first | exact (Kd.C_below HR0_0.out HB.out) | (with_reducible refine Kd.C_alloc ?_ _) | (with_reducible refine Kd.C_drewN ?_ _) | (with_reducible refine Kd.C_drew ?_))); (case side2 => exact HC0_0.out); rintro e w88 ⟨v480, rfl, ho0, hb⟩; refine ⟨_, rfl, ?_⟩; have n0_ := Aside0.mk (Kd.R_elder' (by (with_reducible repeat (first | apply Kd.R_alloc | apply Kd.R_drewN | apply Kd.R_drew)); exact HO_457000.out) (Kd.R_base ho0) hb); have n1_ := Aside0.mk (Kd.R_elder' (by (with_reducible repeat (first | apply Kd.R_alloc | apply Kd.R_drewN | apply Kd.R_drew)); exact HO_462000.out) (Kd.R_base ho0) hb); have n2_ := Aside0.mk (Kd.R_elder' (by (with_reducible repeat (first | apply Kd.R_alloc | apply Kd.R_drewN | apply Kd.R_drew)); exact HO_467000.out) (Kd.R_base ho0) hb); have n3_ := Aside0.mk (Kd.R_lower (Kd.R_new' (Kd.R_new' (Kd.R_new' ho0 (Kd.R_lt (by (with_reducible repeat (first | apply Kd.R_alloc | apply Kd.R_drewN | apply Kd.R_drew)); exact HO_457000.out))) (Kd.R_lt (by (with_reducible repeat (first | apply Kd.R_alloc | apply Kd.R_drewN | apply Kd.R_drew)); exact HO_462000.out))) (Kd.R_lt (by (with_reducible repeat (first | apply Kd.R_alloc | apply Kd.R_drewN | apply Kd.R_drew)); exact HO_467000.out))) (below_size (by repeat (first | (with_reducible first | exact HB.out | apply below_alloc | apply pw_below_drewN | apply below_drew1 | refine below_set ?_ GE446.out | refine below_set ?_ GE456.out | refine below_set ?_ GE461.out | refine below_set ?_ GE466.out) | exact HB.out)))); have n4_ := Aside0.mk (blk_below (g := gb446) (o := .cells #[.slice A0_0 l0_0.length c0_0, .int .i64 a0_1] 38 (0, 0)) (by (with_reducible repeat (first | refine blk_drewN ?_ _ | refine blk_drew ?_ | refine blk_alloc ?_ _)); exact BK446.out) hb); have n5_ := Aside0.mk (blk_below (g := gb456) (o := .cells #[.slice Ao22 t452.length co22, .int .i64 t455] 41 (0, 0)) (by (with_reducible repeat (first | refine blk_drewN ?_ _ | refine blk_drew ?_ | refine blk_alloc ?_ _)); exact BK456.out) hb); have n6_ := Aside0.mk (blk_below (g := gb461) (o := .cells #[.slice Ao28 t474.length co28, .int .i64 t460] 41 (0, 0)) (by (with_reducible repeat (first | refine blk_drewN ?_ _ | refine blk_drew ?_ | refine blk_alloc ?_ _)); exact BK461.out) hb); have n7_ := Aside0.mk (blk_below (g := gb466) (o := .cells #[.slice Ao34 t462.length co34, .int .i64 t465] 41 (0, 0)) (by (with_reducible repeat (first | refine blk_drewN ?_ _ | refine blk_drew ?_ | refine blk_alloc ?_ _)); exact BK466.out) hb); have n8_ := Aside0.mk (below_step (by repeat (first | (with_reducible first | exact HB.out | apply below_alloc | apply pw_below_drewN | apply below_drew1 | refine below_set ?_ GE446.out | refine below_set ?_ GE456.out | refine below_set ?_ GE461.out | refine below_set ?_ GE466.out) | exact HB.out)) hb); clear HO_457000; clear HO_462000; clear HO_467000; clear BK446; clear BK456; clear BK461; clear BK466; clear HB; have HO_457000 := n0_; have HO_462000 := n1_; have HO_467000 := n2_; have HO481 := n3_; have BK446 := n4_; have BK456 := n5_; have BK461 := n6_; have BK466 := n7_; have HB := n8_; clear n0_ n1_ n2_ n3_ n4_ n5_ n6_ n7_ n8_; (try clear hb); (try clear hb2); (try clear hk); (try clear hi); (try clear ho0); obtain ⟨Ao89, co89, eo89⟩ := Kd.R_slice HO481.out; subst eo89) | ((with_reducible refine gate_callee (f := 37) rfl ?_); refine goesL_ (some 64) rfl rfl Try.func37 (by kernel_rfl) rfl #[.agg #[.slice Ao89 t479.length co89, .int .i64 t482], .string a1] rfl (by (try simp only [List.map_toArray, List.map_cons, List.map_nil]); first | done | rfl | (simp only [List.length_drop, List.length_take]; rfl)) ?_; (with_reducible refine (impl_TouchKey.calls kj50 _ _ t479 t482 a1 t483 t486 _ ?side1 ?side2 A81.out).mono ?_); (case side1 => repeat (first | exact (Kd.R_reads' HO481.out).2.2 | (with_reducible refine Kd.C_alloc ?_ _) | (with_reducible refine Kd.C_drewN ?_ _) | (with_reducible refine Kd.C_drew ?_))); (case side2 => exact (Kd.R_reads' HO481.out).2.1); rintro e w90 ⟨v484, rfl, ho0, hb⟩; refine ⟨_, rfl, ?_⟩; have n0_ := Aside0.mk (Kd.R_elder' (by (with_reducible repeat (first | apply Kd.R_alloc | apply Kd.R_drewN | apply Kd.R_drew)); exact HO_457000.out) (Kd.R_base ho0) hb); have n1_ := Aside0.mk (Kd.R_elder' (by (with_reducible repeat (first | apply Kd.R_alloc | apply Kd.R_drewN | apply Kd.R_drew)); exact HO_462000.out) (Kd.R_base ho0) hb); have n2_ := Aside0.mk (Kd.R_elder' (by (with_reducible repeat (first | apply Kd.R_alloc | apply Kd.R_drewN | apply Kd.R_drew)); exact HO_467000.out) (Kd.R_base ho0) hb); have n3_ := Aside0.mk (Kd.R_elder' (by (with_reducible repeat (first | apply Kd.R_alloc | apply Kd.R_drewN | apply Kd.R_drew)); exact HO481.out) (Kd.R_base ho0) hb); have n4_ := Aside0.mk (Kd.R_lower (Kd.R_new' (Kd.R_new' (Kd.R_new' (Kd.R_new' ho0 (Kd.R_lt (by (with_reducible repeat (first | apply Kd.R_alloc | apply Kd.R_drewN | apply Kd.R_drew)); exact HO_457000.out))) (Kd.R_lt (by (with_reducible repeat (first | apply Kd.R_alloc | apply Kd.R_drewN | apply Kd.R_drew)); exact HO_462000.out))) (Kd.R_lt (by (with_reducible repeat (first | apply Kd.R_alloc | apply Kd.R_drewN | apply Kd.R_drew)); exact HO_467000.out))) (Kd.R_lt (by (with_reducible repeat (first | apply Kd.R_alloc | apply Kd.R_drewN | apply Kd.R_drew)); exact HO481.out))) (below_size (by repeat (first | (with_reducible first | exact HB.out | apply below_alloc | apply pw_below_drewN | apply below_drew1 | refine below_set ?_ GE446.out | refine below_set ?_ GE456.out | refine below_set ?_ GE461.out | refine below_set ?_ GE466.out) | exact HB.out)))); have n5_ := Aside0.mk (blk_below (g := gb446) (o := .cells #[.slice A0_0 l0_0.length c0_0, .int .i64 a0_1] 38 (0, 0)) (by (with_reducible repeat (first | refine blk_drewN ?_ _ | refine blk_drew ?_ | refine blk_alloc ?_ _)); exact BK446.out) hb); have n6_ := Aside0.mk (blk_below (g := gb456) (o := .cells #[.slice Ao22 t452.length co22, .int .i64 t455] 41 (0, 0)) (by (with_reducible repeat (first | refine blk_drewN ?_ _ | refine blk_drew ?_ | refine blk_alloc ?_ _)); exact BK456.out) hb); have n7_ := Aside0.mk (blk_below (g := gb461) (o := .cells #[.slice Ao28 t474.length co28, .int .i64 t460] 41 (0, 0)) (by (with_reducible repeat (first | refine blk_drewN ?_ _ | refine blk_drew ?_ | refine blk_alloc ?_ _)); exact BK461.out) hb); have n8_ := Aside0.mk (blk_below (g := gb466) (o := .cells #[.slice Ao34 t462.length co34, .int .i64 t465] 41 (0, 0)) (by (with_reducible repeat (first | refine blk_drewN ?_ _ | refine blk_drew ?_ | refine blk_alloc ?_ _)); exact BK466.out) hb); have n9_ := Aside0.mk (below_step (by repeat (first | (with_reducible first | exact HB.out | apply below_alloc | apply pw_below_drewN | apply below_drew1 | refine below_set ?_ GE446.out | refine below_set ?_ GE456.out | refine below_set ?_ GE461.out | refine below_set ?_ GE466.out) | exact HB.out)) hb); clear HO_457000; clear HO_462000; clear HO_467000; clear HO481; clear BK446; clear BK456; clear BK461; clear BK466; clear HB; have HO_457000 := n0_; have HO_462000 := n1_; have HO_467000 := n2_; have HO481 := n3_; have HO485 := n4_; have BK446 := n5_; have BK456 := n6_; have BK461 := n7_; have BK466 := n8_; have HB := n9_; clear n0_ n1_ n2_ n3_ n4_ n5_ n6_ n7_ n8_ n9_; (try clear hb); (try clear hb2); (try clear hk); (try clear hi); (try clear ho0)) | ((with_reducible refine gate_dst (N := 12) rfl ?_); refine box_event ?hg (N := 12) ?hd (cs := #[.slice none 0 0, .int .i64 0]) (t := 41) ?hr ?_; (case hd => rfl); (case hg => rfl); (case hr => first | (go_simp; done) | (go_simp; rfl)); intro gb487 hg w91 hbox hb; have n0_ := Aside0.mk (Kd.R_below (by (with_reducible repeat (first | apply Kd.R_alloc | apply Kd.R_drewN | apply Kd.R_drew)); exact HO_457000.out) hb); have n1_ := Aside0.mk (Kd.R_below (by (with_reducible repeat (first | apply Kd.R_alloc | apply Kd.R_drewN | apply Kd.R_drew)); exact HO_462000.out) hb); have n2_ := Aside0.mk (Kd.R_below (by (with_reducible repeat (first | apply Kd.R_alloc | apply Kd.R_drewN | apply Kd.R_drew)); exact HO_467000.out) hb); have n3_ := Aside0.mk (Kd.R_below (by (with_reducible repeat (first | apply Kd.R_alloc | apply Kd.R_drewN | apply Kd.R_drew)); exact HO481.out) hb); have n4_ := Aside0.mk (Kd.R_below (by (with_reducible repeat (first | apply Kd.R_alloc | apply Kd.R_drewN | apply Kd.R_drew)); exact HO485.out) hb); have n5_ := Aside0.mk (blk_below (g := gb446) (o := .cells #[.slice A0_0 l0_0.length c0_0, .int .i64 a0_1] 38 (0, 0)) (by (with_reducible repeat (first | refine blk_drewN ?_ _ | refine blk_drew ?_ | refine blk_alloc ?_ _)); exact BK446.out) hb); have n6_ := Aside0.mk (blk_below (g := gb456) (o := .cells #[.slice Ao22 t452.length co22, .int .i64 t455] 41 (0, 0)) (by (with_reducible repeat (first | refine blk_drewN ?_ _ | refine blk_drew ?_ | refine blk_alloc ?_ _)); exact BK456.out) hb); have n7_ := Aside0.mk (blk_below (g := gb461) (o := .cells #[.slice Ao28 t474.length co28, .int .i64 t460] 41 (0, 0)) (by (with_reducible repeat (first | refine blk_drewN ?_ _ | refine blk_drew ?_ | refine blk_alloc ?_ _)); exact BK461.out) hb); have n8_ := Aside0.mk (blk_below (g := gb466) (o := .cells #[.slice Ao34 t462.length co34, .int .i64 t465] 41 (0, 0)) (by (with_reducible repeat (first | refine blk_drewN ?_ _ | refine blk_drew ?_ | refine blk_alloc ?_ _)); exact BK466.out) hb); have n9_ := Aside0.mk (below_step (by repeat (first | (with_reducible first | exact HB.out | apply below_alloc | apply pw_below_drewN | apply below_drew1 | refine below_set ?_ GE446.out | refine below_set ?_ GE456.out | refine below_set ?_ GE461.out | refine below_set ?_ GE466.out) | exact HB.out)) hb); have n10_ := Aside0.mk (hbox); have n11_ := Aside0.mk ((by rw [hg]; exact (below_size (by repeat (first | (with_reducible first | exact HB.out | apply below_alloc | apply pw_below_drewN | apply below_drew1 | refine below_set ?_ GE446.out | refine below_set ?_ GE456.out | refine below_set ?_ GE461.out | refine below_set ?_ GE466.out) | exact HB.out))) : w.heap.size ≤ gb487)); have n12_ := Aside0.mk ((by rw [hg]; exact (below_size (by repeat (first | (with_reducible first | exact HB.out | apply below_alloc | apply pw_below_drewN | apply below_drew1 | refine below_set ?_ GE446.out | refine below_set ?_ GE456.out | refine below_set ?_ GE461.out | refine below_set ?_ GE466.out) | exact HB.out))) : w.heap.size ≤ gb487)); have n13_ := Aside0.mk ((by rw [hg]; exact Nat.ne_of_lt (blk_lt (g := gb446) (o := .cells #[.slice A0_0 l0_0.length c0_0, .int .i64 a0_1] 38 (0, 0)) (by (with_reducible repeat (first | refine blk_drewN ?_ _ | refine blk_drew ?_ | refine blk_alloc ?_ _)); exact BK446.out)) : gb446 ≠ gb487)); have n14_ := Aside0.mk ((by rw [hg]; exact Nat.ne_of_gt (blk_lt (g := gb446) (o := .cells #[.slice A0_0 l0_0.length c0_0, .int .i64 a0_1] 38 (0, 0)) (by (with_reducible repeat (first | refine blk_drewN ?_ _ | refine blk_drew ?_ | refine blk_alloc ?_ _)); exact BK446.out)) : gb487 ≠ gb446)); have n15_ := Aside0.mk ((by rw [hg]; exact Nat.ne_of_lt (blk_lt (g := gb456) (o := .cells #[.slice Ao22 t452.length co22, .int .i64 t455] 41 (0, 0)) (by (with_reducible repeat (first | refine blk_drewN ?_ _ | refine blk_drew ?_ | refine blk_alloc ?_ _)); exact BK456.out)) : gb456 ≠ gb487)); have n16_ := Aside0.mk ((by rw [hg]; exact Nat.ne_of_gt (blk_lt (g := gb456) (o := .cells #[.slice Ao22 t452.length co22, .int .i64 t455] 41 (0, 0)) (by (with_reducible repeat (first | refine blk_drewN ?_ _ | refine blk_drew ?_ | refine blk_alloc ?_ _)); exact BK456.out)) : gb487 ≠ gb456)); have n17_ := Aside0.mk ((by rw [hg]; exact Nat.ne_of_lt (blk_lt (g := gb461) (o := .cells #[.slice Ao28 t474.length co28, .int .i64 t460] 41 (0, 0)) (by (with_reducible repeat (first | refine blk_drewN ?_ _ | refine blk_drew ?_ | refine blk_alloc ?_ _)); exact BK461.out)) : gb461 ≠ gb487)); have n18_ := Aside0.mk ((by rw [hg]; exact Nat.ne_of_gt (blk_lt (g := gb461) (o := .cells #[.slice Ao28 t474.length co28, .int .i64 t460] 41 (0, 0)) (by (with_reducible repeat (first | refine blk_drewN ?_ _ | refine blk_drew ?_ | refine blk_alloc ?_ _)); exact BK461.out)) : gb487 ≠ gb461)); have n19_ := Aside0.mk ((by rw [hg]; exact Nat.ne_of_lt (blk_lt (g := gb466) (o := .cells #[.slice Ao34 t462.length co34, .int .i64 t465] 41 (0, 0)) (by (with_reducible repeat (first | refine blk_drewN ?_ _ | refine blk_drew ?_ | refine blk_alloc ?_ _)); exact BK466.out)) : gb466 ≠ gb487)); have n20_ := Aside0.mk ((by rw [hg]; exact Nat.ne_of_gt (blk_lt (g := gb466) (o := .cells #[.slice Ao34 t462.length co34, .int .i64 t465] 41 (0, 0)) (by (with_reducible repeat (first | refine blk_drewN ?_ _ | refine blk_drew ?_ | refine blk_alloc ?_ _)); exact BK466.out)) : gb487 ≠ gb466)); clear HO_457000; clear HO_462000; clear HO_467000; clear HO481; clear HO485; clear BK446; clear BK456; clear BK461; clear BK466; clear HB; have HO_457000 := n0_; have HO_462000 := n1_; have HO_467000 := n2_; have HO481 := n3_; have HO485 := n4_; have BK446 := n5_; have BK456 := n6_; have BK461 := n7_; have BK466 := n8_; have HB := n9_; have BK487 := n10_; have GW487 := n11_; have GE487 := n12_; have NB446_487 := n13_; have NB487_446 := n14_; have NB456_487 := n15_; have NB487_456 := n16_; have NB461_487 := n17_; have NB487_461 := n18_; have NB466_487 := n19_; have NB487_466 := n20_; clear n0_ n1_ n2_ n3_ n4_ n5_ n6_ n7_ n8_ n9_ n10_ n11_ n12_ n13_ n14_ n15_ n16_ n17_ n18_ n19_ n20_; clear hb hbox hg; obtain ⟨Ao92, co92, eo92⟩ := Kd.R_slice HO485.out; subst eo92; have hnb93 := NB487_446.out; have hnc93 := NB446_487.out; have hnb94 := NB487_456.out; have hnc94 := NB456_487.out; have hnb95 := NB487_461.out; have hnc95 := NB461_487.out; have hnb96 := NB487_466.out; have hnc96 := NB466_487.out; have hcz97_0 : w91.cell? ⟨gb487, 0, none⟩ = some (.slice none 0 0) := (blk_cell BK487.out 0).trans rfl; have hcz97_1 : w91.cell? ⟨gb487, 1, none⟩ = some (.int .i64 0) := (blk_cell BK487.out 1).trans rfl; have hfz97_0 := blk_frozen BK487.out 0; have hfz97_1 := blk_frozen BK487.out 1; have hnb98 := NB456_461.out; have hnc98 := NB461_456.out; have hnb99 := NB456_466.out; have hnc99 := NB466_456.out; have hcz100_0 : w91.cell? ⟨gb456, 0, none⟩ = some (.slice Ao22 t452.length co22) := (blk_cell BK456.out 0).trans rfl; have hcz100_1 : w91.cell? ⟨gb456, 1, none⟩ = some (.int .i64 t455) := (blk_cell BK456.out 1).trans rfl; have hfz100_0 := blk_frozen BK456.out 0; have hfz100_1 := blk_frozen BK456.out 1) | ((with_reducible refine gate_callee (f := 28) rfl ?_); refine goesL_ (some 67) rfl rfl Try.func28 (by kernel_rfl) rfl #[.agg #[.slice Ao92 t483.length co92, .int .i64 t486], .agg #[.slice Ao22 t452.length co22, .int .i64 t455]] rfl (by (try simp only [List.map_toArray, List.map_cons, List.map_nil]); first | done | rfl | (simp only [List.length_drop, List.length_take]; rfl)) ?_; (with_reducible refine (laws_eqSketch.calls kj50 _ _ t483 t486 _ _ t452 t455 t488 _ ?side1 ?side2 ?side3 ?side4 A82.out).mono ?_); (case side1 => refine (Kd.R_reads' (e := 3) (base := w.heap.size) (ok := fun k_ => ((((True ∧ some k_ ≠ (.slice Ao22 t452.length co22 : Value).ownBlock) ∧ some k_ ≠ (.slice Ao28 t474.length co28 : Value).ownBlock) ∧ some k_ ≠ (.slice Ao34 t462.length co34 : Value).ownBlock) ∧ some k_ ≠ (.slice Ao89 t479.length co89 : Value).ownBlock)) (n := t483.length) (c := co92) ?_).2.2; exact (by (with_reducible repeat (first | apply Kd.R_alloc | apply Kd.R_drewN | apply Kd.R_drew)); exact (Kd.R_mono (Kd.R_far (p := ⟨gb487, 1, none⟩) (Kd.R_far (p := ⟨gb487, 0, none⟩) (Kd.R_types HO485.out BK487.out (by decide)) (fun _ hk => hk.2) (.slice Ao92 t483.length co92)) (fun _ hk => hk.2) (.int .i64 t486)) (fun _ h_ => h_.1)))); (case side2 => exact (Kd.R_reads' HO485.out).2.1); (case side3 => refine (Kd.R_reads' (e := 3) (base := w.heap.size) (ok := fun k_ => (((some k_ ≠ (.slice Ao28 t474.length co28 : Value).ownBlock ∧ some k_ ≠ (.slice Ao34 t462.length co34 : Value).ownBlock) ∧ some k_ ≠ (.slice Ao89 t479.length co89 : Value).ownBlock) ∧ some k_ ≠ (.slice Ao92 t483.length co92 : Value).ownBlock)) (n := t452.length) (c := co22) ?_).2.2; exact (by (with_reducible repeat (first | apply Kd.R_alloc | apply Kd.R_drewN | apply Kd.R_drew)); exact (Kd.R_mono (Kd.R_far (p := ⟨gb487, 1, none⟩) (Kd.R_far (p := ⟨gb487, 0, none⟩) (Kd.R_types HO_457000.out BK487.out (by decide)) (fun _ hk => hk.2) (.slice Ao92 t483.length co92)) (fun _ hk => hk.2) (.int .i64 t486)) (fun _ h_ => h_.1)))); (case side4 => exact (Kd.R_reads' HO_457000.out).2.1); rintro e w101 ⟨rfl, hb⟩; refine ⟨_, rfl, ?_⟩; have n0_ := Aside0.mk (Kd.R_below (by (with_reducible repeat (first | apply Kd.R_alloc | apply Kd.R_drewN | apply Kd.R_drew)); exact (Kd.R_mono (Kd.R_far (p := ⟨gb487, 1, none⟩) (Kd.R_far (p := ⟨gb487, 0, none⟩) (Kd.R_types HO_457000.out BK487.out (by decide)) (fun _ hk => hk.2) (.slice Ao92 t483.length co92)) (fun _ hk => hk.2) (.int .i64 t486)) (fun _ h_ => h_.1))) hb); have n1_ := Aside0.mk (Kd.R_below (by (with_reducible repeat (first | apply Kd.R_alloc | apply Kd.R_drewN | apply Kd.R_drew)); exact (Kd.R_mono (Kd.R_far (p := ⟨gb487, 1, none⟩) (Kd.R_far (p := ⟨gb487, 0, none⟩) (Kd.R_types HO_462000.out BK487.out (by decide)) (fun _ hk => hk.2) (.slice Ao92 t483.length co92)) (fun _ hk => hk.2) (.int .i64 t486)) (fun _ h_ => h_.1))) hb); have n2_ := Aside0.mk (Kd.R_below (by (with_reducible repeat (first | apply Kd.R_alloc | apply Kd.R_drewN | apply Kd.R_drew)); exact (Kd.R_mono (Kd.R_far (p := ⟨gb487, 1, none⟩) (Kd.R_far (p := ⟨gb487, 0, none⟩) (Kd.R_types HO_467000.out BK487.out (by decide)) (fun _ hk => hk.2) (.slice Ao92 t483.length co92)) (fun _ hk => hk.2) (.int .i64 t486)) (fun _ h_ => h_.1))) hb); have n3_ := Aside0.mk (Kd.R_below (by (with_reducible repeat (first | apply Kd.R_alloc | apply Kd.R_drewN | apply Kd.R_drew)); exact (Kd.R_mono (Kd.R_far (p := ⟨gb487, 1, none⟩) (Kd.R_far (p := ⟨gb487, 0, none⟩) (Kd.R_types HO481.out BK487.out (by decide)) (fun _ hk => hk.2) (.slice Ao92 t483.length co92)) (fun _ hk => hk.2) (.int .i64 t486)) (fun _ h_ => h_.1))) hb); have n4_ := Aside0.mk (Kd.R_below (by (with_reducible repeat (first | apply Kd.R_alloc | apply Kd.R_drewN | apply Kd.R_drew)); exact (Kd.R_mono (Kd.R_far (p := ⟨gb487, 1, none⟩) (Kd.R_far (p := ⟨gb487, 0, none⟩) (Kd.R_types HO485.out BK487.out (by decide)) (fun _ hk => hk.2) (.slice Ao92 t483.length co92)) (fun _ hk => hk.2) (.int .i64 t486)) (fun _ h_ => h_.1))) hb); have n5_ := Aside0.mk (blk_below (g := gb446) (o := .cells #[.slice A0_0 l0_0.length c0_0, .int .i64 a0_1] 38 (0, 0)) (by (with_reducible repeat (first | refine blk_drewN ?_ _ | refine blk_drew ?_ | refine blk_alloc ?_ _)); refine blk_far ?_ NB446_487.out _; (with_reducible repeat (first | refine blk_drewN ?_ _ | refine blk_drew ?_ | refine blk_alloc ?_ _)); refine blk_far ?_ NB446_487.out _; (with_reducible repeat (first | refine blk_drewN ?_ _ | refine blk_drew ?_ | refine blk_alloc ?_ _)); exact BK446.out) hb); have n6_ := Aside0.mk (blk_below (g := gb456) (o := .cells #[.slice Ao22 t452.length co22, .int .i64 t455] 41 (0, 0)) (by (with_reducible repeat (first | refine blk_drewN ?_ _ | refine blk_drew ?_ | refine blk_alloc ?_ _)); refine blk_far ?_ NB456_487.out _; (with_reducible repeat (first | refine blk_drewN ?_ _ | refine blk_drew ?_ | refine blk_alloc ?_ _)); refine blk_far ?_ NB456_487.out _; (with_reducible repeat (first | refine blk_drewN ?_ _ | refine blk_drew ?_ | refine blk_alloc ?_ _)); exact BK456.out) hb); have n7_ := Aside0.mk (blk_below (g := gb461) (o := .cells #[.slice Ao28 t474.length co28, .int .i64 t460] 41 (0, 0)) (by (with_reducible repeat (first | refine blk_drewN ?_ _ | refine blk_drew ?_ | refine blk_alloc ?_ _)); refine blk_far ?_ NB461_487.out _; (with_reducible repeat (first | refine blk_drewN ?_ _ | refine blk_drew ?_ | refine blk_alloc ?_ _)); refine blk_far ?_ NB461_487.out _; (with_reducible repeat (first | refine blk_drewN ?_ _ | refine blk_drew ?_ | refine blk_alloc ?_ _)); exact BK461.out) hb); have n8_ := Aside0.mk (blk_below (g := gb466) (o := .cells #[.slice Ao34 t462.length co34, .int .i64 t465] 41 (0, 0)) (by (with_reducible repeat (first | refine blk_drewN ?_ _ | refine blk_drew ?_ | refine blk_alloc ?_ _)); refine blk_far ?_ NB466_487.out _; (with_reducible repeat (first | refine blk_drewN ?_ _ | refine blk_drew ?_ | refine blk_alloc ?_ _)); refine blk_far ?_ NB466_487.out _; (with_reducible repeat (first | refine blk_drewN ?_ _ | refine blk_drew ?_ | refine blk_alloc ?_ _)); exact BK466.out) hb); have n9_ := Aside0.mk (blk_below (g := gb487) (o := .cells #[.slice Ao92 t483.length co92, .int .i64 t486] 41 (0, 0)) (by (with_reducible repeat (first | refine blk_drewN ?_ _ | refine blk_drew ?_ | refine blk_alloc ?_ _)); refine blk_put (cs := #[.slice Ao92 t483.length co92, .int .i64 0]) ?_ 1 _ rfl; (with_reducible repeat (first | refine blk_drewN ?_ _ | refine blk_drew ?_ | refine blk_alloc ?_ _)); refine blk_put (cs := #[.slice none 0 0, .int .i64 0]) ?_ 0 _ rfl; (with_reducible repeat (first | refine blk_drewN ?_ _ | refine blk_drew ?_ | refine blk_alloc ?_ _)); exact BK487.out) hb); have n10_ := Aside0.mk (below_step (by repeat (first | (with_reducible first | exact HB.out | apply below_alloc | apply pw_below_drewN | apply below_drew1 | refine below_set ?_ GE446.out | refine below_set ?_ GE456.out | refine below_set ?_ GE461.out | refine below_set ?_ GE466.out | refine below_set ?_ GE487.out) | exact HB.out)) hb); clear HO_457000; clear HO_462000; clear HO_467000; clear HO481; clear HO485; clear BK446; clear BK456; clear BK461; clear BK466; clear BK487; clear HB; have HO_457000 := n0_; have HO_462000 := n1_; have HO_467000 := n2_; have HO481 := n3_; have HO485 := n4_; have BK446 := n5_; have BK456 := n6_; have BK461 := n7_; have BK466 := n8_; have BK487 := n9_; have HB := n10_; clear n0_ n1_ n2_ n3_ n4_ n5_ n6_ n7_ n8_ n9_ n10_; (try clear hb); (try clear hb2); (try clear hk); (try clear hi)))
                    have H := HF83.out
                    clear HF83
                    by_cases c102 : t488 = true
                    · subst c102
                      have H1 : ((laws_heldSketch.f kj50 t477 t465 1).bind fun t489 => (if t489 < 0 then (some false) else (if t489 = t476 then (some true) else (some false)))) = some r := by rw [if_pos rfl] at H; exact H
                      clear H
                      have H := H1
                      clear H1
                      replace H := Option.bind_eq_some_iff.mp H
                      obtain ⟨t489, A1030, H⟩ := H
                      replace H : (if t489 < 0 then (some false) else (if t489 = t476 then (some true) else (some false))) = some r := H
                      have A103 := Aside0.mk A1030
                      clear A1030
                      have HF104 := Aside0.mk H
                      clear H
                      have hnb105 := NB466_446.out
                      have hnc105 := NB446_466.out
                      have hnb106 := NB466_456.out
                      have hnc106 := NB456_466.out
                      have hnb107 := NB466_461.out
                      have hnc107 := NB461_466.out
                      have hnb108 := NB466_487.out
                      have hnc108 := NB487_466.out
                      have hcz109_0 : w101.cell? ⟨gb466, 0, none⟩ = some (.slice Ao34 t462.length co34) := (blk_cell BK466.out 0).trans rfl
                      have hcz109_1 : w101.cell? ⟨gb466, 1, none⟩ = some (.int .i64 t465) := (blk_cell BK466.out 1).trans rfl
                      have hfz109_0 := blk_frozen BK466.out 0
                      have hfz109_1 := blk_frozen BK466.out 1
                      go_upto_if 73 with (first | ((with_reducible refine gate_callee (f := 39) rfl ?_); refine goesL_ (some 71) rfl rfl Try.func39 (by kernel_rfl) rfl #[.agg #[.slice Ao34 t477.length co34, .int .i64 t465], .int .i64 1] rfl (by (try simp only [List.map_toArray, List.map_cons, List.map_nil]); first | done | (rw [show t477.length = t462.length from (Kd.R_reads' HO_467000.out).1.symm] <;> rfl) | rfl | (simp only [List.length_drop, List.length_take]; rfl)) ?_; (with_reducible refine (laws_heldSketch.calls kj50 _ _ t477 t465 1 t489 _ ?side1 ?side2 A103.out).mono ?_); (case side1 => repeat (first | exact (Kd.R_reads' HO_467000.out).2.2 | (with_reducible refine Kd.C_alloc ?_ _) | (with_reducible refine Kd.C_drewN ?_ _) | (with_reducible refine Kd.C_drew ?_))); (case side2 => rw [show t477.length = t462.length from (Kd.R_reads' HO_467000.out).1.symm]; exact (Kd.R_reads' HO_467000.out).2.1); rintro e w110 ⟨rfl, hb⟩; refine ⟨_, rfl, ?_⟩; have n0_ := Aside0.mk (Kd.R_below (by (with_reducible repeat (first | apply Kd.R_alloc | apply Kd.R_drewN | apply Kd.R_drew)); exact HO_457000.out) hb); have n1_ := Aside0.mk (Kd.R_below (by (with_reducible repeat (first | apply Kd.R_alloc | apply Kd.R_drewN | apply Kd.R_drew)); exact HO_462000.out) hb); have n2_ := Aside0.mk (Kd.R_below (by (with_reducible repeat (first | apply Kd.R_alloc | apply Kd.R_drewN | apply Kd.R_drew)); exact HO_467000.out) hb); have n3_ := Aside0.mk (Kd.R_below (by (with_reducible repeat (first | apply Kd.R_alloc | apply Kd.R_drewN | apply Kd.R_drew)); exact HO481.out) hb); have n4_ := Aside0.mk (Kd.R_below (by (with_reducible repeat (first | apply Kd.R_alloc | apply Kd.R_drewN | apply Kd.R_drew)); exact HO485.out) hb); have n5_ := Aside0.mk (blk_below (g := gb446) (o := .cells #[.slice A0_0 l0_0.length c0_0, .int .i64 a0_1] 38 (0, 0)) (by (with_reducible repeat (first | refine blk_drewN ?_ _ | refine blk_drew ?_ | refine blk_alloc ?_ _)); exact BK446.out) hb); have n6_ := Aside0.mk (blk_below (g := gb456) (o := .cells #[.slice Ao22 t452.length co22, .int .i64 t455] 41 (0, 0)) (by (with_reducible repeat (first | refine blk_drewN ?_ _ | refine blk_drew ?_ | refine blk_alloc ?_ _)); exact BK456.out) hb); have n7_ := Aside0.mk (blk_below (g := gb461) (o := .cells #[.slice Ao28 t474.length co28, .int .i64 t460] 41 (0, 0)) (by (with_reducible repeat (first | refine blk_drewN ?_ _ | refine blk_drew ?_ | refine blk_alloc ?_ _)); exact BK461.out) hb); have n8_ := Aside0.mk (blk_below (g := gb466) (o := .cells #[.slice Ao34 t462.length co34, .int .i64 t465] 41 (0, 0)) (by (with_reducible repeat (first | refine blk_drewN ?_ _ | refine blk_drew ?_ | refine blk_alloc ?_ _)); exact BK466.out) hb); have n9_ := Aside0.mk (blk_below (g := gb487) (o := .cells #[.slice Ao92 t483.length co92, .int .i64 t486] 41 (0, 0)) (by (with_reducible repeat (first | refine blk_drewN ?_ _ | refine blk_drew ?_ | refine blk_alloc ?_ _)); exact BK487.out) hb); have n10_ := Aside0.mk (below_step (by repeat (first | (with_reducible first | exact HB.out | apply below_alloc | apply pw_below_drewN | apply below_drew1 | refine below_set ?_ GE446.out | refine below_set ?_ GE456.out | refine below_set ?_ GE461.out | refine below_set ?_ GE466.out | refine below_set ?_ GE487.out) | exact HB.out)) hb); clear HO_457000; clear HO_462000; clear HO_467000; clear HO481; clear HO485; clear BK446; clear BK456; clear BK461; clear BK466; clear BK487; clear HB; have HO_457000 := n0_; have HO_462000 := n1_; have HO_467000 := n2_; have HO481 := n3_; have HO485 := n4_; have BK446 := n5_; have BK456 := n6_; have BK461 := n7_; have BK466 := n8_; have BK487 := n9_; have HB := n10_; clear n0_ n1_ n2_ n3_ n4_ n5_ n6_ n7_ n8_ n9_ n10_; (try clear hb); (try clear hb2); (try clear hk); (try clear hi)))
                      have H := HF104.out
                      clear HF104
                      by_cases c111 : t489 < 0
                      · rw [if_pos c111] at H
                        have c111b0 : decide (t489 < 0) = true := decide_eq_true c111
                        clear c111
                        (first | rw [c111b0] | (simp only [i64_w, i32_w]; rw [c111b0]) | skip)
                        obtain rfl := Option.some.inj H
                        go_wp2
                        go_ret
                        exact ⟨by first | rfl | (simp [errW_none, errW_some] <;> rfl) | (simp [*, errW_none, errW_some] <;> rfl), by repeat (first | (with_reducible first | exact HB.out | apply below_alloc | apply pw_below_drewN | apply below_drew1 | refine below_set ?_ GE446.out | refine below_set ?_ GE456.out | refine below_set ?_ GE461.out | refine below_set ?_ GE466.out | refine below_set ?_ GE487.out) | exact HB.out)⟩
                      · rw [if_neg c111] at H
                        have c111b0 : decide (t489 < 0) = false := decide_eq_false c111
                        clear c111
                        (first | rw [c111b0] | (simp only [i64_w, i32_w]; rw [c111b0]) | skip)
                        by_cases c112 : t489 = t476
                        · rw [if_pos c112] at H
                          have c112b0 : (t489 == t476) = true := beq_iff_eq.mpr c112
                          have c112b1 : (t489 != t476) = false := bne_eq_false_iff_eq.mpr c112
                          clear c112
                          obtain rfl := Option.some.inj H
                          go_wp2
                          go_ret
                          exact ⟨by first | rfl | (simp [errW_none, errW_some] <;> rfl) | (simp [*, errW_none, errW_some] <;> rfl), by repeat (first | (with_reducible first | exact HB.out | apply below_alloc | apply pw_below_drewN | apply below_drew1 | refine below_set ?_ GE446.out | refine below_set ?_ GE456.out | refine below_set ?_ GE461.out | refine below_set ?_ GE466.out | refine below_set ?_ GE487.out) | exact HB.out)⟩
                        · rw [if_neg c112] at H
                          have c112b0 : (t489 == t476) = false := beq_eq_false_iff_ne.mpr c112
                          have c112b1 : (t489 != t476) = true := bne_iff_ne.mpr c112
                          obtain rfl := Option.some.inj H
                          go_wp2
                          go_ret
                          exact ⟨by first | rfl | (simp [errW_none, errW_some] <;> rfl) | (simp [*, errW_none, errW_some] <;> rfl), by repeat (first | (with_reducible first | exact HB.out | apply below_alloc | apply pw_below_drewN | apply below_drew1 | refine below_set ?_ GE446.out | refine below_set ?_ GE456.out | refine below_set ?_ GE461.out | refine below_set ?_ GE466.out | refine below_set ?_ GE487.out) | exact HB.out)⟩
                    · replace c102 := Bool.eq_false_iff.mpr c102
                      subst c102
                      have H1 : (some false) = some r := by rw [if_neg (show ¬ (false = true) by decide)] at H; exact H
                      clear H
                      have H := H1
                      clear H1
                      obtain rfl := Option.some.inj H
                      go_wp2
                      go_ret
                      exact ⟨by first | rfl | (simp [errW_none, errW_some] <;> rfl) | (simp [*, errW_none, errW_some] <;> rfl), by repeat (first | (with_reducible first | exact HB.out | apply below_alloc | apply pw_below_drewN | apply below_drew1 | refine below_set ?_ GE446.out | refine below_set ?_ GE456.out | refine below_set ?_ GE461.out | refine below_set ?_ GE466.out | refine below_set ?_ GE487.out) | exact HB.out)⟩
                  · rw [if_neg c79] at H
                    have c79b0 : (t478 == t476) = false := beq_eq_false_iff_ne.mpr c79
                    have c79b1 : (t478 != t476) = true := bne_iff_ne.mpr c79
                    obtain rfl := Option.some.inj H
                    go_wp2
                    go_ret
                    exact ⟨by first | rfl | (simp [errW_none, errW_some] <;> rfl) | (simp [*, errW_none, errW_some] <;> rfl), by repeat (first | (with_reducible first | exact HB.out | apply below_alloc | apply pw_below_drewN | apply below_drew1 | refine below_set ?_ GE446.out | refine below_set ?_ GE456.out | refine below_set ?_ GE461.out | refine below_set ?_ GE466.out) | exact HB.out)⟩
        · replace c49 := Bool.eq_false_iff.mpr c49
          subst c49
          have H1 : (some false) = some r := by rw [if_neg (show ¬ (false = true) by decide)] at H; exact H
          clear H
          have H := H1
          clear H1
          obtain rfl := Option.some.inj H
          go_wp2
          go_ret
          exact ⟨by first | rfl | (simp [errW_none, errW_some] <;> rfl) | (simp [*, errW_none, errW_some] <;> rfl), by repeat (first | (with_reducible first | exact HB.out | apply below_alloc | apply pw_below_drewN | apply below_drew1 | refine below_set ?_ GE446.out | refine below_set ?_ GE456.out | refine below_set ?_ GE461.out | refine below_set ?_ GE466.out) | exact HB.out)⟩
      · replace c41 := Bool.eq_false_iff.mpr c41
        subst c41
        have H1 : (some false) = some r := by rw [if_neg (show ¬ (false = true) by decide)] at H; exact H
        clear H
        have H := H1
        clear H1
        obtain rfl := Option.some.inj H
        go_wp2
        go_ret
        exact ⟨by first | rfl | (simp [errW_none, errW_some] <;> rfl) | (simp [*, errW_none, errW_some] <;> rfl), by repeat (first | (with_reducible first | exact HB.out | apply below_alloc | apply pw_below_drewN | apply below_drew1 | refine below_set ?_ GE446.out | refine below_set ?_ GE456.out | refine below_set ?_ GE461.out | refine below_set ?_ GE466.out) | exact HB.out)⟩


end Go.Proofs.Ytelmcjohkifeeaa.PA

namespace Go.Proofs.Ytelmcjohkifeeaa.PA
open Go.RowKit Go.Proofs.YtelmcjohkifeeaaW.PrintWords Go.Proofs.YtelmcjohkifeeaaW.PrintLast Go.Proofs.YtelmcjohkifeeaaW.PrintMore
attribute [local go_sem] max2_int min2_int max_two min_two max_three min_three max_four min_four   -- for this text's walks alone
set_option linter.unusedVariables false
set_option linter.unusedSimpArgs false
/-! ### laws_markText: function 100 -/
def laws_markText.l0 : Nat → Int → ByteArray → Option (ByteArray)
  | 0, _, _ => none
  | k + 1, x0, x3 => if x0 > 0 then ((some (([(wrap64 (48 + (Int.tmod x0 10))) % 256] : List Int) : List Int)).bind fun y320 => (if (strOfNums y320).size + x3.size ≤ 9223372036854775807 then (laws_markText.l0 k (wrap64 (Int.tdiv x0 10)) ((strOfNums y320) ++ x3)) else (none))) else (if 1 + x3.size ≤ 9223372036854775807 then (some ((⟨#[109]⟩ : ByteArray) ++ x3)) else (none))
def laws_markText.f (k : Nat) (a0 : Int) : Option (ByteArray) := if a0 ≤ 0 then (some (⟨#[109, 48]⟩ : ByteArray)) else (laws_markText.l0 k a0 (⟨#[]⟩ : ByteArray))
theorem laws_markText.mono_l : ∀ k, (∀ y0 y1, LeO (laws_markText.l0 k y0 y1) (laws_markText.l0 (k + 1) y0 y1))
  | 0 => fun _ _ r h => by simp [laws_markText.l0] at h
  | k + 1 => by
    have ih0 := laws_markText.mono_l k
    · intro y0 y1
      unfold laws_markText.l0
      repeat' first
      | (with_reducible exact ih0 _ _)
      | (with_reducible exact LeO.refl _)
      | (with_reducible exact LeO.none _)
      | (with_reducible refine LeO.ite ?_ ?_)
      | (with_reducible refine LeO.bind ?_ (fun _ => ?_))
      | exact ih0 _ _
      | exact LeO.none _
      | refine LeO.ite ?_ ?_
      | refine LeO.bind ?_ (fun _ => ?_)
theorem laws_markText.mono : ∀ a0 k, LeO (laws_markText.f k a0) (laws_markText.f (k + 1) a0) := by
  intro a0 k
  have ih0 := laws_markText.mono_l k
  unfold laws_markText.f
  repeat' first
      | (with_reducible exact ih0 _ _)
      | (with_reducible exact LeO.refl _)
      | (with_reducible exact LeO.none _)
      | (with_reducible refine LeO.ite ?_ ?_)
      | (with_reducible refine LeO.bind ?_ (fun _ => ?_))
      | exact ih0 _ _
      | exact LeO.none _
      | refine LeO.ite ?_ ?_
      | refine LeO.bind ?_ (fun _ => ?_)
set_option maxHeartbeats 8000000 in
set_option maxRecDepth 100000 in
theorem laws_markText.calls (k : Nat) (a0 : Int) (r : ByteArray) (w : World) (h : laws_markText.f k a0 = some r) :
    Calls Try.prog 100 #[.int .i64 a0] w fun e w' => e = .returned (.string r) ∧ Below w.heap.size w w' := by
  have HB := Aside0.mk (Below.refl w.heap.size w)
  have H : (if a0 ≤ 0 then (some (⟨#[109, 48]⟩ : ByteArray)) else (laws_markText.l0 k a0 (⟨#[]⟩ : ByteArray))) = some r := h
  clear h
  by_cases c2 : a0 ≤ 0
  · rw [if_pos c2] at H
    have c2b0 : decide (a0 ≤ 0) = true := decide_eq_true c2
    clear c2
    obtain rfl := Option.some.inj H
    go_enter Try.func100, Try.ntmps100
    go_wp2
    go_ret
    exact ⟨by first | rfl | (simp [errW_none, errW_some] <;> rfl) | (simp [*, errW_none, errW_some] <;> rfl), by repeat (first | (with_reducible first | exact HB.out | apply below_alloc | apply pw_below_drewN | apply below_drew1) | exact HB.out)⟩
  · rw [if_neg c2] at H
    have c2b0 : decide (a0 ≤ 0) = false := decide_eq_false c2
    clear c2
    have H' := Aside0.mk H
    clear H
    go_enter Try.func100, Try.ntmps100
    go_wp2
    go_loopg [0, 3] k (fun kq v0 v3 w' => ∃ (x0_1 : Int) (x3_1 : ByteArray), v0 = .int .i64 x0_1 ∧ v3 = .string x3_1 ∧ Aside0 (laws_markText.l0 kq x0_1 x3_1 = some r) ∧ Aside0 (kq ≤ k) ∧ Aside0 (Below w.heap.size w w'))
    case atStart => exact ⟨(a0), ((⟨#[]⟩ : ByteArray)), (by first | rfl | (simp; done) | (simp [*]; done)), (by first | rfl | (simp; done) | (simp [*]; done)), H', ⟨Nat.le_refl _⟩, ⟨by repeat (first | (with_reducible first | exact HB.out | apply below_alloc | apply pw_below_drewN | apply below_drew1) | exact HB.out)⟩⟩
    case round =>
      clear H'
      try clear c1
      try clear c2
      try clear c2b0
      try clear p2
      obtain ⟨x0_1, x3_1, rfl, rfl, HA, HK1, HB⟩ := hrel
      cases gk with
      | zero => exact absurd HA.out (by simp [laws_markText.l0])
      | succ k1 =>
        have H := HA.out
        clear HA
        simp only [laws_markText.l0] at H
        by_cases c3 : x0_1 > 0
        · rw [if_pos c3] at H
          have c3b0 : decide (0 < x0_1) = true := decide_eq_true c3
          clear c3
          obtain ⟨y320, hy320⟩ : ∃ y_ : List Int, y_ = (([(wrap64 (48 + (Int.tmod x0_1 10))) % 256] : List Int)) := ⟨_, rfl⟩
          replace H : (if (strOfNums y320).size + x3_1.size ≤ 9223372036854775807 then (laws_markText.l0 k1 (wrap64 (Int.tdiv x0_1 10)) ((strOfNums y320) ++ x3_1)) else (none)) = some r := by first | (rw [hy320]; with_reducible exact H) | (have H2_ := (Option.bind_some _ _).symm.trans H; rw [hy320]; with_reducible exact H2_) | (have H2_ := (Option.bind_some _ _).symm.trans H; with_reducible exact H2_) | with_reducible exact H | (rw [hy320]; exact H) | exact H
          have Ny320 := Aside0.mk hy320
          clear hy320
          by_cases c4 : (strOfNums y320).size + x3_1.size ≤ 9223372036854775807
          · rw [if_pos c4] at H
            have c4b0 := eq_true c4
            have c4b1 : decide ((strOfNums y320).size + x3_1.size ≤ 9223372036854775807) = true := decide_eq_true c4
            try have c4b2 : (9223372036854775807 < (strOfNums y320).size + x3_1.size) = False := eq_false (Nat.not_lt.2 c4)
            have H' := Aside0.mk H
            clear H
            go_wp2_with (first | ((with_reducible refine gate_dst (N := 12) rfl ?_); refine Kd.R_lit (Kd.int .u8) _ 5 ?hg (N := 12) ?hd (xs := ([(wrap64 (48 + (Int.tmod x0_1 10))) % 256] : List Int)) (inner := [.int .u8 ((wrap64 (48 + (Int.tmod x0_1 10))) % 256)]) (ok := fun _ => True) (okp := fun _ => True) ?hr ?hp (fun _ hk => hk) trivial (Below.refl _ _) (Nat.le_refl _) (by simp) ?_; (case hd => rfl); (case hg => rfl); (case hr => first | (go_simp; done) | (go_simp; rfl)); (case hp => exact (Reps.one (show Kd.M (Kd.int .u8) _ _ _ ((wrap64 (48 + (Int.tmod x0_1 10))) % 256) [.int .u8 ((wrap64 (48 + (Int.tmod x0_1 10))) % 256)] from rfl) (Reps.none _ _))); intro v321 w5 ho6 hb hg_ hnew_; clear hg_ hnew_; (first | rw [← Ny320.out] at ho6 | (simp only [Int.reduceToNat] at ho6; rw [← Ny320.out] at ho6)); have n0_ := Aside0.mk (Kd.R_lower ho6 (below_size (by repeat (first | (with_reducible first | exact HB.out | apply below_alloc | apply pw_below_drewN | apply below_drew1) | exact HB.out)))); have n1_ := Aside0.mk (below_step (by repeat (first | (with_reducible first | exact HB.out | apply below_alloc | apply pw_below_drewN | apply below_drew1) | exact HB.out)) hb); clear HB; have HO322 := n0_; have HB := n1_; clear n0_ n1_; clear hb ho6; have hcv7 := own_string (P := Try.prog) Try.underlying154 Try.underlying5 Try.underlying9 (Kd.own_of_R HO322.out)))
            go_roundg k1
            case measure => have := HK1.out; omega
            case rel => exact ⟨(wrap64 (Int.tdiv x0_1 10)), ((strOfNums y320) ++ x3_1), (by first | rfl | (simp; done) | (simp [*]; done)), (by first | rfl | (simp; done) | (simp [*]; done)), H', ⟨by have := HK1.out; omega⟩, ⟨by repeat (first | (with_reducible first | exact HB.out | apply below_alloc | apply pw_below_drewN | apply below_drew1) | exact HB.out)⟩⟩
          · rw [if_neg c4] at H
            exact absurd H (by simp)
        · rw [if_neg c3] at H
          have c3b0 : decide (0 < x0_1) = false := decide_eq_false c3
          clear c3
          by_cases c8 : 1 + x3_1.size ≤ 9223372036854775807
          · rw [if_pos c8] at H
            have c8b0 := eq_true c8
            have c8b1 : decide (1 + x3_1.size ≤ 9223372036854775807) = true := decide_eq_true c8
            try have c8b2 : (9223372036854775807 < 1 + x3_1.size) = False := eq_false (Nat.not_lt.2 c8)
            obtain rfl := Option.some.inj H
            go_wp2
            go_ret
            exact ⟨by first | rfl | (simp [errW_none, errW_some] <;> rfl) | (simp [*, errW_none, errW_some] <;> rfl), by repeat (first | (with_reducible first | exact HB.out | apply below_alloc | apply pw_below_drewN | apply below_drew1) | exact HB.out)⟩
          · rw [if_neg c8] at H
            exact absurd H (by simp)


end Go.Proofs.Ytelmcjohkifeeaa.PA

namespace Go.Proofs.Ytelmcjohkifeeaa.PA
open Go.RowKit Go.Proofs.YtelmcjohkifeeaaW.PrintWords Go.Proofs.YtelmcjohkifeeaaW.PrintLast Go.Proofs.YtelmcjohkifeeaaW.PrintMore
attribute [local go_sem] max2_int min2_int max_two min_two max_three min_three max_four min_four   -- for this text's walks alone
set_option linter.unusedVariables false
set_option linter.unusedSimpArgs false
/-! ### spec_Min: function 76 -/
def spec_Min.f (a0 : Int) (a1 : Int) : Option (Int) := if a1 < a0 then (some a1) else (some a0)
set_option maxHeartbeats 8000000 in
set_option maxRecDepth 100000 in
theorem spec_Min.calls (a0 : Int) (a1 : Int) (r : Int) (w : World) (h : spec_Min.f a0 a1 = some r) :
    Calls Try.prog 76 #[.int .i64 a0, .int .i64 a1] w fun e w' => e = .returned (.int .i64 r) ∧ Drawn0 w w' := by
  have H : (if a1 < a0 then (some a1) else (some a0)) = some r := h
  clear h
  by_cases c3 : a1 < a0
  · rw [if_pos c3] at H
    have c3b0 : decide (a1 < a0) = true := decide_eq_true c3
    clear c3
    obtain rfl := Option.some.inj H
    go_enter Try.func76, Try.ntmps76
    go_wp2
    go_ret
    exact ⟨by first | rfl | (simp; done) | (simp [*]; done), by repeat (first | exact Drawn0.refl _ | apply Drawn0.step)⟩
  · rw [if_neg c3] at H
    have c3b0 : decide (a1 < a0) = false := decide_eq_false c3
    clear c3
    obtain rfl := Option.some.inj H
    go_enter Try.func76, Try.ntmps76
    go_wp2
    go_ret
    exact ⟨by first | rfl | (simp; done) | (simp [*]; done), by repeat (first | exact Drawn0.refl _ | apply Drawn0.step)⟩


end Go.Proofs.Ytelmcjohkifeeaa.PA
