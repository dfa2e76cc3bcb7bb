/- Printed functions that FnExactStripAnswer reaches, with their contracts. Condition of each: its Lean function answers. -/
import Derived.Test.YtelmcjohkifeeaaZFnExactStripAnswer0
namespace Go.Proofs.Ytelmcjohkifeeaa.PA
open Go.RowKit Go.Proofs.YtelmcjohkifeeaaW.PrintWords Go.Proofs.YtelmcjohkifeeaaW.PrintLast Go.Proofs.YtelmcjohkifeeaaW.PrintMore
attribute [local go_sem] max2_int min2_int max_two min_two max_three min_three max_four min_four   -- for this text's walks alone
set_option linter.unusedVariables false
set_option linter.unusedSimpArgs false
/-! ### laws_FnExactStripAnswer: function 6 -/
def laws_FnExactStripAnswer.j0 : Nat → Bool → Int → List (S145) → ByteArray → Int → List (S146) → ByteArray → Int → List (S146) → ByteArray → Option (Bool)
  | 0, _, _, _, _, _, _, _, _, _, _ => none
  | k + 1, x42, x337000, x337001, x337002, x349000, x349001, x349002, x361000, x361001, x361002 => if x42 = true then (some false) else ((laws_markResponse.f k x361000 x361001 x361002 1).bind fun bt371 => ((laws_heldResponse.f k x361000 bt371.2 x361002 1).bind fun t373 => (if t373 < 0 then (some false) else (if t373 = bt371.1 then ((laws_toResponse.f k x337000 x337001 x337002).bind fun bt374 => ((impl_StripAnswer.f k bt374.1 bt374.2.1 bt374.2.2).bind fun bt379 => ((laws_eqResponse.f k bt379.1 bt379.2.1 bt379.2.2 x349000 x349001 x349002).bind fun t385 => (if t385 = true then ((laws_heldResponse.f k x361000 bt371.2 x361002 1).bind fun t386 => (if t386 < 0 then (some false) else (if t386 = bt371.1 then (some true) else (some false)))) else (some false))))) else (some false)))))
def laws_FnExactStripAnswer.f (k : Nat) (a0_0 : Int) (l0_1 : List (S145)) (a0_2 : ByteArray) : Option (Bool) := (laws_szResponse.f k a0_0 l0_1 a0_2 1048576).bind fun t337 => (if t337 < 0 then (some true) else ((laws_toResponse.f k a0_0 l0_1 a0_2).bind fun bt338 => ((spec_StripAnswer.f k bt338.1 bt338.2.1 bt338.2.2).bind fun bt343 => ((laws_toResponse.f k a0_0 l0_1 a0_2).bind fun bt349 => ((impl_StripAnswer.f k bt349.1 bt349.2.1 bt349.2.2).bind fun bt355 => ((laws_eqResponse.f k bt355.1 bt355.2.1 bt355.2.2 bt343.1 bt343.2.1 bt343.2.2).bind fun t361 => (if t361 = true then ((laws_toResponse.f k a0_0 l0_1 a0_2).bind fun bt362 => ((laws_eqResponse.f k bt349.1 bt349.2.1 bt349.2.2 bt362.1 bt362.2.1 bt362.2.2).bind fun t367 => (if t367 = true then ((laws_markResponse.f k bt349.1 bt349.2.1 bt349.2.2 1).bind fun bt368 => (if bt368.1 < 0 then (laws_FnExactStripAnswer.j0 k true a0_0 l0_1 a0_2 bt343.1 bt343.2.1 bt343.2.2 bt355.1 bt355.2.1 bt355.2.2) else ((laws_eqResponse.f k bt355.1 bt355.2.1 bt355.2.2 bt343.1 bt343.2.1 bt343.2.2).bind fun t370 => (laws_FnExactStripAnswer.j0 k (!t370) a0_0 l0_1 a0_2 bt343.1 bt343.2.1 bt343.2.2 bt355.1 bt355.2.1 bt355.2.2)))) else (some false)))) else (some false))))))))
theorem laws_FnExactStripAnswer.mono_l : ∀ k, (∀ y0 y1 y2 y3 y4 y5 y6 y7 y8 y9, LeO (laws_FnExactStripAnswer.j0 k y0 y1 y2 y3 y4 y5 y6 y7 y8 y9) (laws_FnExactStripAnswer.j0 (k + 1) y0 y1 y2 y3 y4 y5 y6 y7 y8 y9))
  | 0 => fun _ _ _ _ _ _ _ _ _ _ r h => by simp [laws_FnExactStripAnswer.j0] at h
  | k + 1 => by
    have ih0 := laws_FnExactStripAnswer.mono_l k
    · intro y0 y1 y2 y3 y4 y5 y6 y7 y8 y9
      unfold laws_FnExactStripAnswer.j0
      repeat' first
      | (with_reducible exact ih0 _ _ _ _ _ _ _ _ _ _)
      | (with_reducible exact impl_StripAnswer.mono _ _ _ _)
      | (with_reducible exact laws_eqResponse.mono _ _ _ _ _ _ _)
      | (with_reducible exact laws_heldResponse.mono _ _ _ _ _)
      | (with_reducible exact laws_markResponse.mono _ _ _ _ _)
      | (with_reducible exact laws_szResponse.mono _ _ _ _ _)
      | (with_reducible exact laws_toResponse.mono _ _ _ _)
      | (with_reducible exact spec_StripAnswer.mono _ _ _ _)
      | (with_reducible exact LeO.refl _)
      | (with_reducible exact LeO.none _)
      | (with_reducible refine LeO.ite ?_ ?_)
      | (with_reducible refine LeO.bind ?_ (fun _ => ?_))
      | exact ih0 _ _ _ _ _ _ _ _ _ _
      | exact impl_StripAnswer.mono _ _ _ _
      | exact laws_eqResponse.mono _ _ _ _ _ _ _
      | exact laws_heldResponse.mono _ _ _ _ _
      | exact laws_markResponse.mono _ _ _ _ _
      | exact laws_szResponse.mono _ _ _ _ _
      | exact laws_toResponse.mono _ _ _ _
      | exact spec_StripAnswer.mono _ _ _ _
      | exact LeO.none _
      | refine LeO.ite ?_ ?_
      | refine LeO.bind ?_ (fun _ => ?_)
theorem laws_FnExactStripAnswer.mono : ∀ a0 a1 a2 k, LeO (laws_FnExactStripAnswer.f k a0 a1 a2) (laws_FnExactStripAnswer.f (k + 1) a0 a1 a2) := by
  intro a0 a1 a2 k
  have ih0 := laws_FnExactStripAnswer.mono_l k
  unfold laws_FnExactStripAnswer.f
  repeat' first
      | (with_reducible exact ih0 _ _ _ _ _ _ _ _ _ _)
      | (with_reducible exact impl_StripAnswer.mono _ _ _ _)
      | (with_reducible exact laws_eqResponse.mono _ _ _ _ _ _ _)
      | (with_reducible exact laws_heldResponse.mono _ _ _ _ _)
      | (with_reducible exact laws_markResponse.mono _ _ _ _ _)
      | (with_reducible exact laws_szResponse.mono _ _ _ _ _)
      | (with_reducible exact laws_toResponse.mono _ _ _ _)
      | (with_reducible exact spec_StripAnswer.mono _ _ _ _)
      | (with_reducible exact LeO.refl _)
      | (with_reducible exact LeO.none _)
      | (with_reducible refine LeO.ite ?_ ?_)
      | (with_reducible refine LeO.bind ?_ (fun _ => ?_))
      | exact ih0 _ _ _ _ _ _ _ _ _ _
      | exact impl_StripAnswer.mono _ _ _ _
      | exact laws_eqResponse.mono _ _ _ _ _ _ _
      | exact laws_heldResponse.mono _ _ _ _ _
      | exact laws_markResponse.mono _ _ _ _ _
      | exact laws_szResponse.mono _ _ _ _ _
      | exact laws_toResponse.mono _ _ _ _
      | exact spec_StripAnswer.mono _ _ _ _
      | exact LeO.none _
      | refine LeO.ite ?_ ?_
      | refine LeO.bind ?_ (fun _ => ?_)
set_option maxHeartbeats 8000000 in
set_option maxRecDepth 100000 in
theorem laws_FnExactStripAnswer.calls (k : Nat) (a0_0 : Int) (A0_1 : Option Addr) (c0_1 : Nat) (l0_1 : List (S145)) (a0_2 : ByteArray) (r : Bool) (w : World) (hr0_1 : Kd.C k145 w A0_1 l0_1.length l0_1) (hc0_1 : l0_1.length ≤ c0_1) (h : laws_FnExactStripAnswer.f k a0_0 l0_1 a0_2 = some r) :
    Calls Try.prog 6 #[.agg #[.int .i64 a0_0, .slice A0_1 l0_1.length c0_1, .string a0_2]] w fun e w' => e = .returned (.bool r) ∧ Below w.heap.size w w' := by
  have hu47 := Try.underlying47
  have hu51 := Try.underlying51
  have HR0_1 := Aside0.mk hr0_1
  have HC0_1 := Aside0.mk hc0_1
  clear hr0_1 hc0_1
  have HB := Aside0.mk (Below.refl w.heap.size w)
  have H : ((laws_szResponse.f k a0_0 l0_1 a0_2 1048576).bind fun t337 => (if t337 < 0 then (some true) else ((laws_toResponse.f k a0_0 l0_1 a0_2).bind fun bt338 => ((spec_StripAnswer.f k bt338.1 bt338.2.1 bt338.2.2).bind fun bt343 => ((laws_toResponse.f k a0_0 l0_1 a0_2).bind fun bt349 => ((impl_StripAnswer.f k bt349.1 bt349.2.1 bt349.2.2).bind fun bt355 => ((laws_eqResponse.f k bt355.1 bt355.2.1 bt355.2.2 bt343.1 bt343.2.1 bt343.2.2).bind fun t361 => (if t361 = true then ((laws_toResponse.f k a0_0 l0_1 a0_2).bind fun bt362 => ((laws_eqResponse.f k bt349.1 bt349.2.1 bt349.2.2 bt362.1 bt362.2.1 bt362.2.2).bind fun t367 => (if t367 = true then ((laws_markResponse.f k bt349.1 bt349.2.1 bt349.2.2 1).bind fun bt368 => (if bt368.1 < 0 then (laws_FnExactStripAnswer.j0 k true a0_0 l0_1 a0_2 bt343.1 bt343.2.1 bt343.2.2 bt355.1 bt355.2.1 bt355.2.2) else ((laws_eqResponse.f k bt355.1 bt355.2.1 bt355.2.2 bt343.1 bt343.2.1 bt343.2.2).bind fun t370 => (laws_FnExactStripAnswer.j0 k (!t370) a0_0 l0_1 a0_2 bt343.1 bt343.2.1 bt343.2.2 bt355.1 bt355.2.1 bt355.2.2)))) else (some false)))) else (some false))))))))) = some r := h
  clear h
  replace H := Option.bind_eq_some_iff.mp H
  obtain ⟨t337, A20, H⟩ := H
  replace H : (if t337 < 0 then (some true) else ((laws_toResponse.f k a0_0 l0_1 a0_2).bind fun bt338 => ((spec_StripAnswer.f k bt338.1 bt338.2.1 bt338.2.2).bind fun bt343 => ((laws_toResponse.f k a0_0 l0_1 a0_2).bind fun bt349 => ((impl_StripAnswer.f k bt349.1 bt349.2.1 bt349.2.2).bind fun bt355 => ((laws_eqResponse.f k bt355.1 bt355.2.1 bt355.2.2 bt343.1 bt343.2.1 bt343.2.2).bind fun t361 => (if t361 = true then ((laws_toResponse.f k a0_0 l0_1 a0_2).bind fun bt362 => ((laws_eqResponse.f k bt349.1 bt349.2.1 bt349.2.2 bt362.1 bt362.2.1 bt362.2.2).bind fun t367 => (if t367 = true then ((laws_markResponse.f k bt349.1 bt349.2.1 bt349.2.2 1).bind fun bt368 => (if bt368.1 < 0 then (laws_FnExactStripAnswer.j0 k true a0_0 l0_1 a0_2 bt343.1 bt343.2.1 bt343.2.2 bt355.1 bt355.2.1 bt355.2.2) else ((laws_eqResponse.f k bt355.1 bt355.2.1 bt355.2.2 bt343.1 bt343.2.1 bt343.2.2).bind fun t370 => (laws_FnExactStripAnswer.j0 k (!t370) a0_0 l0_1 a0_2 bt343.1 bt343.2.1 bt343.2.2 bt355.1 bt355.2.1 bt355.2.2)))) else (some false)))) else (some false)))))))) = some r := H
  have A2 := Aside0.mk A20
  clear A20
  have HF3 := Aside0.mk H
  clear H
  go_enter Try.func6, Try.ntmps6
  go_upto_if 15 with (first | ((with_reducible refine gate_dst (N := 1) rfl ?_); refine box_event ?hg (N := 1) ?hd (cs := #[.int .i64 a0_0, .slice A0_1 l0_1.length c0_1, .string a0_2]) (t := 47) ?hr ?_; (case hd => rfl); (case hg => rfl); (case hr => first | (go_simp; done) | (go_simp; rfl)); intro gb336 hg w4 hbox hb; have n0_ := Aside0.mk (below_step (by repeat (first | (with_reducible first | exact HB.out | apply below_alloc | apply pw_below_drewN | apply below_drew1) | exact HB.out)) hb); have n1_ := Aside0.mk (hbox); have n2_ := Aside0.mk ((by rw [hg]; exact (below_size (by repeat (first | (with_reducible first | exact HB.out | apply below_alloc | apply pw_below_drewN | apply below_drew1) | exact HB.out))) : w.heap.size ≤ gb336)); have n3_ := Aside0.mk ((by rw [hg]; exact (below_size (by repeat (first | (with_reducible first | exact HB.out | apply below_alloc | apply pw_below_drewN | apply below_drew1) | exact HB.out))) : w.heap.size ≤ gb336)); clear HB; have HB := n0_; have BK336 := n1_; have GW336 := n2_; have GE336 := n3_; clear n0_ n1_ n2_ n3_; clear hb hbox hg; have hcz5_0 : w4.cell? ⟨gb336, 0, none⟩ = some (.int .i64 a0_0) := (blk_cell BK336.out 0).trans rfl; have hcz5_1 : w4.cell? ⟨gb336, 1, none⟩ = some (.slice A0_1 l0_1.length c0_1) := (blk_cell BK336.out 1).trans rfl; have hcz5_2 : w4.cell? ⟨gb336, 2, none⟩ = some (.string a0_2) := (blk_cell BK336.out 2).trans rfl; have hfz5_0 := blk_frozen BK336.out 0; have hfz5_1 := blk_frozen BK336.out 1; have hfz5_2 := blk_frozen BK336.out 2) | ((with_reducible refine gate_callee (f := 29) rfl ?_); refine goesL_ (some 13) rfl rfl Try.func29 (by kernel_rfl) rfl #[.agg #[.int .i64 a0_0, .slice A0_1 l0_1.length c0_1, .string a0_2], .int .i64 1048576] rfl (by (try simp only [List.map_toArray, List.map_cons, List.map_nil]); first | done | rfl | (simp only [List.length_drop, List.length_take]; rfl)) ?_; (with_reducible refine (laws_szResponse.calls k a0_0 _ _ l0_1 a0_2 1048576 t337 _ ?side1 ?side2 A2.out).mono ?_); (case side1 => repeat (first | exact (Kd.C_below HR0_1.out HB.out) | (with_reducible refine Kd.C_alloc ?_ _) | (with_reducible refine Kd.C_drewN ?_ _) | (with_reducible refine Kd.C_drew ?_))); (case side2 => exact HC0_1.out); rintro e w6 ⟨rfl, hb⟩; refine ⟨_, rfl, ?_⟩; have n0_ := Aside0.mk (blk_below (g := gb336) (o := .cells #[.int .i64 a0_0, .slice A0_1 l0_1.length c0_1, .string a0_2] 47 (0, 0)) (by (with_reducible repeat (first | refine blk_drewN ?_ _ | refine blk_drew ?_ | refine blk_alloc ?_ _)); exact BK336.out) hb); have n1_ := Aside0.mk (below_step (by repeat (first | (with_reducible first | exact HB.out | apply below_alloc | apply pw_below_drewN | apply below_drew1 | refine below_set ?_ GE336.out) | exact HB.out)) hb); clear BK336; clear HB; have BK336 := n0_; have HB := n1_; clear n0_ n1_; (try clear hb); (try clear hb2); (try clear hk); (try clear hi)))
  have H := HF3.out
  clear HF3
  by_cases c7 : t337 < 0
  · rw [if_pos c7] at H
    have c7b0 : decide (t337 < 0) = true := decide_eq_true c7
    clear c7
    (first | rw [c7b0] | (simp only [i64_w, i32_w]; rw [c7b0]) | skip)
    obtain rfl := Option.some.inj H
    go_wp2
    go_ret
    exact ⟨by first | rfl | (simp [errW_none, errW_some] <;> rfl) | (simp [*, errW_none, errW_some] <;> rfl), by repeat (first | (with_reducible first | exact HB.out | apply below_alloc | apply pw_below_drewN | apply below_drew1 | refine below_set ?_ GE336.out) | exact HB.out)⟩
  · rw [if_neg c7] at H
    have c7b0 : decide (t337 < 0) = false := decide_eq_false c7
    clear c7
    (first | rw [c7b0] | (simp only [i64_w, i32_w]; rw [c7b0]) | skip)
    replace H := Option.bind_eq_some_iff.mp H
    obtain ⟨⟨t338, t339, t342⟩, A80, H⟩ := H
    replace H : ((spec_StripAnswer.f k t338 t339 t342).bind fun bt343 => ((laws_toResponse.f k a0_0 l0_1 a0_2).bind fun bt349 => ((impl_StripAnswer.f k bt349.1 bt349.2.1 bt349.2.2).bind fun bt355 => ((laws_eqResponse.f k bt355.1 bt355.2.1 bt355.2.2 bt343.1 bt343.2.1 bt343.2.2).bind fun t361 => (if t361 = true then ((laws_toResponse.f k a0_0 l0_1 a0_2).bind fun bt362 => ((laws_eqResponse.f k bt349.1 bt349.2.1 bt349.2.2 bt362.1 bt362.2.1 bt362.2.2).bind fun t367 => (if t367 = true then ((laws_markResponse.f k bt349.1 bt349.2.1 bt349.2.2 1).bind fun bt368 => (if bt368.1 < 0 then (laws_FnExactStripAnswer.j0 k true a0_0 l0_1 a0_2 bt343.1 bt343.2.1 bt343.2.2 bt355.1 bt355.2.1 bt355.2.2) else ((laws_eqResponse.f k bt355.1 bt355.2.1 bt355.2.2 bt343.1 bt343.2.1 bt343.2.2).bind fun t370 => (laws_FnExactStripAnswer.j0 k (!t370) a0_0 l0_1 a0_2 bt343.1 bt343.2.1 bt343.2.2 bt355.1 bt355.2.1 bt355.2.2)))) else (some false)))) else (some false)))))) = some r := H
    have A8 := Aside0.mk A80
    clear A80
    replace H := Option.bind_eq_some_iff.mp H
    obtain ⟨⟨t343, t344, t347⟩, A90, H⟩ := H
    replace H : ((laws_toResponse.f k a0_0 l0_1 a0_2).bind fun bt349 => ((impl_StripAnswer.f k bt349.1 bt349.2.1 bt349.2.2).bind fun bt355 => ((laws_eqResponse.f k bt355.1 bt355.2.1 bt355.2.2 t343 t344 t347).bind fun t361 => (if t361 = true then ((laws_toResponse.f k a0_0 l0_1 a0_2).bind fun bt362 => ((laws_eqResponse.f k bt349.1 bt349.2.1 bt349.2.2 bt362.1 bt362.2.1 bt362.2.2).bind fun t367 => (if t367 = true then ((laws_markResponse.f k bt349.1 bt349.2.1 bt349.2.2 1).bind fun bt368 => (if bt368.1 < 0 then (laws_FnExactStripAnswer.j0 k true a0_0 l0_1 a0_2 t343 t344 t347 bt355.1 bt355.2.1 bt355.2.2) else ((laws_eqResponse.f k bt355.1 bt355.2.1 bt355.2.2 t343 t344 t347).bind fun t370 => (laws_FnExactStripAnswer.j0 k (!t370) a0_0 l0_1 a0_2 t343 t344 t347 bt355.1 bt355.2.1 bt355.2.2)))) else (some false)))) else (some false))))) = some r := H
    have A9 := Aside0.mk A90
    clear A90
    replace H := Option.bind_eq_some_iff.mp H
    obtain ⟨⟨t349, t350, t353⟩, A100, H⟩ := H
    replace H : ((impl_StripAnswer.f k t349 t350 t353).bind fun bt355 => ((laws_eqResponse.f k bt355.1 bt355.2.1 bt355.2.2 t343 t344 t347).bind fun t361 => (if t361 = true then ((laws_toResponse.f k a0_0 l0_1 a0_2).bind fun bt362 => ((laws_eqResponse.f k t349 t350 t353 bt362.1 bt362.2.1 bt362.2.2).bind fun t367 => (if t367 = true then ((laws_markResponse.f k t349 t350 t353 1).bind fun bt368 => (if bt368.1 < 0 then (laws_FnExactStripAnswer.j0 k true a0_0 l0_1 a0_2 t343 t344 t347 bt355.1 bt355.2.1 bt355.2.2) else ((laws_eqResponse.f k bt355.1 bt355.2.1 bt355.2.2 t343 t344 t347).bind fun t370 => (laws_FnExactStripAnswer.j0 k (!t370) a0_0 l0_1 a0_2 t343 t344 t347 bt355.1 bt355.2.1 bt355.2.2)))) else (some false)))) else (some false)))) = some r := H
    have A10 := Aside0.mk A100
    clear A100
    replace H := Option.bind_eq_some_iff.mp H
    obtain ⟨⟨t355, t356, t359⟩, A110, H⟩ := H
    replace H : ((laws_eqResponse.f k t355 t356 t359 t343 t344 t347).bind fun t361 => (if t361 = true then ((laws_toResponse.f k a0_0 l0_1 a0_2).bind fun bt362 => ((laws_eqResponse.f k t349 t350 t353 bt362.1 bt362.2.1 bt362.2.2).bind fun t367 => (if t367 = true then ((laws_markResponse.f k t349 t350 t353 1).bind fun bt368 => (if bt368.1 < 0 then (laws_FnExactStripAnswer.j0 k true a0_0 l0_1 a0_2 t343 t344 t347 t355 t356 t359) else ((laws_eqResponse.f k t355 t356 t359 t343 t344 t347).bind fun t370 => (laws_FnExactStripAnswer.j0 k (!t370) a0_0 l0_1 a0_2 t343 t344 t347 t355 t356 t359)))) else (some false)))) else (some false))) = some r := H
    have A11 := Aside0.mk A110
    clear A110
    replace H := Option.bind_eq_some_iff.mp H
    obtain ⟨t361, A120, H⟩ := H
    replace H : (if t361 = true then ((laws_toResponse.f k a0_0 l0_1 a0_2).bind fun bt362 => ((laws_eqResponse.f k t349 t350 t353 bt362.1 bt362.2.1 bt362.2.2).bind fun t367 => (if t367 = true then ((laws_markResponse.f k t349 t350 t353 1).bind fun bt368 => (if bt368.1 < 0 then (laws_FnExactStripAnswer.j0 k true a0_0 l0_1 a0_2 t343 t344 t347 t355 t356 t359) else ((laws_eqResponse.f k t355 t356 t359 t343 t344 t347).bind fun t370 => (laws_FnExactStripAnswer.j0 k (!t370) a0_0 l0_1 a0_2 t343 t344 t347 t355 t356 t359)))) else (some false)))) else (some false)) = some r := H
    have A12 := Aside0.mk A120
    clear A120
    have HF13 := Aside0.mk H
    clear H
    have hcz14_0 : w6.cell? ⟨gb336, 0, none⟩ = some (.int .i64 a0_0) := (blk_cell BK336.out 0).trans rfl
    have hcz14_1 : w6.cell? ⟨gb336, 1, none⟩ = some (.slice A0_1 l0_1.length c0_1) := (blk_cell BK336.out 1).trans rfl
    have hcz14_2 : w6.cell? ⟨gb336, 2, none⟩ = some (.string a0_2) := (blk_cell BK336.out 2).trans rfl
    have hfz14_0 := blk_frozen BK336.out 0
    have hfz14_1 := blk_frozen BK336.out 1
    have hfz14_2 := blk_frozen BK336.out 2
    go_upto_if 26 with (first | ((with_reducible refine gate_callee (f := 31) rfl ?_); refine goesL_ (some 17) rfl rfl Try.func31 (by kernel_rfl) rfl #[.agg #[.int .i64 a0_0, .slice A0_1 l0_1.length c0_1, .string a0_2]] rfl (by (try simp only [List.map_toArray, List.map_cons, List.map_nil]); first | done | rfl | (simp only [List.length_drop, List.length_take]; rfl)) ?_; (with_reducible refine (laws_toResponse.calls k a0_0 _ _ l0_1 a0_2 t338 t339 t342 _ ?side1 ?side2 A8.out).mono ?_); (case side1 => repeat (first | exact (Kd.C_below HR0_1.out HB.out) | (with_reducible refine Kd.C_alloc ?_ _) | (with_reducible refine Kd.C_drewN ?_ _) | (with_reducible refine Kd.C_drew ?_))); (case side2 => exact HC0_1.out); rintro e w15 ⟨v340, rfl, ho0, hb⟩; refine ⟨_, rfl, ?_⟩; have n0_ := Aside0.mk (Kd.R_lower ho0 (below_size (by repeat (first | (with_reducible first | exact HB.out | apply below_alloc | apply pw_below_drewN | apply below_drew1 | refine below_set ?_ GE336.out) | exact HB.out)))); have n1_ := Aside0.mk (blk_below (g := gb336) (o := .cells #[.int .i64 a0_0, .slice A0_1 l0_1.length c0_1, .string a0_2] 47 (0, 0)) (by (with_reducible repeat (first | refine blk_drewN ?_ _ | refine blk_drew ?_ | refine blk_alloc ?_ _)); exact BK336.out) hb); have n2_ := Aside0.mk (below_step (by repeat (first | (with_reducible first | exact HB.out | apply below_alloc | apply pw_below_drewN | apply below_drew1 | refine below_set ?_ GE336.out) | exact HB.out)) hb); clear BK336; clear HB; have HO341 := n0_; have BK336 := n1_; have HB := n2_; clear n0_ n1_ n2_; (try clear hb); (try clear hb2); (try clear hk); (try clear hi); (try clear ho0); obtain ⟨Ao16, co16, eo16⟩ := Kd.R_slice HO341.out; subst eo16) | ((with_reducible refine gate_callee (f := 30) rfl ?_); refine goesL_ (some 18) rfl rfl Try.func30 (by kernel_rfl) rfl #[.agg #[.int .i64 t338, .slice Ao16 t339.length co16, .string t342]] rfl (by (try simp only [List.map_toArray, List.map_cons, List.map_nil]); first | done | rfl | (simp only [List.length_drop, List.length_take]; rfl)) ?_; (with_reducible refine (spec_StripAnswer.calls k t338 _ _ t339 t342 t343 t344 t347 _ ?side1 ?side2 A9.out).mono ?_); (case side1 => repeat (first | exact (Kd.R_reads' HO341.out).2.2 | (with_reducible refine Kd.C_alloc ?_ _) | (with_reducible refine Kd.C_drewN ?_ _) | (with_reducible refine Kd.C_drew ?_))); (case side2 => exact (Kd.R_reads' HO341.out).2.1); rintro e w17 ⟨v345, rfl, ho0, hb⟩; refine ⟨_, rfl, ?_⟩; have n0_ := Aside0.mk (Kd.R_elder' (by (with_reducible repeat (first | apply Kd.R_alloc | apply Kd.R_drewN | apply Kd.R_drew)); exact HO341.out) (Kd.R_base ho0) hb); have n1_ := Aside0.mk (Kd.R_lower (Kd.R_new' ho0 (Kd.R_lt (by (with_reducible repeat (first | apply Kd.R_alloc | apply Kd.R_drewN | apply Kd.R_drew)); exact HO341.out))) (below_size (by repeat (first | (with_reducible first | exact HB.out | apply below_alloc | apply pw_below_drewN | apply below_drew1 | refine below_set ?_ GE336.out) | exact HB.out)))); have n2_ := Aside0.mk (blk_below (g := gb336) (o := .cells #[.int .i64 a0_0, .slice A0_1 l0_1.length c0_1, .string a0_2] 47 (0, 0)) (by (with_reducible repeat (first | refine blk_drewN ?_ _ | refine blk_drew ?_ | refine blk_alloc ?_ _)); exact BK336.out) hb); have n3_ := Aside0.mk (below_step (by repeat (first | (with_reducible first | exact HB.out | apply below_alloc | apply pw_below_drewN | apply below_drew1 | refine below_set ?_ GE336.out) | exact HB.out)) hb); clear HO341; clear BK336; clear HB; have HO341 := n0_; have HO346 := n1_; have BK336 := n2_; have HB := n3_; clear n0_ n1_ n2_ n3_; (try clear hb); (try clear hb2); (try clear hk); (try clear hi); (try clear ho0)) | ((with_reducible refine gate_dst (N := 4) rfl ?_); refine box_event ?hg (N := 4) ?hd (cs := #[.int .i64 0, .slice none 0 0, .string (⟨#[]⟩ : ByteArray)]) (t := 51) ?hr ?_; (case hd => rfl); (case hg => rfl); (case hr => first | (go_simp; done) | (go_simp; rfl)); intro gb348 hg w18 hbox hb; have n0_ := Aside0.mk (Kd.R_below (by (with_reducible repeat (first | apply Kd.R_alloc | apply Kd.R_drewN | apply Kd.R_drew)); exact HO341.out) hb); have n1_ := Aside0.mk (Kd.R_below (by (with_reducible repeat (first | apply Kd.R_alloc | apply Kd.R_drewN | apply Kd.R_drew)); exact HO346.out) hb); have n2_ := Aside0.mk (blk_below (g := gb336) (o := .cells #[.int .i64 a0_0, .slice A0_1 l0_1.length c0_1, .string a0_2] 47 (0, 0)) (by (with_reducible repeat (first | refine blk_drewN ?_ _ | refine blk_drew ?_ | refine blk_alloc ?_ _)); exact BK336.out) hb); have n3_ := Aside0.mk (below_step (by repeat (first | (with_reducible first | exact HB.out | apply below_alloc | apply pw_below_drewN | apply below_drew1 | refine below_set ?_ GE336.out) | exact HB.out)) hb); have n4_ := Aside0.mk (hbox); have n5_ := Aside0.mk ((by rw [hg]; exact (below_size (by repeat (first | (with_reducible first | exact HB.out | apply below_alloc | apply pw_below_drewN | apply below_drew1 | refine below_set ?_ GE336.out) | exact HB.out))) : w.heap.size ≤ gb348)); have n6_ := Aside0.mk ((by rw [hg]; exact (below_size (by repeat (first | (with_reducible first | exact HB.out | apply below_alloc | apply pw_below_drewN | apply below_drew1 | refine below_set ?_ GE336.out) | exact HB.out))) : w.heap.size ≤ gb348)); have n7_ := Aside0.mk ((by rw [hg]; exact Nat.ne_of_lt (blk_lt (g := gb336) (o := .cells #[.int .i64 a0_0, .slice A0_1 l0_1.length c0_1, .string a0_2] 47 (0, 0)) (by (with_reducible repeat (first | refine blk_drewN ?_ _ | refine blk_drew ?_ | refine blk_alloc ?_ _)); exact BK336.out)) : gb336 ≠ gb348)); have n8_ := Aside0.mk ((by rw [hg]; exact Nat.ne_of_gt (blk_lt (g := gb336) (o := .cells #[.int .i64 a0_0, .slice A0_1 l0_1.length c0_1, .string a0_2] 47 (0, 0)) (by (with_reducible repeat (first | refine blk_drewN ?_ _ | refine blk_drew ?_ | refine blk_alloc ?_ _)); exact BK336.out)) : gb348 ≠ gb336)); clear HO341; clear HO346; clear BK336; clear HB; have HO341 := n0_; have HO346 := n1_; have BK336 := n2_; have HB := n3_; have BK348 := n4_; have GW348 := n5_; have GE348 := n6_; have NB336_348 := n7_; have NB348_336 := n8_; clear n0_ n1_ n2_ n3_ n4_ n5_ n6_ n7_ n8_; clear hb hbox hg; have hnb19 := NB348_336.out; have hnc19 := NB336_348.out; have hcz20_0 : w18.cell? ⟨gb348, 0, none⟩ = some (.int .i64 0) := (blk_cell BK348.out 0).trans rfl; have hcz20_1 : w18.cell? ⟨gb348, 1, none⟩ = some (.slice none 0 0) := (blk_cell BK348.out 1).trans rfl; have hcz20_2 : w18.cell? ⟨gb348, 2, none⟩ = some (.string (⟨#[]⟩ : ByteArray)) := (blk_cell BK348.out 2).trans rfl; have hfz20_0 := blk_frozen BK348.out 0; have hfz20_1 := blk_frozen BK348.out 1; have hfz20_2 := blk_frozen BK348.out 2; obtain ⟨Ao21, co21, eo21⟩ := Kd.R_slice HO346.out; subst eo21; have hcz22_0 : w18.cell? ⟨gb336, 0, none⟩ = some (.int .i64 a0_0) := (blk_cell BK336.out 0).trans rfl; have hcz22_1 : w18.cell? ⟨gb336, 1, none⟩ = some (.slice A0_1 l0_1.length c0_1) := (blk_cell BK336.out 1).trans rfl; have hcz22_2 : w18.cell? ⟨gb336, 2, none⟩ = some (.string a0_2) := (blk_cell BK336.out 2).trans rfl; have hfz22_0 := blk_frozen BK336.out 0; have hfz22_1 := blk_frozen BK336.out 1; have hfz22_2 := blk_frozen BK336.out 2) | ((with_reducible refine gate_callee (f := 31) rfl ?_); refine goesL_ (some 20) rfl rfl Try.func31 (by kernel_rfl) rfl #[.agg #[.int .i64 a0_0, .slice A0_1 l0_1.length c0_1, .string a0_2]] rfl (by (try simp only [List.map_toArray, List.map_cons, List.map_nil]); first | done | rfl | (simp only [List.length_drop, List.length_take]; rfl)) ?_; (with_reducible refine (laws_toResponse.calls k a0_0 _ _ l0_1 a0_2 t349 t350 t353 _ ?side1 ?side2 A10.out).mono ?_); (case side1 => exact Kd.C_below HR0_1.out (by repeat (first | (with_reducible first | exact HB.out | apply below_alloc | apply pw_below_drewN | apply below_drew1 | refine below_set ?_ GE336.out | refine below_set ?_ GE348.out) | exact HB.out))); (case side2 => exact HC0_1.out); rintro e w23 ⟨v351, rfl, ho0, hb⟩; refine ⟨_, rfl, ?_⟩; have n0_ := Aside0.mk (Kd.R_elder' (by (with_reducible repeat (first | apply Kd.R_alloc | apply Kd.R_drewN | apply Kd.R_drew)); exact (Kd.R_mono (Kd.R_far (p := ⟨gb348, 2, none⟩) (Kd.R_far (p := ⟨gb348, 1, none⟩) (Kd.R_far (p := ⟨gb348, 0, none⟩) (Kd.R_types HO341.out BK348.out (by decide)) (fun _ hk => hk.2) (.int .i64 t343)) (fun _ hk => hk.2) (.slice Ao21 t344.length co21)) (fun _ hk => hk.2) (.string t347)) (fun _ h_ => h_.1))) (Kd.R_base ho0) hb); have n1_ := Aside0.mk (Kd.R_elder' (by (with_reducible repeat (first | apply Kd.R_alloc | apply Kd.R_drewN | apply Kd.R_drew)); exact (Kd.R_mono (Kd.R_far (p := ⟨gb348, 2, none⟩) (Kd.R_far (p := ⟨gb348, 1, none⟩) (Kd.R_far (p := ⟨gb348, 0, none⟩) (Kd.R_types HO346.out BK348.out (by decide)) (fun _ hk => hk.2) (.int .i64 t343)) (fun _ hk => hk.2) (.slice Ao21 t344.length co21)) (fun _ hk => hk.2) (.string t347)) (fun _ h_ => h_.1))) (Kd.R_base ho0) hb); have n2_ := Aside0.mk (Kd.R_lower (Kd.R_new' (Kd.R_new' ho0 (Kd.R_lt (by (with_reducible repeat (first | apply Kd.R_alloc | apply Kd.R_drewN | apply Kd.R_drew)); exact (Kd.R_mono (Kd.R_far (p := ⟨gb348, 2, none⟩) (Kd.R_far (p := ⟨gb348, 1, none⟩) (Kd.R_far (p := ⟨gb348, 0, none⟩) (Kd.R_types HO341.out BK348.out (by decide)) (fun _ hk => hk.2) (.int .i64 t343)) (fun _ hk => hk.2) (.slice Ao21 t344.length co21)) (fun _ hk => hk.2) (.string t347)) (fun _ h_ => h_.1))))) (Kd.R_lt (by (with_reducible repeat (first | apply Kd.R_alloc | apply Kd.R_drewN | apply Kd.R_drew)); exact (Kd.R_mono (Kd.R_far (p := ⟨gb348, 2, none⟩) (Kd.R_far (p := ⟨gb348, 1, none⟩) (Kd.R_far (p := ⟨gb348, 0, none⟩) (Kd.R_types HO346.out BK348.out (by decide)) (fun _ hk => hk.2) (.int .i64 t343)) (fun _ hk => hk.2) (.slice Ao21 t344.length co21)) (fun _ hk => hk.2) (.string t347)) (fun _ h_ => h_.1))))) (below_size (by repeat (first | (with_reducible first | exact HB.out | apply below_alloc | apply pw_below_drewN | apply below_drew1 | refine below_set ?_ GE336.out | refine below_set ?_ GE348.out) | exact HB.out)))); have n3_ := Aside0.mk (blk_below (g := gb336) (o := .cells #[.int .i64 a0_0, .slice A0_1 l0_1.length c0_1, .string a0_2] 47 (0, 0)) (by (with_reducible repeat (first | refine blk_drewN ?_ _ | refine blk_drew ?_ | refine blk_alloc ?_ _)); refine blk_far ?_ NB336_348.out _; (with_reducible repeat (first | refine blk_drewN ?_ _ | refine blk_drew ?_ | refine blk_alloc ?_ _)); refine blk_far ?_ NB336_348.out _; (with_reducible repeat (first | refine blk_drewN ?_ _ | refine blk_drew ?_ | refine blk_alloc ?_ _)); refine blk_far ?_ NB336_348.out _; (with_reducible repeat (first | refine blk_drewN ?_ _ | refine blk_drew ?_ | refine blk_alloc ?_ _)); exact BK336.out) hb); have n4_ := Aside0.mk (blk_below (g := gb348) (o := .cells #[.int .i64 t343, .slice Ao21 t344.length co21, .string t347] 51 (0, 0)) (by (with_reducible repeat (first | refine blk_drewN ?_ _ | refine blk_drew ?_ | refine blk_alloc ?_ _)); refine blk_put (cs := #[.int .i64 t343, .slice Ao21 t344.length co21, .string (⟨#[]⟩ : ByteArray)]) ?_ 2 _ rfl; (with_reducible repeat (first | refine blk_drewN ?_ _ | refine blk_drew ?_ | refine blk_alloc ?_ _)); refine blk_put (cs := #[.int .i64 t343, .slice none 0 0, .string (⟨#[]⟩ : ByteArray)]) ?_ 1 _ rfl; (with_reducible repeat (first | refine blk_drewN ?_ _ | refine blk_drew ?_ | refine blk_alloc ?_ _)); refine blk_put (cs := #[.int .i64 0, .slice none 0 0, .string (⟨#[]⟩ : ByteArray)]) ?_ 0 _ rfl; (with_reducible repeat (first | refine blk_drewN ?_ _ | refine blk_drew ?_ | refine blk_alloc ?_ _)); exact BK348.out) hb); have n5_ := Aside0.mk (below_step (by repeat (first | (with_reducible first | exact HB.out | apply below_alloc | apply pw_below_drewN | apply below_drew1 | refine below_set ?_ GE336.out | refine below_set ?_ GE348.out) | exact HB.out)) hb); clear HO341; clear HO346; clear BK336; clear BK348; clear HB; have HO341 := n0_; have HO346 := n1_; have HO352 := n2_; have BK336 := n3_; have BK348 := n4_; have HB := n5_; clear n0_ n1_ n2_ n3_ n4_ n5_; (try clear hb); (try clear hb2); (try clear hk); (try clear hi); (try clear ho0)) | ((with_reducible refine gate_dst (N := 5) rfl ?_); refine box_event ?hg (N := 5) ?hd (cs := #[.int .i64 0, .slice none 0 0, .string (⟨#[]⟩ : ByteArray)]) (t := 51) ?hr ?_; (case hd => rfl); (case hg => rfl); (case hr => first | (go_simp; done) | (go_simp; rfl)); intro gb354 hg w24 hbox hb; have n0_ := Aside0.mk (Kd.R_below (by (with_reducible repeat (first | apply Kd.R_alloc | apply Kd.R_drewN | apply Kd.R_drew)); exact HO341.out) hb); have n1_ := Aside0.mk (Kd.R_below (by (with_reducible repeat (first | apply Kd.R_alloc | apply Kd.R_drewN | apply Kd.R_drew)); exact HO346.out) hb); have n2_ := Aside0.mk (Kd.R_below (by (with_reducible repeat (first | apply Kd.R_alloc | apply Kd.R_drewN | apply Kd.R_drew)); exact HO352.out) hb); have n3_ := Aside0.mk (blk_below (g := gb336) (o := .cells #[.int .i64 a0_0, .slice A0_1 l0_1.length c0_1, .string a0_2] 47 (0, 0)) (by (with_reducible repeat (first | refine blk_drewN ?_ _ | refine blk_drew ?_ | refine blk_alloc ?_ _)); exact BK336.out) hb); have n4_ := Aside0.mk (blk_below (g := gb348) (o := .cells #[.int .i64 t343, .slice Ao21 t344.length co21, .string t347] 51 (0, 0)) (by (with_reducible repeat (first | refine blk_drewN ?_ _ | refine blk_drew ?_ | refine blk_alloc ?_ _)); exact BK348.out) hb); have n5_ := Aside0.mk (below_step (by repeat (first | (with_reducible first | exact HB.out | apply below_alloc | apply pw_below_drewN | apply below_drew1 | refine below_set ?_ GE336.out | refine below_set ?_ GE348.out) | exact HB.out)) hb); have n6_ := Aside0.mk (hbox); have n7_ := Aside0.mk ((by rw [hg]; exact (below_size (by repeat (first | (with_reducible first | exact HB.out | apply below_alloc | apply pw_below_drewN | apply below_drew1 | refine below_set ?_ GE336.out | refine below_set ?_ GE348.out) | exact HB.out))) : w.heap.size ≤ gb354)); have n8_ := Aside0.mk ((by rw [hg]; exact (below_size (by repeat (first | (with_reducible first | exact HB.out | apply below_alloc | apply pw_below_drewN | apply below_drew1 | refine below_set ?_ GE336.out | refine below_set ?_ GE348.out) | exact HB.out))) : w.heap.size ≤ gb354)); have n9_ := Aside0.mk ((by rw [hg]; exact Nat.ne_of_lt (blk_lt (g := gb336) (o := .cells #[.int .i64 a0_0, .slice A0_1 l0_1.length c0_1, .string a0_2] 47 (0, 0)) (by (with_reducible repeat (first | refine blk_drewN ?_ _ | refine blk_drew ?_ | refine blk_alloc ?_ _)); exact BK336.out)) : gb336 ≠ gb354)); have n10_ := Aside0.mk ((by rw [hg]; exact Nat.ne_of_gt (blk_lt (g := gb336) (o := .cells #[.int .i64 a0_0, .slice A0_1 l0_1.length c0_1, .string a0_2] 47 (0, 0)) (by (with_reducible repeat (first | refine blk_drewN ?_ _ | refine blk_drew ?_ | refine blk_alloc ?_ _)); exact BK336.out)) : gb354 ≠ gb336)); have n11_ := Aside0.mk ((by rw [hg]; exact Nat.ne_of_lt (blk_lt (g := gb348) (o := .cells #[.int .i64 t343, .slice Ao21 t344.length co21, .string t347] 51 (0, 0)) (by (with_reducible repeat (first | refine blk_drewN ?_ _ | refine blk_drew ?_ | refine blk_alloc ?_ _)); exact BK348.out)) : gb348 ≠ gb354)); have n12_ := Aside0.mk ((by rw [hg]; exact Nat.ne_of_gt (blk_lt (g := gb348) (o := .cells #[.int .i64 t343, .slice Ao21 t344.length co21, .string t347] 51 (0, 0)) (by (with_reducible repeat (first | refine blk_drewN ?_ _ | refine blk_drew ?_ | refine blk_alloc ?_ _)); exact BK348.out)) : gb354 ≠ gb348)); clear HO341; clear HO346; clear HO352; clear BK336; clear BK348; clear HB; have HO341 := n0_; have HO346 := n1_; have HO352 := n2_; have BK336 := n3_; have BK348 := n4_; have HB := n5_; have BK354 := n6_; have GW354 := n7_; have GE354 := n8_; have NB336_354 := n9_; have NB354_336 := n10_; have NB348_354 := n11_; have NB354_348 := n12_; clear n0_ n1_ n2_ n3_ n4_ n5_ n6_ n7_ n8_ n9_ n10_ n11_ n12_; clear hb hbox hg; have hnb25 := NB354_336.out; have hnc25 := NB336_354.out; have hnb26 := NB354_348.out; have hnc26 := NB348_354.out; have hcz27_0 : w24.cell? ⟨gb354, 0, none⟩ = some (.int .i64 0) := (blk_cell BK354.out 0).trans rfl; have hcz27_1 : w24.cell? ⟨gb354, 1, none⟩ = some (.slice none 0 0) := (blk_cell BK354.out 1).trans rfl; have hcz27_2 : w24.cell? ⟨gb354, 2, none⟩ = some (.string (⟨#[]⟩ : ByteArray)) := (blk_cell BK354.out 2).trans rfl; have hfz27_0 := blk_frozen BK354.out 0; have hfz27_1 := blk_frozen BK354.out 1; have hfz27_2 := blk_frozen BK354.out 2; obtain ⟨Ao28, co28, eo28⟩ := Kd.R_slice HO352.out; subst eo28) | ((with_reducible refine gate_callee (f := 32) rfl ?_); refine goesL_ (some 22) rfl rfl Try.func32 (by kernel_rfl) rfl #[.agg #[.int .i64 t349, .slice Ao28 t350.length co28, .string t353]] rfl (by (try simp only [List.map_toArray, List.map_cons, List.map_nil]); first | done | rfl | (simp only [List.length_drop, List.length_take]; rfl)) ?_; (with_reducible refine (impl_StripAnswer.calls k t349 _ _ t350 t353 t355 t356 t359 _ ?side1 ?side2 A11.out).mono ?_); (case side1 => refine (Kd.R_reads' (e := 146) (base := w.heap.size) (ok := fun k_ => ((True ∧ some k_ ≠ (.slice Ao16 t339.length co16 : Value).ownBlock) ∧ some k_ ≠ (.slice Ao21 t344.length co21 : Value).ownBlock)) (n := t350.length) (c := co28) ?_).2.2; exact (by (with_reducible repeat (first | apply Kd.R_alloc | apply Kd.R_drewN | apply Kd.R_drew)); exact (Kd.R_mono (Kd.R_far (p := ⟨gb354, 2, none⟩) (Kd.R_far (p := ⟨gb354, 1, none⟩) (Kd.R_far (p := ⟨gb354, 0, none⟩) (Kd.R_types HO352.out BK354.out (by decide)) (fun _ hk => hk.2) (.int .i64 t349)) (fun _ hk => hk.2) (.slice Ao28 t350.length co28)) (fun _ hk => hk.2) (.string t353)) (fun _ h_ => h_.1)))); (case side2 => exact (Kd.R_reads' HO352.out).2.1); rintro e w29 ⟨v357, rfl, ho0, hb⟩; refine ⟨_, rfl, ?_⟩; have n0_ := Aside0.mk (Kd.R_elder' (by (with_reducible repeat (first | apply Kd.R_alloc | apply Kd.R_drewN | apply Kd.R_drew)); exact (Kd.R_mono (Kd.R_far (p := ⟨gb354, 2, none⟩) (Kd.R_far (p := ⟨gb354, 1, none⟩) (Kd.R_far (p := ⟨gb354, 0, none⟩) (Kd.R_types HO341.out BK354.out (by decide)) (fun _ hk => hk.2) (.int .i64 t349)) (fun _ hk => hk.2) (.slice Ao28 t350.length co28)) (fun _ hk => hk.2) (.string t353)) (fun _ h_ => h_.1))) (Kd.R_base ho0) hb); have n1_ := Aside0.mk (Kd.R_elder' (by (with_reducible repeat (first | apply Kd.R_alloc | apply Kd.R_drewN | apply Kd.R_drew)); exact (Kd.R_mono (Kd.R_far (p := ⟨gb354, 2, none⟩) (Kd.R_far (p := ⟨gb354, 1, none⟩) (Kd.R_far (p := ⟨gb354, 0, none⟩) (Kd.R_types HO346.out BK354.out (by decide)) (fun _ hk => hk.2) (.int .i64 t349)) (fun _ hk => hk.2) (.slice Ao28 t350.length co28)) (fun _ hk => hk.2) (.string t353)) (fun _ h_ => h_.1))) (Kd.R_base ho0) hb); have n2_ := Aside0.mk (Kd.R_elder' (by (with_reducible repeat (first | apply Kd.R_alloc | apply Kd.R_drewN | apply Kd.R_drew)); exact (Kd.R_mono (Kd.R_far (p := ⟨gb354, 2, none⟩) (Kd.R_far (p := ⟨gb354, 1, none⟩) (Kd.R_far (p := ⟨gb354, 0, none⟩) (Kd.R_types HO352.out BK354.out (by decide)) (fun _ hk => hk.2) (.int .i64 t349)) (fun _ hk => hk.2) (.slice Ao28 t350.length co28)) (fun _ hk => hk.2) (.string t353)) (fun _ h_ => h_.1))) (Kd.R_base ho0) hb); have n3_ := Aside0.mk (Kd.R_lower (Kd.R_new' (Kd.R_new' (Kd.R_new' ho0 (Kd.R_lt (by (with_reducible repeat (first | apply Kd.R_alloc | apply Kd.R_drewN | apply Kd.R_drew)); exact (Kd.R_mono (Kd.R_far (p := ⟨gb354, 2, none⟩) (Kd.R_far (p := ⟨gb354, 1, none⟩) (Kd.R_far (p := ⟨gb354, 0, none⟩) (Kd.R_types HO341.out BK354.out (by decide)) (fun _ hk => hk.2) (.int .i64 t349)) (fun _ hk => hk.2) (.slice Ao28 t350.length co28)) (fun _ hk => hk.2) (.string t353)) (fun _ h_ => h_.1))))) (Kd.R_lt (by (with_reducible repeat (first | apply Kd.R_alloc | apply Kd.R_drewN | apply Kd.R_drew)); exact (Kd.R_mono (Kd.R_far (p := ⟨gb354, 2, none⟩) (Kd.R_far (p := ⟨gb354, 1, none⟩) (Kd.R_far (p := ⟨gb354, 0, none⟩) (Kd.R_types HO346.out BK354.out (by decide)) (fun _ hk => hk.2) (.int .i64 t349)) (fun _ hk => hk.2) (.slice Ao28 t350.length co28)) (fun _ hk => hk.2) (.string t353)) (fun _ h_ => h_.1))))) (Kd.R_lt (by (with_reducible repeat (first | apply Kd.R_alloc | apply Kd.R_drewN | apply Kd.R_drew)); exact (Kd.R_mono (Kd.R_far (p := ⟨gb354, 2, none⟩) (Kd.R_far (p := ⟨gb354, 1, none⟩) (Kd.R_far (p := ⟨gb354, 0, none⟩) (Kd.R_types HO352.out BK354.out (by decide)) (fun _ hk => hk.2) (.int .i64 t349)) (fun _ hk => hk.2) (.slice Ao28 t350.length co28)) (fun _ hk => hk.2) (.string t353)) (fun _ h_ => h_.1))))) (below_size (by repeat (first | (with_reducible first | exact HB.out | apply below_alloc | apply pw_below_drewN | apply below_drew1 | refine below_set ?_ GE336.out | refine below_set ?_ GE348.out | refine below_set ?_ GE354.out) | exact HB.out)))); have n4_ := Aside0.mk (blk_below (g := gb336) (o := .cells #[.int .i64 a0_0, .slice A0_1 l0_1.length c0_1, .string a0_2] 47 (0, 0)) (by (with_reducible repeat (first | refine blk_drewN ?_ _ | refine blk_drew ?_ | refine blk_alloc ?_ _)); refine blk_far ?_ NB336_354.out _; (with_reducible repeat (first | refine blk_drewN ?_ _ | refine blk_drew ?_ | refine blk_alloc ?_ _)); refine blk_far ?_ NB336_354.out _; (with_reducible repeat (first | refine blk_drewN ?_ _ | refine blk_drew ?_ | refine blk_alloc ?_ _)); refine blk_far ?_ NB336_354.out _; (with_reducible repeat (first | refine blk_drewN ?_ _ | refine blk_drew ?_ | refine blk_alloc ?_ _)); exact BK336.out) hb); have n5_ := Aside0.mk (blk_below (g := gb348) (o := .cells #[.int .i64 t343, .slice Ao21 t344.length co21, .string t347] 51 (0, 0)) (by (with_reducible repeat (first | refine blk_drewN ?_ _ | refine blk_drew ?_ | refine blk_alloc ?_ _)); refine blk_far ?_ NB348_354.out _; (with_reducible repeat (first | refine blk_drewN ?_ _ | refine blk_drew ?_ | refine blk_alloc ?_ _)); refine blk_far ?_ NB348_354.out _; (with_reducible repeat (first | refine blk_drewN ?_ _ | refine blk_drew ?_ | refine blk_alloc ?_ _)); refine blk_far ?_ NB348_354.out _; (with_reducible repeat (first | refine blk_drewN ?_ _ | refine blk_drew ?_ | refine blk_alloc ?_ _)); exact BK348.out) hb); have n6_ := Aside0.mk (blk_below (g := gb354) (o := .cells #[.int .i64 t349, .slice Ao28 t350.length co28, .string t353] 51 (0, 0)) (by (with_reducible repeat (first | refine blk_drewN ?_ _ | refine blk_drew ?_ | refine blk_alloc ?_ _)); refine blk_put (cs := #[.int .i64 t349, .slice Ao28 t350.length co28, .string (⟨#[]⟩ : ByteArray)]) ?_ 2 _ rfl; (with_reducible repeat (first | refine blk_drewN ?_ _ | refine blk_drew ?_ | refine blk_alloc ?_ _)); refine blk_put (cs := #[.int .i64 t349, .slice none 0 0, .string (⟨#[]⟩ : ByteArray)]) ?_ 1 _ rfl; (with_reducible repeat (first | refine blk_drewN ?_ _ | refine blk_drew ?_ | refine blk_alloc ?_ _)); refine blk_put (cs := #[.int .i64 0, .slice none 0 0, .string (⟨#[]⟩ : ByteArray)]) ?_ 0 _ rfl; (with_reducible repeat (first | refine blk_drewN ?_ _ | refine blk_drew ?_ | refine blk_alloc ?_ _)); exact BK354.out) hb); have n7_ := Aside0.mk (below_step (by repeat (first | (with_reducible first | exact HB.out | apply below_alloc | apply pw_below_drewN | apply below_drew1 | refine below_set ?_ GE336.out | refine below_set ?_ GE348.out | refine below_set ?_ GE354.out) | exact HB.out)) hb); clear HO341; clear HO346; clear HO352; clear BK336; clear BK348; clear BK354; clear HB; have HO341 := n0_; have HO346 := n1_; have HO352 := n2_; have HO358 := n3_; have BK336 := n4_; have BK348 := n5_; have BK354 := n6_; have HB := n7_; clear n0_ n1_ n2_ n3_ n4_ n5_ n6_ n7_; (try clear hb); (try clear hb2); (try clear hk); (try clear hi); (try clear ho0)) | ((with_reducible refine gate_dst (N := 6) rfl ?_); refine box_event ?hg (N := 6) ?hd (cs := #[.int .i64 0, .slice none 0 0, .string (⟨#[]⟩ : ByteArray)]) (t := 51) ?hr ?_; (case hd => rfl); (case hg => rfl); (case hr => first | (go_simp; done) | (go_simp; rfl)); intro gb360 hg w30 hbox hb; have n0_ := Aside0.mk (Kd.R_below (by (with_reducible repeat (first | apply Kd.R_alloc | apply Kd.R_drewN | apply Kd.R_drew)); exact HO341.out) hb); have n1_ := Aside0.mk (Kd.R_below (by (with_reducible repeat (first | apply Kd.R_alloc | apply Kd.R_drewN | apply Kd.R_drew)); exact HO346.out) hb); have n2_ := Aside0.mk (Kd.R_below (by (with_reducible repeat (first | apply Kd.R_alloc | apply Kd.R_drewN | apply Kd.R_drew)); exact HO352.out) hb); have n3_ := Aside0.mk (Kd.R_below (by (with_reducible repeat (first | apply Kd.R_alloc | apply Kd.R_drewN | apply Kd.R_drew)); exact HO358.out) hb); have n4_ := Aside0.mk (blk_below (g := gb336) (o := .cells #[.int .i64 a0_0, .slice A0_1 l0_1.length c0_1, .string a0_2] 47 (0, 0)) (by (with_reducible repeat (first | refine blk_drewN ?_ _ | refine blk_drew ?_ | refine blk_alloc ?_ _)); exact BK336.out) hb); have n5_ := Aside0.mk (blk_below (g := gb348) (o := .cells #[.int .i64 t343, .slice Ao21 t344.length co21, .string t347] 51 (0, 0)) (by (with_reducible repeat (first | refine blk_drewN ?_ _ | refine blk_drew ?_ | refine blk_alloc ?_ _)); exact BK348.out) hb); have n6_ := Aside0.mk (blk_below (g := gb354) (o := .cells #[.int .i64 t349, .slice Ao28 t350.length co28, .string t353] 51 (0, 0)) (by (with_reducible repeat (first | refine blk_drewN ?_ _ | refine blk_drew ?_ | refine blk_alloc ?_ _)); exact BK354.out) hb); have n7_ := Aside0.mk (below_step (by repeat (first | (with_reducible first | exact HB.out | apply below_alloc | apply pw_below_drewN | apply below_drew1 | refine below_set ?_ GE336.out | refine below_set ?_ GE348.out | refine below_set ?_ GE354.out) | exact HB.out)) hb); have n8_ := Aside0.mk (hbox); have n9_ := Aside0.mk ((by rw [hg]; exact (below_size (by repeat (first | (with_reducible first | exact HB.out | apply below_alloc | apply pw_below_drewN | apply below_drew1 | refine below_set ?_ GE336.out | refine below_set ?_ GE348.out | refine below_set ?_ GE354.out) | exact HB.out))) : w.heap.size ≤ gb360)); have n10_ := Aside0.mk ((by rw [hg]; exact (below_size (by repeat (first | (with_reducible first | exact HB.out | apply below_alloc | apply pw_below_drewN | apply below_drew1 | refine below_set ?_ GE336.out | refine below_set ?_ GE348.out | refine below_set ?_ GE354.out) | exact HB.out))) : w.heap.size ≤ gb360)); have n11_ := Aside0.mk ((by rw [hg]; exact Nat.ne_of_lt (blk_lt (g := gb336) (o := .cells #[.int .i64 a0_0, .slice A0_1 l0_1.length c0_1, .string a0_2] 47 (0, 0)) (by (with_reducible repeat (first | refine blk_drewN ?_ _ | refine blk_drew ?_ | refine blk_alloc ?_ _)); exact BK336.out)) : gb336 ≠ gb360)); have n12_ := Aside0.mk ((by rw [hg]; exact Nat.ne_of_gt (blk_lt (g := gb336) (o := .cells #[.int .i64 a0_0, .slice A0_1 l0_1.length c0_1, .string a0_2] 47 (0, 0)) (by (with_reducible repeat (first | refine blk_drewN ?_ _ | refine blk_drew ?_ | refine blk_alloc ?_ _)); exact BK336.out)) : gb360 ≠ gb336)); have n13_ := Aside0.mk ((by rw [hg]; exact Nat.ne_of_lt (blk_lt (g := gb348) (o := .cells #[.int .i64 t343, .slice Ao21 t344.length co21, .string t347] 51 (0, 0)) (by (with_reducible repeat (first | refine blk_drewN ?_ _ | refine blk_drew ?_ | refine blk_alloc ?_ _)); exact BK348.out)) : gb348 ≠ gb360)); have n14_ := Aside0.mk ((by rw [hg]; exact Nat.ne_of_gt (blk_lt (g := gb348) (o := .cells #[.int .i64 t343, .slice Ao21 t344.length co21, .string t347] 51 (0, 0)) (by (with_reducible repeat (first | refine blk_drewN ?_ _ | refine blk_drew ?_ | refine blk_alloc ?_ _)); exact BK348.out)) : gb360 ≠ gb348)); have n15_ := Aside0.mk ((by rw [hg]; exact Nat.ne_of_lt (blk_lt (g := gb354) (o := .cells #[.int .i64 t349, .slice Ao28 t350.length co28, .string t353] 51 (0, 0)) (by (with_reducible repeat (first | refine blk_drewN ?_ _ | refine blk_drew ?_ | refine blk_alloc ?_ _)); exact BK354.out)) : gb354 ≠ gb360)); have n16_ := Aside0.mk ((by rw [hg]; exact Nat.ne_of_gt (blk_lt (g := gb354) (o := .cells #[.int .i64 t349, .slice Ao28 t350.length co28, .string t353] 51 (0, 0)) (by (with_reducible repeat (first | refine blk_drewN ?_ _ | refine blk_drew ?_ | refine blk_alloc ?_ _)); exact BK354.out)) : gb360 ≠ gb354)); clear HO341; clear HO346; clear HO352; clear HO358; clear BK336; clear BK348; clear BK354; clear HB; have HO341 := n0_; have HO346 := n1_; have HO352 := n2_; have HO358 := n3_; have BK336 := n4_; have BK348 := n5_; have BK354 := n6_; have HB := n7_; have BK360 := n8_; have GW360 := n9_; have GE360 := n10_; have NB336_360 := n11_; have NB360_336 := n12_; have NB348_360 := n13_; have NB360_348 := n14_; have NB354_360 := n15_; have NB360_354 := n16_; clear n0_ n1_ n2_ n3_ n4_ n5_ n6_ n7_ n8_ n9_ n10_ n11_ n12_ n13_ n14_ n15_ n16_; clear hb hbox hg; have hnb31 := NB360_336.out; have hnc31 := NB336_360.out; have hnb32 := NB360_348.out; have hnc32 := NB348_360.out; have hnb33 := NB360_354.out; have hnc33 := NB354_360.out; have hcz34_0 : w30.cell? ⟨gb360, 0, none⟩ = some (.int .i64 0) := (blk_cell BK360.out 0).trans rfl; have hcz34_1 : w30.cell? ⟨gb360, 1, none⟩ = some (.slice none 0 0) := (blk_cell BK360.out 1).trans rfl; have hcz34_2 : w30.cell? ⟨gb360, 2, none⟩ = some (.string (⟨#[]⟩ : ByteArray)) := (blk_cell BK360.out 2).trans rfl; have hfz34_0 := blk_frozen BK360.out 0; have hfz34_1 := blk_frozen BK360.out 1; have hfz34_2 := blk_frozen BK360.out 2; obtain ⟨Ao35, co35, eo35⟩ := Kd.R_slice HO358.out; subst eo35; have hcz36_0 : w30.cell? ⟨gb348, 0, none⟩ = some (.int .i64 t343) := (blk_cell BK348.out 0).trans rfl; have hcz36_1 : w30.cell? ⟨gb348, 1, none⟩ = some (.slice Ao21 t344.length co21) := (blk_cell BK348.out 1).trans rfl; have hcz36_2 : w30.cell? ⟨gb348, 2, none⟩ = some (.string t347) := (blk_cell BK348.out 2).trans rfl; have hfz36_0 := blk_frozen BK348.out 0; have hfz36_1 := blk_frozen BK348.out 1; have hfz36_2 := blk_frozen BK348.out 2) | ((with_reducible refine gate_callee (f := 33) rfl ?_); refine goesL_ (some 25) rfl rfl Try.func33 (by kernel_rfl) rfl #[.agg #[.int .i64 t355, .slice Ao35 t356.length co35, .string t359], .agg #[.int .i64 t343, .slice Ao21 t344.length co21, .string t347]] rfl (by (try simp only [List.map_toArray, List.map_cons, List.map_nil]); first | done | rfl | (simp only [List.length_drop, List.length_take]; rfl)) ?_; (with_reducible refine (laws_eqResponse.calls k t355 _ _ t356 t359 t343 _ _ t344 t347 t361 _ ?side1 ?side2 ?side3 ?side4 A12.out).mono ?_); (case side1 => refine (Kd.R_reads' (e := 146) (base := w.heap.size) (ok := fun k_ => (((True ∧ some k_ ≠ (.slice Ao16 t339.length co16 : Value).ownBlock) ∧ some k_ ≠ (.slice Ao21 t344.length co21 : Value).ownBlock) ∧ some k_ ≠ (.slice Ao28 t350.length co28 : Value).ownBlock)) (n := t356.length) (c := co35) ?_).2.2; exact (by (with_reducible repeat (first | apply Kd.R_alloc | apply Kd.R_drewN | apply Kd.R_drew)); exact (Kd.R_mono (Kd.R_far (p := ⟨gb360, 2, none⟩) (Kd.R_far (p := ⟨gb360, 1, none⟩) (Kd.R_far (p := ⟨gb360, 0, none⟩) (Kd.R_types HO358.out BK360.out (by decide)) (fun _ hk => hk.2) (.int .i64 t355)) (fun _ hk => hk.2) (.slice Ao35 t356.length co35)) (fun _ hk => hk.2) (.string t359)) (fun _ h_ => h_.1)))); (case side2 => exact (Kd.R_reads' HO358.out).2.1); (case side3 => refine (Kd.R_reads' (e := 146) (base := w.heap.size) (ok := fun k_ => (((True ∧ some k_ ≠ (.slice Ao16 t339.length co16 : Value).ownBlock) ∧ some k_ ≠ (.slice Ao28 t350.length co28 : Value).ownBlock) ∧ some k_ ≠ (.slice Ao35 t356.length co35 : Value).ownBlock)) (n := t344.length) (c := co21) ?_).2.2; exact (by (with_reducible repeat (first | apply Kd.R_alloc | apply Kd.R_drewN | apply Kd.R_drew)); exact (Kd.R_mono (Kd.R_far (p := ⟨gb360, 2, none⟩) (Kd.R_far (p := ⟨gb360, 1, none⟩) (Kd.R_far (p := ⟨gb360, 0, none⟩) (Kd.R_types HO346.out BK360.out (by decide)) (fun _ hk => hk.2) (.int .i64 t355)) (fun _ hk => hk.2) (.slice Ao35 t356.length co35)) (fun _ hk => hk.2) (.string t359)) (fun _ h_ => h_.1)))); (case side4 => exact (Kd.R_reads' HO346.out).2.1); rintro e w37 ⟨rfl, hb⟩; refine ⟨_, rfl, ?_⟩; have n0_ := Aside0.mk (Kd.R_below (by (with_reducible repeat (first | apply Kd.R_alloc | apply Kd.R_drewN | apply Kd.R_drew)); exact (Kd.R_mono (Kd.R_far (p := ⟨gb360, 2, none⟩) (Kd.R_far (p := ⟨gb360, 1, none⟩) (Kd.R_far (p := ⟨gb360, 0, none⟩) (Kd.R_types HO341.out BK360.out (by decide)) (fun _ hk => hk.2) (.int .i64 t355)) (fun _ hk => hk.2) (.slice Ao35 t356.length co35)) (fun _ hk => hk.2) (.string t359)) (fun _ h_ => h_.1))) hb); have n1_ := Aside0.mk (Kd.R_below (by (with_reducible repeat (first | apply Kd.R_alloc | apply Kd.R_drewN | apply Kd.R_drew)); exact (Kd.R_mono (Kd.R_far (p := ⟨gb360, 2, none⟩) (Kd.R_far (p := ⟨gb360, 1, none⟩) (Kd.R_far (p := ⟨gb360, 0, none⟩) (Kd.R_types HO346.out BK360.out (by decide)) (fun _ hk => hk.2) (.int .i64 t355)) (fun _ hk => hk.2) (.slice Ao35 t356.length co35)) (fun _ hk => hk.2) (.string t359)) (fun _ h_ => h_.1))) hb); have n2_ := Aside0.mk (Kd.R_below (by (with_reducible repeat (first | apply Kd.R_alloc | apply Kd.R_drewN | apply Kd.R_drew)); exact (Kd.R_mono (Kd.R_far (p := ⟨gb360, 2, none⟩) (Kd.R_far (p := ⟨gb360, 1, none⟩) (Kd.R_far (p := ⟨gb360, 0, none⟩) (Kd.R_types HO352.out BK360.out (by decide)) (fun _ hk => hk.2) (.int .i64 t355)) (fun _ hk => hk.2) (.slice Ao35 t356.length co35)) (fun _ hk => hk.2) (.string t359)) (fun _ h_ => h_.1))) hb); have n3_ := Aside0.mk (Kd.R_below (by (with_reducible repeat (first | apply Kd.R_alloc | apply Kd.R_drewN | apply Kd.R_drew)); exact (Kd.R_mono (Kd.R_far (p := ⟨gb360, 2, none⟩) (Kd.R_far (p := ⟨gb360, 1, none⟩) (Kd.R_far (p := ⟨gb360, 0, none⟩) (Kd.R_types HO358.out BK360.out (by decide)) (fun _ hk => hk.2) (.int .i64 t355)) (fun _ hk => hk.2) (.slice Ao35 t356.length co35)) (fun _ hk => hk.2) (.string t359)) (fun _ h_ => h_.1))) hb); have n4_ := Aside0.mk (blk_below (g := gb336) (o := .cells #[.int .i64 a0_0, .slice A0_1 l0_1.length c0_1, .string a0_2] 47 (0, 0)) (by (with_reducible repeat (first | refine blk_drewN ?_ _ | refine blk_drew ?_ | refine blk_alloc ?_ _)); refine blk_far ?_ NB336_360.out _; (with_reducible repeat (first | refine blk_drewN ?_ _ | refine blk_drew ?_ | refine blk_alloc ?_ _)); refine blk_far ?_ NB336_360.out _; (with_reducible repeat (first | refine blk_drewN ?_ _ | refine blk_drew ?_ | refine blk_alloc ?_ _)); refine blk_far ?_ NB336_360.out _; (with_reducible repeat (first | refine blk_drewN ?_ _ | refine blk_drew ?_ | refine blk_alloc ?_ _)); exact BK336.out) hb); have n5_ := Aside0.mk (blk_below (g := gb348) (o := .cells #[.int .i64 t343, .slice Ao21 t344.length co21, .string t347] 51 (0, 0)) (by (with_reducible repeat (first | refine blk_drewN ?_ _ | refine blk_drew ?_ | refine blk_alloc ?_ _)); refine blk_far ?_ NB348_360.out _; (with_reducible repeat (first | refine blk_drewN ?_ _ | refine blk_drew ?_ | refine blk_alloc ?_ _)); refine blk_far ?_ NB348_360.out _; (with_reducible repeat (first | refine blk_drewN ?_ _ | refine blk_drew ?_ | refine blk_alloc ?_ _)); refine blk_far ?_ NB348_360.out _; (with_reducible repeat (first | refine blk_drewN ?_ _ | refine blk_drew ?_ | refine blk_alloc ?_ _)); exact BK348.out) hb); have n6_ := Aside0.mk (blk_below (g := gb354) (o := .cells #[.int .i64 t349, .slice Ao28 t350.length co28, .string t353] 51 (0, 0)) (by (with_reducible repeat (first | refine blk_drewN ?_ _ | refine blk_drew ?_ | refine blk_alloc ?_ _)); refine blk_far ?_ NB354_360.out _; (with_reducible repeat (first | refine blk_drewN ?_ _ | refine blk_drew ?_ | refine blk_alloc ?_ _)); refine blk_far ?_ NB354_360.out _; (with_reducible repeat (first | refine blk_drewN ?_ _ | refine blk_drew ?_ | refine blk_alloc ?_ _)); refine blk_far ?_ NB354_360.out _; (with_reducible repeat (first | refine blk_drewN ?_ _ | refine blk_drew ?_ | refine blk_alloc ?_ _)); exact BK354.out) hb); have n7_ := Aside0.mk (blk_below (g := gb360) (o := .cells #[.int .i64 t355, .slice Ao35 t356.length co35, .string t359] 51 (0, 0)) (by (with_reducible repeat (first | refine blk_drewN ?_ _ | refine blk_drew ?_ | refine blk_alloc ?_ _)); refine blk_put (cs := #[.int .i64 t355, .slice Ao35 t356.length co35, .string (⟨#[]⟩ : ByteArray)]) ?_ 2 _ rfl; (with_reducible repeat (first | refine blk_drewN ?_ _ | refine blk_drew ?_ | refine blk_alloc ?_ _)); refine blk_put (cs := #[.int .i64 t355, .slice none 0 0, .string (⟨#[]⟩ : ByteArray)]) ?_ 1 _ rfl; (with_reducible repeat (first | refine blk_drewN ?_ _ | refine blk_drew ?_ | refine blk_alloc ?_ _)); refine blk_put (cs := #[.int .i64 0, .slice none 0 0, .string (⟨#[]⟩ : ByteArray)]) ?_ 0 _ rfl; (with_reducible repeat (first | refine blk_drewN ?_ _ | refine blk_drew ?_ | refine blk_alloc ?_ _)); exact BK360.out) hb); have n8_ := Aside0.mk (below_step (by repeat (first | (with_reducible first | exact HB.out | apply below_alloc | apply pw_below_drewN | apply below_drew1 | refine below_set ?_ GE336.out | refine below_set ?_ GE348.out | refine below_set ?_ GE354.out | refine below_set ?_ GE360.out) | exact HB.out)) hb); clear HO341; clear HO346; clear HO352; clear HO358; clear BK336; clear BK348; clear BK354; clear BK360; clear HB; have HO341 := n0_; have HO346 := n1_; have HO352 := n2_; have HO358 := n3_; have BK336 := n4_; have BK348 := n5_; have BK354 := n6_; have BK360 := n7_; have HB := n8_; clear n0_ n1_ n2_ n3_ n4_ n5_ n6_ n7_ n8_; (try clear hb); (try clear hb2); (try clear hk); (try clear hi)))
    have H := HF13.out
    clear HF13
    by_cases c38 : t361 = true
    · subst c38
      have H1 : ((laws_toResponse.f k a0_0 l0_1 a0_2).bind fun bt362 => ((laws_eqResponse.f k t349 t350 t353 bt362.1 bt362.2.1 bt362.2.2).bind fun t367 => (if t367 = true then ((laws_markResponse.f k t349 t350 t353 1).bind fun bt368 => (if bt368.1 < 0 then (laws_FnExactStripAnswer.j0 k true a0_0 l0_1 a0_2 t343 t344 t347 t355 t356 t359) else ((laws_eqResponse.f k t355 t356 t359 t343 t344 t347).bind fun t370 => (laws_FnExactStripAnswer.j0 k (!t370) a0_0 l0_1 a0_2 t343 t344 t347 t355 t356 t359)))) else (some false)))) = some r := by rw [if_pos rfl] at H; exact H
      clear H
      have H := H1
      clear H1
      replace H := Option.bind_eq_some_iff.mp H
      obtain ⟨⟨t362, t363, t366⟩, A390, H⟩ := H
      replace H : ((laws_eqResponse.f k t349 t350 t353 t362 t363 t366).bind fun t367 => (if t367 = true then ((laws_markResponse.f k t349 t350 t353 1).bind fun bt368 => (if bt368.1 < 0 then (laws_FnExactStripAnswer.j0 k true a0_0 l0_1 a0_2 t343 t344 t347 t355 t356 t359) else ((laws_eqResponse.f k t355 t356 t359 t343 t344 t347).bind fun t370 => (laws_FnExactStripAnswer.j0 k (!t370) a0_0 l0_1 a0_2 t343 t344 t347 t355 t356 t359)))) else (some false))) = some r := H
      have A39 := Aside0.mk A390
      clear A390
      replace H := Option.bind_eq_some_iff.mp H
      obtain ⟨t367, A400, H⟩ := H
      replace H : (if t367 = true then ((laws_markResponse.f k t349 t350 t353 1).bind fun bt368 => (if bt368.1 < 0 then (laws_FnExactStripAnswer.j0 k true a0_0 l0_1 a0_2 t343 t344 t347 t355 t356 t359) else ((laws_eqResponse.f k t355 t356 t359 t343 t344 t347).bind fun t370 => (laws_FnExactStripAnswer.j0 k (!t370) a0_0 l0_1 a0_2 t343 t344 t347 t355 t356 t359)))) else (some false)) = some r := H
      have A40 := Aside0.mk A400
      clear A400
      have HF41 := Aside0.mk H
      clear H
      try go_wp2
      have n0_ := Aside0.mk (Kd.R_drew HO341.out)
      have n1_ := Aside0.mk (Kd.R_drew HO346.out)
      have n2_ := Aside0.mk (Kd.R_drew HO352.out)
      have n3_ := Aside0.mk (Kd.R_drew HO358.out)
      have n4_ := Aside0.mk (blk_drew BK336.out)
      have n5_ := Aside0.mk (blk_drew BK348.out)
      have n6_ := Aside0.mk (blk_drew BK354.out)
      have n7_ := Aside0.mk (blk_drew BK360.out)
      have n8_ := Aside0.mk (below_drew1 HB.out)
      clear HO341
      clear HO346
      clear HO352
      clear HO358
      clear BK336
      clear BK348
      clear BK354
      clear BK360
      clear HB
      have HO341 := n0_
      have HO346 := n1_
      have HO352 := n2_
      have HO358 := n3_
      have BK336 := n4_
      have BK348 := n5_
      have BK354 := n6_
      have BK360 := n7_
      have HB := n8_
      clear n0_ n1_ n2_ n3_ n4_ n5_ n6_ n7_ n8_
      refine start_ (n := 5) (S := fun w' => w'.cell? ⟨gb354, 0, none⟩ = some (.int .i64 t349) ∧ w'.cell? ⟨gb354, 1, none⟩ = some (.slice Ao28 t350.length co28) ∧ w'.cell? ⟨gb354, 2, none⟩ = some (.string t353) ∧ w'.cell? ⟨gb336, 0, none⟩ = some (.int .i64 a0_0) ∧ w'.cell? ⟨gb336, 1, none⟩ = some (.slice A0_1 l0_1.length c0_1) ∧ w'.cell? ⟨gb336, 2, none⟩ = some (.string a0_2)) (ds := []) #[false, false, false, false, false] (by kernel_rfl) rfl rfl ⟨(blk_cell BK354.out 0).trans rfl, (blk_cell BK354.out 1).trans rfl, (blk_cell BK354.out 2).trans rfl, (blk_cell BK336.out 0).trans rfl, (blk_cell BK336.out 1).trans rfl, (blk_cell BK336.out 2).trans rfl⟩ (fun hHeld => ?_)
      generalize w37.drew = w42 at HO341 HO346 HO352 HO358 BK336 BK348 BK354 BK360 HB hHeld ⊢
      refine take_ (i := 0) (N := some 27) (v := ?_) (a' := ?_) #[true, false, false, false, false] rfl rfl (by kernel_rfl) (fun _ _ _ h => h) (Or.inl ⟨by rfl, ?_⟩) hHeld ?_ ?_
      rotate_left
      · rintro w' ⟨s0, s1, s2, s3, s4, s5⟩
        go_simp
        with_reducible rfl
      rotate_left
      · simp only [Act.put, List.setIfInBounds_toArray, List.set_cons_zero, List.set_cons_succ, i64_w, i32_w]
        rfl
      refine take_ (i := 1) (N := some 28) (v := ?_) (a' := ?_) #[true, true, false, false, false] rfl rfl (by kernel_rfl) (fun _ _ _ h => h) (Or.inl ⟨by rfl, ?_⟩) hHeld ?_ ?_
      rotate_left
      · rintro w' ⟨s0, s1, s2, s3, s4, s5⟩
        go_simp
        with_reducible rfl
      rotate_left
      · simp only [Act.put, List.setIfInBounds_toArray, List.set_cons_zero, List.set_cons_succ, i64_w, i32_w]
        rfl
      refine one_ (i := 2) (N := some 29) #[true, true, true, false, false] rfl rfl (by kernel_rfl) (by decide) (fun K hK => ?_)
      refine goes_ Try.func31 (by kernel_rfl) rfl #[.agg #[.int .i64 a0_0, .slice A0_1 l0_1.length c0_1, .string a0_2]] (by rfl) rfl rfl (by (try simp only [List.map_toArray, List.map_cons, List.map_nil]); first | done | rfl | (simp only [List.length_drop, List.length_take]; rfl)) ?_
      with_reducible refine (laws_toResponse.calls k a0_0 _ _ l0_1 a0_2 t362 t363 t366 _ ?side1 ?side2 A39.out).mono ?_
      (case side1 => repeat (first | exact (Kd.C_below HR0_1.out HB.out) | (with_reducible refine Kd.C_alloc ?_ _) | (with_reducible refine Kd.C_drewN ?_ _) | (with_reducible refine Kd.C_drew ?_)))
      (case side2 => exact HC0_1.out)
      rintro e w43 ⟨v364, rfl, ho0, hb⟩
      refine ⟨_, rfl, ?_⟩
      have n0_ := Aside0.mk (Kd.R_elder' (by (with_reducible repeat (first | apply Kd.R_alloc | apply Kd.R_drewN | apply Kd.R_drew)); exact HO341.out) (Kd.R_base ho0) hb)
      have n1_ := Aside0.mk (Kd.R_elder' (by (with_reducible repeat (first | apply Kd.R_alloc | apply Kd.R_drewN | apply Kd.R_drew)); exact HO346.out) (Kd.R_base ho0) hb)
      have n2_ := Aside0.mk (Kd.R_elder' (by (with_reducible repeat (first | apply Kd.R_alloc | apply Kd.R_drewN | apply Kd.R_drew)); exact HO352.out) (Kd.R_base ho0) hb)
      have n3_ := Aside0.mk (Kd.R_elder' (by (with_reducible repeat (first | apply Kd.R_alloc | apply Kd.R_drewN | apply Kd.R_drew)); exact HO358.out) (Kd.R_base ho0) hb)
      have n4_ := Aside0.mk (Kd.R_lower (Kd.R_new' (Kd.R_new' (Kd.R_new' (Kd.R_new' ho0 (Kd.R_lt (by (with_reducible repeat (first | apply Kd.R_alloc | apply Kd.R_drewN | apply Kd.R_drew)); exact HO341.out))) (Kd.R_lt (by (with_reducible repeat (first | apply Kd.R_alloc | apply Kd.R_drewN | apply Kd.R_drew)); exact HO346.out))) (Kd.R_lt (by (with_reducible repeat (first | apply Kd.R_alloc | apply Kd.R_drewN | apply Kd.R_drew)); exact HO352.out))) (Kd.R_lt (by (with_reducible repeat (first | apply Kd.R_alloc | apply Kd.R_drewN | apply Kd.R_drew)); exact HO358.out))) (below_size (by repeat (first | (with_reducible first | exact HB.out | apply below_alloc | apply pw_below_drewN | apply below_drew1 | refine below_set ?_ GE336.out | refine below_set ?_ GE348.out | refine below_set ?_ GE354.out | refine below_set ?_ GE360.out) | exact HB.out))))
      have n5_ := Aside0.mk (blk_below (g := gb336) (o := .cells #[.int .i64 a0_0, .slice A0_1 l0_1.length c0_1, .string a0_2] 47 (0, 0)) (by (with_reducible repeat (first | refine blk_drewN ?_ _ | refine blk_drew ?_ | refine blk_alloc ?_ _)); exact BK336.out) hb)
      have n6_ := Aside0.mk (blk_below (g := gb348) (o := .cells #[.int .i64 t343, .slice Ao21 t344.length co21, .string t347] 51 (0, 0)) (by (with_reducible repeat (first | refine blk_drewN ?_ _ | refine blk_drew ?_ | refine blk_alloc ?_ _)); exact BK348.out) hb)
      have n7_ := Aside0.mk (blk_below (g := gb354) (o := .cells #[.int .i64 t349, .slice Ao28 t350.length co28, .string t353] 51 (0, 0)) (by (with_reducible repeat (first | refine blk_drewN ?_ _ | refine blk_drew ?_ | refine blk_alloc ?_ _)); exact BK354.out) hb)
      have n8_ := Aside0.mk (blk_below (g := gb360) (o := .cells #[.int .i64 t355, .slice Ao35 t356.length co35, .string t359] 51 (0, 0)) (by (with_reducible repeat (first | refine blk_drewN ?_ _ | refine blk_drew ?_ | refine blk_alloc ?_ _)); exact BK360.out) hb)
      have n9_ := Aside0.mk (below_step (by repeat (first | (with_reducible first | exact HB.out | apply below_alloc | apply pw_below_drewN | apply below_drew1 | refine below_set ?_ GE336.out | refine below_set ?_ GE348.out | refine below_set ?_ GE354.out | refine below_set ?_ GE360.out) | exact HB.out)) hb)
      clear HO341
      clear HO346
      clear HO352
      clear HO358
      clear BK336
      clear BK348
      clear BK354
      clear BK360
      clear HB
      have HO341 := n0_
      have HO346 := n1_
      have HO352 := n2_
      have HO358 := n3_
      have HO365 := n4_
      have BK336 := n5_
      have BK348 := n6_
      have BK354 := n7_
      have BK360 := n8_
      have HB := n9_
      clear n0_ n1_ n2_ n3_ n4_ n5_ n6_ n7_ n8_ n9_
      (try clear hb)
      (try clear hb2)
      (try clear hk)
      (try clear hi)
      (try clear ho0)
      obtain ⟨Ao44, co44, eo44⟩ := Kd.R_slice HO365.out
      (first | subst eo44 | (injection eo44 with f1_ f2_ f3_; have f4_ := f1_.symm; have f5_ := f3_.symm; clear f1_ f2_ f3_; subst f4_; subst f5_))
      refine hK.out _ _ ⟨(blk_cell BK354.out 0).trans rfl, (blk_cell BK354.out 1).trans rfl, (blk_cell BK354.out 2).trans rfl, (blk_cell BK336.out 0).trans rfl, (blk_cell BK336.out 1).trans rfl, (blk_cell BK336.out 2).trans rfl⟩ (fun hHeld => ?_)
      clear hK K
      refine norm_ (a' := ?_) ?_ ?_
      rotate_left
      · show Act.put _ (some 29) _ = _
        simp only [Act.put, List.setIfInBounds_toArray, List.set_cons_zero, List.set_cons_succ, i64_w, i32_w]
        rfl
      refine one_ (i := 3) (N := some 30) #[true, true, true, true, false] rfl rfl (by kernel_rfl) (by decide) (fun K hK => ?_)
      refine goes_ Try.func33 (by kernel_rfl) rfl #[.agg #[.int .i64 t349, .slice Ao28 t350.length co28, .string t353], .agg #[.int .i64 t362, .slice Ao44 t363.length co44, .string t366]] (by rfl) rfl rfl (by (try simp only [List.map_toArray, List.map_cons, List.map_nil]); first | done | rfl | (simp only [List.length_drop, List.length_take]; rfl)) ?_
      with_reducible refine (laws_eqResponse.calls k t349 _ _ t350 t353 t362 _ _ t363 t366 t367 _ ?side1 ?side2 ?side3 ?side4 A40.out).mono ?_
      (case side1 => repeat (first | exact (Kd.R_reads' HO352.out).2.2 | (with_reducible refine Kd.C_alloc ?_ _) | (with_reducible refine Kd.C_drewN ?_ _) | (with_reducible refine Kd.C_drew ?_)))
      (case side2 => exact (Kd.R_reads' HO352.out).2.1)
      (case side3 => repeat (first | exact (Kd.R_reads' HO365.out).2.2 | (with_reducible refine Kd.C_alloc ?_ _) | (with_reducible refine Kd.C_drewN ?_ _) | (with_reducible refine Kd.C_drew ?_)))
      (case side4 => exact (Kd.R_reads' HO365.out).2.1)
      rintro e w45 ⟨rfl, hb⟩
      refine ⟨_, rfl, ?_⟩
      have n0_ := Aside0.mk (Kd.R_below (by (with_reducible repeat (first | apply Kd.R_alloc | apply Kd.R_drewN | apply Kd.R_drew)); exact HO341.out) hb)
      have n1_ := Aside0.mk (Kd.R_below (by (with_reducible repeat (first | apply Kd.R_alloc | apply Kd.R_drewN | apply Kd.R_drew)); exact HO346.out) hb)
      have n2_ := Aside0.mk (Kd.R_below (by (with_reducible repeat (first | apply Kd.R_alloc | apply Kd.R_drewN | apply Kd.R_drew)); exact HO352.out) hb)
      have n3_ := Aside0.mk (Kd.R_below (by (with_reducible repeat (first | apply Kd.R_alloc | apply Kd.R_drewN | apply Kd.R_drew)); exact HO358.out) hb)
      have n4_ := Aside0.mk (Kd.R_below (by (with_reducible repeat (first | apply Kd.R_alloc | apply Kd.R_drewN | apply Kd.R_drew)); exact HO365.out) hb)
      have n5_ := Aside0.mk (blk_below (g := gb336) (o := .cells #[.int .i64 a0_0, .slice A0_1 l0_1.length c0_1, .string a0_2] 47 (0, 0)) (by (with_reducible repeat (first | refine blk_drewN ?_ _ | refine blk_drew ?_ | refine blk_alloc ?_ _)); exact BK336.out) hb)
      have n6_ := Aside0.mk (blk_below (g := gb348) (o := .cells #[.int .i64 t343, .slice Ao21 t344.length co21, .string t347] 51 (0, 0)) (by (with_reducible repeat (first | refine blk_drewN ?_ _ | refine blk_drew ?_ | refine blk_alloc ?_ _)); exact BK348.out) hb)
      have n7_ := Aside0.mk (blk_below (g := gb354) (o := .cells #[.int .i64 t349, .slice Ao28 t350.length co28, .string t353] 51 (0, 0)) (by (with_reducible repeat (first | refine blk_drewN ?_ _ | refine blk_drew ?_ | refine blk_alloc ?_ _)); exact BK354.out) hb)
      have n8_ := Aside0.mk (blk_below (g := gb360) (o := .cells #[.int .i64 t355, .slice Ao35 t356.length co35, .string t359] 51 (0, 0)) (by (with_reducible repeat (first | refine blk_drewN ?_ _ | refine blk_drew ?_ | refine blk_alloc ?_ _)); exact BK360.out) hb)
      have n9_ := Aside0.mk (below_step (by repeat (first | (with_reducible first | exact HB.out | apply below_alloc | apply pw_below_drewN | apply below_drew1 | refine below_set ?_ GE336.out | refine below_set ?_ GE348.out | refine below_set ?_ GE354.out | refine below_set ?_ GE360.out) | exact HB.out)) hb)
      clear HO341
      clear HO346
      clear HO352
      clear HO358
      clear HO365
      clear BK336
      clear BK348
      clear BK354
      clear BK360
      clear HB
      have HO341 := n0_
      have HO346 := n1_
      have HO352 := n2_
      have HO358 := n3_
      have HO365 := n4_
      have BK336 := n5_
      have BK348 := n6_
      have BK354 := n7_
      have BK360 := n8_
      have HB := n9_
      clear n0_ n1_ n2_ n3_ n4_ n5_ n6_ n7_ n8_ n9_
      (try clear hb)
      (try clear hb2)
      (try clear hk)
      (try clear hi)
      refine hK.out _ _ ⟨(blk_cell BK354.out 0).trans rfl, (blk_cell BK354.out 1).trans rfl, (blk_cell BK354.out 2).trans rfl, (blk_cell BK336.out 0).trans rfl, (blk_cell BK336.out 1).trans rfl, (blk_cell BK336.out 2).trans rfl⟩ (fun hHeld => ?_)
      clear hK K
      refine norm_ (a' := ?_) ?_ ?_
      rotate_left
      · show Act.put _ (some 30) _ = _
        simp only [Act.put, List.setIfInBounds_toArray, List.set_cons_zero, List.set_cons_succ, i64_w, i32_w]
        rfl
      refine pure_ (i := 4) (N := some 31) (v := ?_) (a' := ?_) #[true, true, true, true, true] rfl rfl (by kernel_rfl) (fun _ _ _ h => h) (Or.inl ⟨by rfl, ?_⟩) ?_ ?_
      rotate_left
      · intro w'
        go_simp
        with_reducible rfl
      rotate_left
      · simp only [Act.put, List.setIfInBounds_toArray, List.set_cons_zero, List.set_cons_succ, i64_w, i32_w]
        rfl
      refine done_ (by kernel_rfl) ?_
      go_upto_if 31 with (fail)
      have H := HF41.out
      clear HF41
      by_cases c46 : t367 = true
      · subst c46
        have H1 : ((laws_markResponse.f k t349 t350 t353 1).bind fun bt368 => (if bt368.1 < 0 then (laws_FnExactStripAnswer.j0 k true a0_0 l0_1 a0_2 t343 t344 t347 t355 t356 t359) else ((laws_eqResponse.f k t355 t356 t359 t343 t344 t347).bind fun t370 => (laws_FnExactStripAnswer.j0 k (!t370) a0_0 l0_1 a0_2 t343 t344 t347 t355 t356 t359)))) = some r := by rw [if_pos rfl] at H; exact H
        clear H
        have H := H1
        clear H1
        replace H := Option.bind_eq_some_iff.mp H
        obtain ⟨⟨t368, t369⟩, A470, H⟩ := H
        replace H : (if t368 < 0 then (laws_FnExactStripAnswer.j0 k true a0_0 l0_1 a0_2 t343 t344 t347 t355 t356 t359) else ((laws_eqResponse.f k t355 t356 t359 t343 t344 t347).bind fun t370 => (laws_FnExactStripAnswer.j0 k (!t370) a0_0 l0_1 a0_2 t343 t344 t347 t355 t356 t359))) = some r := H
        have A47 := Aside0.mk A470
        clear A470
        have HC48 := Aside0.mk H
        clear H
        have hnb49 := NB354_336.out
        have hnc49 := NB336_354.out
        have hnb50 := NB354_348.out
        have hnc50 := NB348_354.out
        have hnb51 := NB354_360.out
        have hnc51 := NB360_354.out
        have hcz52_0 : w45.cell? ⟨gb354, 0, none⟩ = some (.int .i64 t349) := (blk_cell BK354.out 0).trans rfl
        have hcz52_1 : w45.cell? ⟨gb354, 1, none⟩ = some (.slice Ao28 t350.length co28) := (blk_cell BK354.out 1).trans rfl
        have hcz52_2 : w45.cell? ⟨gb354, 2, none⟩ = some (.string t353) := (blk_cell BK354.out 2).trans rfl
        have hfz52_0 := blk_frozen BK354.out 0
        have hfz52_1 := blk_frozen BK354.out 1
        have hfz52_2 := blk_frozen BK354.out 2
        go_upto_region 14 with (first | ((with_reducible refine gate_callee (f := 34) rfl ?_); refine goesL_ (some 34) rfl rfl Try.func34 (by kernel_rfl) rfl #[.agg #[.int .i64 t349, .slice Ao28 t350.length co28, .string t353], .int .i64 1] rfl (by (try simp only [List.map_toArray, List.map_cons, List.map_nil]); first | done | rfl | (simp only [List.length_drop, List.length_take]; rfl)) ?_; (with_reducible refine (laws_markResponse.calls k t349 (fun k_ => some k_ = (.slice Ao28 t350.length co28 : Value).ownBlock) (.slice Ao28 t350.length co28) t350 t353 1 t368 t369 w _ ?side1 ?side2 A47.out).mono ?_); (case side1 => repeat (first | (with_reducible first | exact HB.out | apply below_alloc | apply pw_below_drewN | apply below_drew1 | refine below_set ?_ GE336.out | refine below_set ?_ GE348.out | refine below_set ?_ GE354.out | refine below_set ?_ GE360.out) | exact HB.out)); (case side2 => exact Kd.R_tight rfl HO352.out); rintro e w53 ⟨rfl, hy0, hb, hkp⟩; refine ⟨_, rfl, ?_⟩; have n0_ := Aside0.mk (blk_kept (by (with_reducible repeat (first | refine blk_drewN ?_ _ | refine blk_drew ?_ | refine blk_alloc ?_ _)); exact BK336.out) hkp (fun hs_ => (fun e_ => (Kd.R_ne HO352.out BK336.out (by decide)) e_) hs_)); have n1_ := Aside0.mk (Kd.R_mono (ok' := fun k_ => some k_ ≠ (.slice Ao21 t344.length co21 : Value).ownBlock ∧ some k_ ≠ (.slice Ao28 t350.length co28 : Value).ownBlock ∧ some k_ ≠ (.slice Ao35 t356.length co35 : Value).ownBlock ∧ some k_ ≠ (.slice Ao44 t363.length co44 : Value).ownBlock) (Kd.R_keptB (HO341.out) hkp (fun k_ hk_ hs_ => (hk_.1.1.2) hs_)) (fun k_ hk_ => ⟨hk_.1.1.1.1.2, hk_.1.1.1.2, hk_.1.1.2, hk_.1.2⟩)); have n2_ := Aside0.mk (Kd.R_mono (ok' := fun k_ => some k_ ≠ (.slice Ao16 t339.length co16 : Value).ownBlock ∧ some k_ ≠ (.slice Ao28 t350.length co28 : Value).ownBlock ∧ some k_ ≠ (.slice Ao35 t356.length co35 : Value).ownBlock ∧ some k_ ≠ (.slice Ao44 t363.length co44 : Value).ownBlock) (Kd.R_keptB (HO346.out) hkp (fun k_ hk_ hs_ => (hk_.1.1.2) hs_)) (fun k_ hk_ => ⟨hk_.1.1.1.1.2, hk_.1.1.1.2, hk_.1.1.2, hk_.1.2⟩)); have n3_ := Aside0.mk (blk_kept (by (with_reducible repeat (first | refine blk_drewN ?_ _ | refine blk_drew ?_ | refine blk_alloc ?_ _)); exact BK348.out) hkp (fun hs_ => (fun e_ => (Kd.R_ne HO352.out BK348.out (by decide)) e_) hs_)); have n4_ := Aside0.mk (Kd.R_reok rfl hy0 (fun k_ e_ => HO352.out.1 k_ e_)); have n5_ := Aside0.mk (blk_kept (by (with_reducible repeat (first | refine blk_drewN ?_ _ | refine blk_drew ?_ | refine blk_alloc ?_ _)); exact BK354.out) hkp (fun hs_ => (fun e_ => (Kd.R_ne HO352.out BK354.out (by decide)) e_) hs_)); have n6_ := Aside0.mk (Kd.R_mono (ok' := fun k_ => some k_ ≠ (.slice Ao16 t339.length co16 : Value).ownBlock ∧ some k_ ≠ (.slice Ao21 t344.length co21 : Value).ownBlock ∧ some k_ ≠ (.slice Ao28 t350.length co28 : Value).ownBlock ∧ some k_ ≠ (.slice Ao44 t363.length co44 : Value).ownBlock) (Kd.R_keptB (HO358.out) hkp (fun k_ hk_ hs_ => (hk_.1.2) hs_)) (fun k_ hk_ => ⟨hk_.1.1.1.1.2, hk_.1.1.1.2, hk_.1.1.2, hk_.1.2⟩)); have n7_ := Aside0.mk (blk_kept (by (with_reducible repeat (first | refine blk_drewN ?_ _ | refine blk_drew ?_ | refine blk_alloc ?_ _)); exact BK360.out) hkp (fun hs_ => (fun e_ => (Kd.R_ne HO352.out BK360.out (by decide)) e_) hs_)); have n8_ := Aside0.mk (Kd.R_mono (ok' := fun k_ => some k_ ≠ (.slice Ao16 t339.length co16 : Value).ownBlock ∧ some k_ ≠ (.slice Ao21 t344.length co21 : Value).ownBlock ∧ some k_ ≠ (.slice Ao28 t350.length co28 : Value).ownBlock ∧ some k_ ≠ (.slice Ao35 t356.length co35 : Value).ownBlock) (Kd.R_keptB (HO365.out) hkp (fun k_ hk_ hs_ => (hk_.1.2) hs_)) (fun k_ hk_ => ⟨hk_.1.1.1.1.2, hk_.1.1.1.2, hk_.1.1.2, hk_.1.2⟩)); have n9_ := Aside0.mk (hb); clear BK336; clear HO341; clear HO346; clear BK348; clear HO352; clear BK354; clear HO358; clear BK360; clear HO365; clear HB; have BK336 := n0_; have HO341 := n1_; have HO346 := n2_; have BK348 := n3_; have HO352 := n4_; have BK354 := n5_; have HO358 := n6_; have BK360 := n7_; have HO365 := n8_; have HB := n9_; clear n0_ n1_ n2_ n3_ n4_ n5_ n6_ n7_ n8_ n9_; (try clear hb); (try clear hkp); (try clear hy0)))
        (try simp only [Act.put, List.setIfInBounds_toArray, List.set_cons_zero, List.set_cons_succ])
        go_cut [42] (fun v42 wc => ∃ (kq : Nat) (x42_47 : Bool), v42 = .bool x42_47 ∧ Aside0 (laws_FnExactStripAnswer.j0 kq x42_47 a0_0 l0_1 a0_2 t343 t344 t347 t355 t356 t359 = some r) ∧ Aside0 (kq ≤ k) ∧ Aside0 (Kd.R k146 146 wc w.heap.size (fun k_ => some k_ ≠ ((.slice Ao28 t350.length co28) : Value).ownBlock ∧ some k_ ≠ ((.slice Ao35 t356.length co35) : Value).ownBlock) (.slice Ao21 t344.length co21) t344) ∧ Aside0 (Kd.R k146 146 wc w.heap.size (fun k_ => some k_ ≠ ((.slice Ao21 t344.length co21) : Value).ownBlock ∧ some k_ ≠ ((.slice Ao35 t356.length co35) : Value).ownBlock) (.slice Ao28 t350.length co28) t369) ∧ Aside0 (Kd.R k146 146 wc w.heap.size (fun k_ => some k_ ≠ ((.slice Ao21 t344.length co21) : Value).ownBlock ∧ some k_ ≠ ((.slice Ao28 t350.length co28) : Value).ownBlock) (.slice Ao35 t356.length co35) t356) ∧ Aside0 (wc.heap[gb336]? = some (.cells #[.int .i64 a0_0, (.slice A0_1 l0_1.length c0_1), .string a0_2] 47 (0, 0))) ∧ Aside0 (wc.heap[gb348]? = some (.cells #[.int .i64 t343, (.slice Ao21 t344.length co21), .string t347] 51 (0, 0))) ∧ Aside0 (wc.heap[gb354]? = some (.cells #[.int .i64 t349, (.slice Ao28 t350.length co28), .string t353] 51 (0, 0))) ∧ Aside0 (wc.heap[gb360]? = some (.cells #[.int .i64 t355, (.slice Ao35 t356.length co35), .string t359] 51 (0, 0))) ∧ Aside0 (Below w.heap.size w wc))
        case first =>
          have H := HC48.out
          clear HC48
          by_cases c54 : t368 < 0
          · rw [if_pos c54] at H
            have c54b0 : decide (t368 < 0) = true := decide_eq_true c54
            clear c54
            (first | rw [c54b0] | (simp only [i64_w, i32_w]; rw [c54b0]) | skip)
            have H' := Aside0.mk H
            clear H
            go_wp2
            go_meet
            case rel => exact ⟨_, (true), (by first | rfl | (simp; done) | (simp [*]; done)), H', ⟨by first | omega | exact Nat.le_refl _⟩, ⟨by (with_reducible repeat (first | apply Kd.R_alloc | apply Kd.R_drewN | apply Kd.R_drew)); exact Kd.R_mono HO346.out (fun _ hk => ⟨hk.2.1, hk.2.2.1⟩)⟩, ⟨by (with_reducible repeat (first | apply Kd.R_alloc | apply Kd.R_drewN | apply Kd.R_drew)); exact Kd.R_mono HO352.out (fun _ hk => ⟨hk.1.1.2, hk.1.2⟩)⟩, ⟨by (with_reducible repeat (first | apply Kd.R_alloc | apply Kd.R_drewN | apply Kd.R_drew)); exact Kd.R_mono HO358.out (fun _ hk => ⟨hk.2.1, hk.2.2.1⟩)⟩, ⟨by (with_reducible repeat (first | refine blk_drewN ?_ _ | refine blk_drew ?_ | refine blk_alloc ?_ _)); exact BK336.out⟩, ⟨by (with_reducible repeat (first | refine blk_drewN ?_ _ | refine blk_drew ?_ | refine blk_alloc ?_ _)); exact BK348.out⟩, ⟨by (with_reducible repeat (first | refine blk_drewN ?_ _ | refine blk_drew ?_ | refine blk_alloc ?_ _)); exact BK354.out⟩, ⟨by (with_reducible repeat (first | refine blk_drewN ?_ _ | refine blk_drew ?_ | refine blk_alloc ?_ _)); exact BK360.out⟩, ⟨by repeat (first | (with_reducible first | exact HB.out | apply below_alloc | apply pw_below_drewN | apply below_drew1 | refine below_set ?_ GE336.out | refine below_set ?_ GE348.out | refine below_set ?_ GE354.out | refine below_set ?_ GE360.out) | exact HB.out)⟩⟩
          · rw [if_neg c54] at H
            have c54b0 : decide (t368 < 0) = false := decide_eq_false c54
            clear c54
            (first | rw [c54b0] | (simp only [i64_w, i32_w]; rw [c54b0]) | skip)
            replace H := Option.bind_eq_some_iff.mp H
            obtain ⟨t370, A550, H⟩ := H
            replace H : (laws_FnExactStripAnswer.j0 k (!t370) a0_0 l0_1 a0_2 t343 t344 t347 t355 t356 t359) = some r := H
            have A55 := Aside0.mk A550
            clear A550
            have H' := Aside0.mk H
            clear H
            have hnb56 := NB360_336.out
            have hnc56 := NB336_360.out
            have hnb57 := NB360_348.out
            have hnc57 := NB348_360.out
            have hnb58 := NB360_354.out
            have hnc58 := NB354_360.out
            have hcz59_0 : w53.cell? ⟨gb360, 0, none⟩ = some (.int .i64 t355) := (blk_cell BK360.out 0).trans rfl
            have hcz59_1 : w53.cell? ⟨gb360, 1, none⟩ = some (.slice Ao35 t356.length co35) := (blk_cell BK360.out 1).trans rfl
            have hcz59_2 : w53.cell? ⟨gb360, 2, none⟩ = some (.string t359) := (blk_cell BK360.out 2).trans rfl
            have hfz59_0 := blk_frozen BK360.out 0
            have hfz59_1 := blk_frozen BK360.out 1
            have hfz59_2 := blk_frozen BK360.out 2
            have hnb60 := NB348_336.out
            have hnc60 := NB336_348.out
            have hnb61 := NB348_354.out
            have hnc61 := NB354_348.out
            have hcz62_0 : w53.cell? ⟨gb348, 0, none⟩ = some (.int .i64 t343) := (blk_cell BK348.out 0).trans rfl
            have hcz62_1 : w53.cell? ⟨gb348, 1, none⟩ = some (.slice Ao21 t344.length co21) := (blk_cell BK348.out 1).trans rfl
            have hcz62_2 : w53.cell? ⟨gb348, 2, none⟩ = some (.string t347) := (blk_cell BK348.out 2).trans rfl
            have hfz62_0 := blk_frozen BK348.out 0
            have hfz62_1 := blk_frozen BK348.out 1
            have hfz62_2 := blk_frozen BK348.out 2
            go_wp2_with (first | (go_at_call 33; (with_reducible refine (laws_eqResponse.calls k t355 _ _ t356 t359 t343 _ _ t344 t347 t370 _ ?side1 ?side2 ?side3 ?side4 A55.out).mono ?_); (case side1 => repeat (first | exact (Kd.R_reads' HO358.out).2.2 | (with_reducible refine Kd.C_alloc ?_ _) | (with_reducible refine Kd.C_drewN ?_ _) | (with_reducible refine Kd.C_drew ?_))); (case side2 => exact (Kd.R_reads' HO358.out).2.1); (case side3 => repeat (first | exact (Kd.R_reads' HO346.out).2.2 | (with_reducible refine Kd.C_alloc ?_ _) | (with_reducible refine Kd.C_drewN ?_ _) | (with_reducible refine Kd.C_drew ?_))); (case side4 => exact (Kd.R_reads' HO346.out).2.1); rintro e w63 ⟨rfl, hb⟩; have n0_ := Aside0.mk (Kd.R_below (by (with_reducible repeat (first | apply Kd.R_alloc | apply Kd.R_drewN | apply Kd.R_drew)); exact HO341.out) hb); have n1_ := Aside0.mk (Kd.R_below (by (with_reducible repeat (first | apply Kd.R_alloc | apply Kd.R_drewN | apply Kd.R_drew)); exact HO346.out) hb); have n2_ := Aside0.mk (Kd.R_below (by (with_reducible repeat (first | apply Kd.R_alloc | apply Kd.R_drewN | apply Kd.R_drew)); exact HO352.out) hb); have n3_ := Aside0.mk (Kd.R_below (by (with_reducible repeat (first | apply Kd.R_alloc | apply Kd.R_drewN | apply Kd.R_drew)); exact HO358.out) hb); have n4_ := Aside0.mk (Kd.R_below (by (with_reducible repeat (first | apply Kd.R_alloc | apply Kd.R_drewN | apply Kd.R_drew)); exact HO365.out) hb); have n5_ := Aside0.mk (blk_below (g := gb336) (o := .cells #[.int .i64 a0_0, .slice A0_1 l0_1.length c0_1, .string a0_2] 47 (0, 0)) (by (with_reducible repeat (first | refine blk_drewN ?_ _ | refine blk_drew ?_ | refine blk_alloc ?_ _)); exact BK336.out) hb); have n6_ := Aside0.mk (blk_below (g := gb348) (o := .cells #[.int .i64 t343, .slice Ao21 t344.length co21, .string t347] 51 (0, 0)) (by (with_reducible repeat (first | refine blk_drewN ?_ _ | refine blk_drew ?_ | refine blk_alloc ?_ _)); exact BK348.out) hb); have n7_ := Aside0.mk (blk_below (g := gb354) (o := .cells #[.int .i64 t349, .slice Ao28 t350.length co28, .string t353] 51 (0, 0)) (by (with_reducible repeat (first | refine blk_drewN ?_ _ | refine blk_drew ?_ | refine blk_alloc ?_ _)); exact BK354.out) hb); have n8_ := Aside0.mk (blk_below (g := gb360) (o := .cells #[.int .i64 t355, .slice Ao35 t356.length co35, .string t359] 51 (0, 0)) (by (with_reducible repeat (first | refine blk_drewN ?_ _ | refine blk_drew ?_ | refine blk_alloc ?_ _)); exact BK360.out) hb); have n9_ := Aside0.mk (below_step (by repeat (first | (with_reducible first | exact HB.out | apply below_alloc | apply pw_below_drewN | apply below_drew1 | refine below_set ?_ GE336.out | refine below_set ?_ GE348.out | refine below_set ?_ GE354.out | refine below_set ?_ GE360.out) | exact HB.out)) hb); clear HO341; clear HO346; clear HO352; clear HO358; clear HO365; clear BK336; clear BK348; clear BK354; clear BK360; clear HB; have HO341 := n0_; have HO346 := n1_; have HO352 := n2_; have HO358 := n3_; have HO365 := n4_; have BK336 := n5_; have BK348 := n6_; have BK354 := n7_; have BK360 := n8_; have HB := n9_; clear n0_ n1_ n2_ n3_ n4_ n5_ n6_ n7_ n8_ n9_; (try clear hb); (try clear hb2); (try clear hk); (try clear hi)))
            go_meet
            case rel => exact ⟨_, (!t370), (by first | rfl | (simp; done) | (simp [*]; done)), H', ⟨by first | omega | exact Nat.le_refl _⟩, ⟨by (with_reducible repeat (first | apply Kd.R_alloc | apply Kd.R_drewN | apply Kd.R_drew)); exact Kd.R_mono HO346.out (fun _ hk => ⟨hk.2.1, hk.2.2.1⟩)⟩, ⟨by (with_reducible repeat (first | apply Kd.R_alloc | apply Kd.R_drewN | apply Kd.R_drew)); exact Kd.R_mono HO352.out (fun _ hk => ⟨hk.1.1.2, hk.1.2⟩)⟩, ⟨by (with_reducible repeat (first | apply Kd.R_alloc | apply Kd.R_drewN | apply Kd.R_drew)); exact Kd.R_mono HO358.out (fun _ hk => ⟨hk.2.1, hk.2.2.1⟩)⟩, ⟨by (with_reducible repeat (first | refine blk_drewN ?_ _ | refine blk_drew ?_ | refine blk_alloc ?_ _)); exact BK336.out⟩, ⟨by (with_reducible repeat (first | refine blk_drewN ?_ _ | refine blk_drew ?_ | refine blk_alloc ?_ _)); exact BK348.out⟩, ⟨by (with_reducible repeat (first | refine blk_drewN ?_ _ | refine blk_drew ?_ | refine blk_alloc ?_ _)); exact BK354.out⟩, ⟨by (with_reducible repeat (first | refine blk_drewN ?_ _ | refine blk_drew ?_ | refine blk_alloc ?_ _)); exact BK360.out⟩, ⟨by repeat (first | (with_reducible first | exact HB.out | apply below_alloc | apply pw_below_drewN | apply below_drew1 | refine below_set ?_ GE336.out | refine below_set ?_ GE348.out | refine below_set ?_ GE354.out | refine below_set ?_ GE360.out) | exact HB.out)⟩⟩
        case rest =>
          clear HC48
          try clear c1
          try clear c2
          try clear p2
          try clear c3
          try clear c4
          try clear c5
          try clear c6
          try clear c7
          try clear c7b0
          try clear c19
          try clear c25
          try clear c26
          try clear c29
          try clear c30
          try clear c31
          try clear c32
          try clear c33
          try clear c34
          try clear c38
          try clear c46
          try clear c49
          try clear c50
          try clear c51
          try clear c54
          try clear c54b0
          try clear c56
          try clear c57
          try clear c58
          try clear c60
          try clear c61
          try clear hcz14_0
          try clear hcz14_1
          try clear hcz14_2
          try clear hcz20_0
          try clear hcz20_1
          try clear hcz20_2
          try clear hcz22_0
          try clear hcz22_1
          try clear hcz22_2
          try clear hcz27_0
          try clear hcz27_1
          try clear hcz27_2
          try clear hcz34_0
          try clear hcz34_1
          try clear hcz34_2
          try clear hcz36_0
          try clear hcz36_1
          try clear hcz36_2
          try clear hcz52_0
          try clear hcz52_1
          try clear hcz52_2
          try clear hcz59_0
          try clear hcz59_1
          try clear hcz59_2
          try clear hcz5_0
          try clear hcz5_1
          try clear hcz5_2
          try clear hcz62_0
          try clear hcz62_1
          try clear hcz62_2
          try clear hfz14_0
          try clear hfz14_1
          try clear hfz14_2
          try clear hfz20_0
          try clear hfz20_1
          try clear hfz20_2
          try clear hfz22_0
          try clear hfz22_1
          try clear hfz22_2
          try clear hfz27_0
          try clear hfz27_1
          try clear hfz27_2
          try clear hfz34_0
          try clear hfz34_1
          try clear hfz34_2
          try clear hfz36_0
          try clear hfz36_1
          try clear hfz36_2
          try clear hfz52_0
          try clear hfz52_1
          try clear hfz52_2
          try clear hfz59_0
          try clear hfz59_1
          try clear hfz59_2
          try clear hfz5_0
          try clear hfz5_1
          try clear hfz5_2
          try clear hfz62_0
          try clear hfz62_1
          try clear hfz62_2
          obtain ⟨kq, x42_47, rfl, HA, HJ47, HO_349001, HO_355001, HO_361001, BK336, BK348, BK354, BK360, HB⟩ := hcut
          have hl355001_47 := (Kd.R_reads' HO_355001.out).1
          rw [hl355001_47] at HO_355001
          (try simp only [hl355001_47])
          (try simp only [hl355001_47] at BK336)
          (try simp only [hl355001_47] at BK348)
          (try simp only [hl355001_47] at BK354)
          (try simp only [hl355001_47] at BK360)
          (try simp only [hl355001_47] at HO_349001)
          (try simp only [hl355001_47] at HO_361001)
          cases kq with
          | zero => exact absurd HA.out (by simp [laws_FnExactStripAnswer.j0])
          | succ kj47 =>
            have H := HA.out
            clear HA
            simp only [laws_FnExactStripAnswer.j0] at H
            by_cases c64 : x42_47 = true
            · subst c64
              have H1 : (some false) = some r := by rw [if_pos rfl] at H; exact H
              clear H
              have H := H1
              clear H1
              obtain rfl := Option.some.inj H
              go_wp2
              go_ret
              exact ⟨by first | rfl | (simp [errW_none, errW_some] <;> rfl) | (simp [*, errW_none, errW_some] <;> rfl), by repeat (first | (with_reducible first | exact HB.out | apply below_alloc | apply pw_below_drewN | apply below_drew1 | refine below_set ?_ GE336.out | refine below_set ?_ GE348.out | refine below_set ?_ GE354.out | refine below_set ?_ GE360.out) | exact HB.out)⟩
            · replace c64 := Bool.eq_false_iff.mpr c64
              subst c64
              have H1 : ((laws_markResponse.f kj47 t355 t356 t359 1).bind fun bt371 => ((laws_heldResponse.f kj47 t355 bt371.2 t359 1).bind fun t373 => (if t373 < 0 then (some false) else (if t373 = bt371.1 then ((laws_toResponse.f kj47 a0_0 l0_1 a0_2).bind fun bt374 => ((impl_StripAnswer.f kj47 bt374.1 bt374.2.1 bt374.2.2).bind fun bt379 => ((laws_eqResponse.f kj47 bt379.1 bt379.2.1 bt379.2.2 t343 t344 t347).bind fun t385 => (if t385 = true then ((laws_heldResponse.f kj47 t355 bt371.2 t359 1).bind fun t386 => (if t386 < 0 then (some false) else (if t386 = bt371.1 then (some true) else (some false)))) else (some false))))) else (some false))))) = some r := by rw [if_neg (show ¬ (false = true) by decide)] at H; exact H
              clear H
              have H := H1
              clear H1
              replace H := Option.bind_eq_some_iff.mp H
              obtain ⟨⟨t371, t372⟩, A650, H⟩ := H
              replace H : ((laws_heldResponse.f kj47 t355 t372 t359 1).bind fun t373 => (if t373 < 0 then (some false) else (if t373 = t371 then ((laws_toResponse.f kj47 a0_0 l0_1 a0_2).bind fun bt374 => ((impl_StripAnswer.f kj47 bt374.1 bt374.2.1 bt374.2.2).bind fun bt379 => ((laws_eqResponse.f kj47 bt379.1 bt379.2.1 bt379.2.2 t343 t344 t347).bind fun t385 => (if t385 = true then ((laws_heldResponse.f kj47 t355 t372 t359 1).bind fun t386 => (if t386 < 0 then (some false) else (if t386 = t371 then (some true) else (some false)))) else (some false))))) else (some false)))) = some r := H
              have A65 := Aside0.mk A650
              clear A650
              replace H := Option.bind_eq_some_iff.mp H
              obtain ⟨t373, A660, H⟩ := H
              replace H : (if t373 < 0 then (some false) else (if t373 = t371 then ((laws_toResponse.f kj47 a0_0 l0_1 a0_2).bind fun bt374 => ((impl_StripAnswer.f kj47 bt374.1 bt374.2.1 bt374.2.2).bind fun bt379 => ((laws_eqResponse.f kj47 bt379.1 bt379.2.1 bt379.2.2 t343 t344 t347).bind fun t385 => (if t385 = true then ((laws_heldResponse.f kj47 t355 t372 t359 1).bind fun t386 => (if t386 < 0 then (some false) else (if t386 = t371 then (some true) else (some false)))) else (some false))))) else (some false))) = some r := H
              have A66 := Aside0.mk A660
              clear A660
              have HF67 := Aside0.mk H
              clear H
              have hnb68 := NB360_336.out
              have hnc68 := NB336_360.out
              have hnb69 := NB360_348.out
              have hnc69 := NB348_360.out
              have hnb70 := NB360_354.out
              have hnc70 := NB354_360.out
              have hcz71_0 : wc.cell? ⟨gb360, 0, none⟩ = some (.int .i64 t355) := (blk_cell BK360.out 0).trans rfl
              have hcz71_1 : wc.cell? ⟨gb360, 1, none⟩ = some (.slice Ao35 t356.length co35) := (blk_cell BK360.out 1).trans rfl
              have hcz71_2 : wc.cell? ⟨gb360, 2, none⟩ = some (.string t359) := (blk_cell BK360.out 2).trans rfl
              have hfz71_0 := blk_frozen BK360.out 0
              have hfz71_1 := blk_frozen BK360.out 1
              have hfz71_2 := blk_frozen BK360.out 2
              go_upto_if 50 with (first | ((with_reducible refine gate_callee (f := 34) rfl ?_); refine goesL_ (some 45) rfl rfl Try.func34 (by kernel_rfl) rfl #[.agg #[.int .i64 t355, .slice Ao35 t356.length co35, .string t359], .int .i64 1] rfl (by (try simp only [List.map_toArray, List.map_cons, List.map_nil]); first | done | rfl | (simp only [List.length_drop, List.length_take]; rfl)) ?_; (with_reducible refine (laws_markResponse.calls kj47 t355 (fun k_ => some k_ = (.slice Ao35 t356.length co35 : Value).ownBlock) (.slice Ao35 t356.length co35) t356 t359 1 t371 t372 w _ ?side1 ?side2 A65.out).mono ?_); (case side1 => repeat (first | (with_reducible first | exact HB.out | apply below_alloc | apply pw_below_drewN | apply below_drew1 | refine below_set ?_ GE336.out | refine below_set ?_ GE348.out | refine below_set ?_ GE354.out | refine below_set ?_ GE360.out) | exact HB.out)); (case side2 => exact Kd.R_tight rfl HO_361001.out); rintro e w72 ⟨rfl, hy0, hb, hkp⟩; refine ⟨_, rfl, ?_⟩; have n0_ := Aside0.mk (Kd.R_mono (ok' := fun k_ => some k_ ≠ (.slice Ao28 t369.length co28 : Value).ownBlock ∧ some k_ ≠ (.slice Ao35 t356.length co35 : Value).ownBlock) (Kd.R_keptB (HO_349001.out) hkp (fun k_ hk_ hs_ => (hk_.2) hs_)) (fun k_ hk_ => ⟨hk_.1.1, hk_.1.2⟩)); have n1_ := Aside0.mk (Kd.R_mono (ok' := fun k_ => some k_ ≠ (.slice Ao21 t344.length co21 : Value).ownBlock ∧ some k_ ≠ (.slice Ao35 t356.length co35 : Value).ownBlock) (Kd.R_keptB (HO_355001.out) hkp (fun k_ hk_ hs_ => (hk_.2) hs_)) (fun k_ hk_ => ⟨hk_.1.1, hk_.1.2⟩)); have n2_ := Aside0.mk (Kd.R_reok rfl hy0 (fun k_ e_ => HO_361001.out.1 k_ e_)); have n3_ := Aside0.mk (blk_kept (by (with_reducible repeat (first | refine blk_drewN ?_ _ | refine blk_drew ?_ | refine blk_alloc ?_ _)); exact BK336.out) hkp (fun hs_ => (fun e_ => (Kd.R_ne HO_361001.out BK336.out (by decide)) e_) hs_)); have n4_ := Aside0.mk (blk_kept (by (with_reducible repeat (first | refine blk_drewN ?_ _ | refine blk_drew ?_ | refine blk_alloc ?_ _)); exact BK348.out) hkp (fun hs_ => (fun e_ => (Kd.R_ne HO_361001.out BK348.out (by decide)) e_) hs_)); have n5_ := Aside0.mk (blk_kept (by (with_reducible repeat (first | refine blk_drewN ?_ _ | refine blk_drew ?_ | refine blk_alloc ?_ _)); exact BK354.out) hkp (fun hs_ => (fun e_ => (Kd.R_ne HO_361001.out BK354.out (by decide)) e_) hs_)); have n6_ := Aside0.mk (blk_kept (by (with_reducible repeat (first | refine blk_drewN ?_ _ | refine blk_drew ?_ | refine blk_alloc ?_ _)); exact BK360.out) hkp (fun hs_ => (fun e_ => (Kd.R_ne HO_361001.out BK360.out (by decide)) e_) hs_)); have n7_ := Aside0.mk (hb); clear HO_349001; clear HO_355001; clear HO_361001; clear BK336; clear BK348; clear BK354; clear BK360; clear HB; have HO_349001 := n0_; have HO_355001 := n1_; have HO_361001 := n2_; have BK336 := n3_; have BK348 := n4_; have BK354 := n5_; have BK360 := n6_; have HB := n7_; clear n0_ n1_ n2_ n3_ n4_ n5_ n6_ n7_; (try clear hb); (try clear hkp); (try clear hy0); have hcz73_0 : w72.cell? ⟨gb360, 0, none⟩ = some (.int .i64 t355) := (blk_cell BK360.out 0).trans rfl; have hcz73_1 : w72.cell? ⟨gb360, 1, none⟩ = some (.slice Ao35 t356.length co35) := (blk_cell BK360.out 1).trans rfl; have hcz73_2 : w72.cell? ⟨gb360, 2, none⟩ = some (.string t359) := (blk_cell BK360.out 2).trans rfl; have hfz73_0 := blk_frozen BK360.out 0; have hfz73_1 := blk_frozen BK360.out 1; have hfz73_2 := blk_frozen BK360.out 2) | ((with_reducible refine gate_callee (f := 35) rfl ?_); refine goesL_ (some 48) rfl rfl Try.func35 (by kernel_rfl) rfl #[.agg #[.int .i64 t355, .slice Ao35 t372.length co35, .string t359], .int .i64 1] rfl (by (try simp only [List.map_toArray, List.map_cons, List.map_nil]); first | done | (rw [show t372.length = t356.length from (Kd.R_reads' HO_361001.out).1.symm] <;> rfl) | rfl | (simp only [List.length_drop, List.length_take]; rfl)) ?_; (with_reducible refine (laws_heldResponse.calls kj47 t355 _ _ t372 t359 1 t373 _ ?side1 ?side2 A66.out).mono ?_); (case side1 => repeat (first | exact (Kd.R_reads' HO_361001.out).2.2 | (with_reducible refine Kd.C_alloc ?_ _) | (with_reducible refine Kd.C_drewN ?_ _) | (with_reducible refine Kd.C_drew ?_))); (case side2 => rw [show t372.length = t356.length from (Kd.R_reads' HO_361001.out).1.symm]; exact (Kd.R_reads' HO_361001.out).2.1); rintro e w74 ⟨rfl, hb⟩; refine ⟨_, rfl, ?_⟩; have n0_ := Aside0.mk (Kd.R_below (by (with_reducible repeat (first | apply Kd.R_alloc | apply Kd.R_drewN | apply Kd.R_drew)); exact HO_349001.out) hb); have n1_ := Aside0.mk (Kd.R_below (by (with_reducible repeat (first | apply Kd.R_alloc | apply Kd.R_drewN | apply Kd.R_drew)); exact HO_355001.out) hb); have n2_ := Aside0.mk (Kd.R_below (by (with_reducible repeat (first | apply Kd.R_alloc | apply Kd.R_drewN | apply Kd.R_drew)); exact HO_361001.out) hb); have n3_ := Aside0.mk (blk_below (g := gb336) (o := .cells #[.int .i64 a0_0, .slice A0_1 l0_1.length c0_1, .string a0_2] 47 (0, 0)) (by (with_reducible repeat (first | refine blk_drewN ?_ _ | refine blk_drew ?_ | refine blk_alloc ?_ _)); exact BK336.out) hb); have n4_ := Aside0.mk (blk_below (g := gb348) (o := .cells #[.int .i64 t343, .slice Ao21 t344.length co21, .string t347] 51 (0, 0)) (by (with_reducible repeat (first | refine blk_drewN ?_ _ | refine blk_drew ?_ | refine blk_alloc ?_ _)); exact BK348.out) hb); have n5_ := Aside0.mk (blk_below (g := gb354) (o := .cells #[.int .i64 t349, .slice Ao28 t369.length co28, .string t353] 51 (0, 0)) (by (with_reducible repeat (first | refine blk_drewN ?_ _ | refine blk_drew ?_ | refine blk_alloc ?_ _)); exact BK354.out) hb); have n6_ := Aside0.mk (blk_below (g := gb360) (o := .cells #[.int .i64 t355, .slice Ao35 t356.length co35, .string t359] 51 (0, 0)) (by (with_reducible repeat (first | refine blk_drewN ?_ _ | refine blk_drew ?_ | refine blk_alloc ?_ _)); exact BK360.out) hb); have n7_ := Aside0.mk (below_step (by repeat (first | (with_reducible first | exact HB.out | apply below_alloc | apply pw_below_drewN | apply below_drew1 | refine below_set ?_ GE336.out | refine below_set ?_ GE348.out | refine below_set ?_ GE354.out | refine below_set ?_ GE360.out) | exact HB.out)) hb); clear HO_349001; clear HO_355001; clear HO_361001; clear BK336; clear BK348; clear BK354; clear BK360; clear HB; have HO_349001 := n0_; have HO_355001 := n1_; have HO_361001 := n2_; have BK336 := n3_; have BK348 := n4_; have BK354 := n5_; have BK360 := n6_; have HB := n7_; clear n0_ n1_ n2_ n3_ n4_ n5_ n6_ n7_; (try clear hb); (try clear hb2); (try clear hk); (try clear hi)))
              have H := HF67.out
              clear HF67
              by_cases c75 : t373 < 0
              · rw [if_pos c75] at H
                have c75b0 : decide (t373 < 0) = true := decide_eq_true c75
                clear c75
                (first | rw [c75b0] | (simp only [i64_w, i32_w]; rw [c75b0]) | skip)
                obtain rfl := Option.some.inj H
                go_wp2
                go_ret
                exact ⟨by first | rfl | (simp [errW_none, errW_some] <;> rfl) | (simp [*, errW_none, errW_some] <;> rfl), by repeat (first | (with_reducible first | exact HB.out | apply below_alloc | apply pw_below_drewN | apply below_drew1 | refine below_set ?_ GE336.out | refine below_set ?_ GE348.out | refine below_set ?_ GE354.out | refine below_set ?_ GE360.out) | exact HB.out)⟩
              · rw [if_neg c75] at H
                have c75b0 : decide (t373 < 0) = false := decide_eq_false c75
                clear c75
                (first | rw [c75b0] | (simp only [i64_w, i32_w]; rw [c75b0]) | skip)
                by_cases c76 : t373 = t371
                · rw [if_pos c76] at H
                  have c76b0 : (t373 == t371) = true := beq_iff_eq.mpr c76
                  have c76b1 : (t373 != t371) = false := bne_eq_false_iff_eq.mpr c76
                  clear c76
                  replace H := Option.bind_eq_some_iff.mp H
                  obtain ⟨⟨t374, t375, t378⟩, A770, H⟩ := H
                  replace H : ((impl_StripAnswer.f kj47 t374 t375 t378).bind fun bt379 => ((laws_eqResponse.f kj47 bt379.1 bt379.2.1 bt379.2.2 t343 t344 t347).bind fun t385 => (if t385 = true then ((laws_heldResponse.f kj47 t355 t372 t359 1).bind fun t386 => (if t386 < 0 then (some false) else (if t386 = t371 then (some true) else (some false)))) else (some false)))) = some r := H
                  have A77 := Aside0.mk A770
                  clear A770
                  replace H := Option.bind_eq_some_iff.mp H
                  obtain ⟨⟨t379, t380, t383⟩, A780, H⟩ := H
                  replace H : ((laws_eqResponse.f kj47 t379 t380 t383 t343 t344 t347).bind fun t385 => (if t385 = true then ((laws_heldResponse.f kj47 t355 t372 t359 1).bind fun t386 => (if t386 < 0 then (some false) else (if t386 = t371 then (some true) else (some false)))) else (some false))) = some r := H
                  have A78 := Aside0.mk A780
                  clear A780
                  replace H := Option.bind_eq_some_iff.mp H
                  obtain ⟨t385, A790, H⟩ := H
                  replace H : (if t385 = true then ((laws_heldResponse.f kj47 t355 t372 t359 1).bind fun t386 => (if t386 < 0 then (some false) else (if t386 = t371 then (some true) else (some false)))) else (some false)) = some r := H
                  have A79 := Aside0.mk A790
                  clear A790
                  have HF80 := Aside0.mk H
                  clear H
                  have hnb81 := NB336_348.out
                  have hnc81 := NB348_336.out
                  have hnb82 := NB336_354.out
                  have hnc82 := NB354_336.out
                  have hnb83 := NB336_360.out
                  have hnc83 := NB360_336.out
                  have hcz84_0 : w74.cell? ⟨gb336, 0, none⟩ = some (.int .i64 a0_0) := (blk_cell BK336.out 0).trans rfl
                  have hcz84_1 : w74.cell? ⟨gb336, 1, none⟩ = some (.slice A0_1 l0_1.length c0_1) := (blk_cell BK336.out 1).trans rfl
                  have hcz84_2 : w74.cell? ⟨gb336, 2, none⟩ = some (.string a0_2) := (blk_cell BK336.out 2).trans rfl
                  have hfz84_0 := blk_frozen BK336.out 0
                  have hfz84_1 := blk_frozen BK336.out 1
                  have hfz84_2 := blk_frozen BK336.out 2
                  go_upto_if 60 with (first | ((with_reducible refine gate_callee (f := 31) rfl ?_); refine goesL_ (some 55) rfl rfl Try.func31 (by kernel_rfl) rfl #[.agg #[.int .i64 a0_0, .slice A0_1 l0_1.length c0_1, .string a0_2]] rfl (by (try simp only [List.map_toArray, List.map_cons, List.map_nil]); first | done | rfl | (simp only [List.length_drop, List.length_take]; rfl)) ?_; (with_reducible refine (laws_toResponse.calls kj47 a0_0 _ _ l0_1 a0_2 t374 t375 t378 _ ?side1 ?side2 A77.out).mono ?_); (case side1 => repeat (first | exact (Kd.C_below HR0_1.out HB.out) | (with_reducible refine Kd.C_alloc ?_ _) | (with_reducible refine Kd.C_drewN ?_ _) | (with_reducible refine Kd.C_drew ?_))); (case side2 => exact HC0_1.out); rintro e w85 ⟨v376, rfl, ho0, hb⟩; refine ⟨_, rfl, ?_⟩; have n0_ := Aside0.mk (Kd.R_elder' (by (with_reducible repeat (first | apply Kd.R_alloc | apply Kd.R_drewN | apply Kd.R_drew)); exact HO_349001.out) (Kd.R_base ho0) hb); have n1_ := Aside0.mk (Kd.R_elder' (by (with_reducible repeat (first | apply Kd.R_alloc | apply Kd.R_drewN | apply Kd.R_drew)); exact HO_355001.out) (Kd.R_base ho0) hb); have n2_ := Aside0.mk (Kd.R_elder' (by (with_reducible repeat (first | apply Kd.R_alloc | apply Kd.R_drewN | apply Kd.R_drew)); exact HO_361001.out) (Kd.R_base ho0) hb); have n3_ := Aside0.mk (Kd.R_lower (Kd.R_new' (Kd.R_new' (Kd.R_new' ho0 (Kd.R_lt (by (with_reducible repeat (first | apply Kd.R_alloc | apply Kd.R_drewN | apply Kd.R_drew)); exact HO_349001.out))) (Kd.R_lt (by (with_reducible repeat (first | apply Kd.R_alloc | apply Kd.R_drewN | apply Kd.R_drew)); exact HO_355001.out))) (Kd.R_lt (by (with_reducible repeat (first | apply Kd.R_alloc | apply Kd.R_drewN | apply Kd.R_drew)); exact HO_361001.out))) (below_size (by repeat (first | (with_reducible first | exact HB.out | apply below_alloc | apply pw_below_drewN | apply below_drew1 | refine below_set ?_ GE336.out | refine below_set ?_ GE348.out | refine below_set ?_ GE354.out | refine below_set ?_ GE360.out) | exact HB.out)))); have n4_ := Aside0.mk (blk_below (g := gb336) (o := .cells #[.int .i64 a0_0, .slice A0_1 l0_1.length c0_1, .string a0_2] 47 (0, 0)) (by (with_reducible repeat (first | refine blk_drewN ?_ _ | refine blk_drew ?_ | refine blk_alloc ?_ _)); exact BK336.out) hb); have n5_ := Aside0.mk (blk_below (g := gb348) (o := .cells #[.int .i64 t343, .slice Ao21 t344.length co21, .string t347] 51 (0, 0)) (by (with_reducible repeat (first | refine blk_drewN ?_ _ | refine blk_drew ?_ | refine blk_alloc ?_ _)); exact BK348.out) hb); have n6_ := Aside0.mk (blk_below (g := gb354) (o := .cells #[.int .i64 t349, .slice Ao28 t369.length co28, .string t353] 51 (0, 0)) (by (with_reducible repeat (first | refine blk_drewN ?_ _ | refine blk_drew ?_ | refine blk_alloc ?_ _)); exact BK354.out) hb); have n7_ := Aside0.mk (blk_below (g := gb360) (o := .cells #[.int .i64 t355, .slice Ao35 t356.length co35, .string t359] 51 (0, 0)) (by (with_reducible repeat (first | refine blk_drewN ?_ _ | refine blk_drew ?_ | refine blk_alloc ?_ _)); exact BK360.out) hb); have n8_ := Aside0.mk (below_step (by repeat (first | (with_reducible first | exact HB.out | apply below_alloc | apply pw_below_drewN | apply below_drew1 | refine below_set ?_ GE336.out | refine below_set ?_ GE348.out | refine below_set ?_ GE354.out | refine below_set ?_ GE360.out) | exact HB.out)) hb); clear HO_349001; clear HO_355001; clear HO_361001; clear BK336; clear BK348; clear BK354; clear BK360; clear HB; have HO_349001 := n0_; have HO_355001 := n1_; have HO_361001 := n2_; have HO377 := n3_; have BK336 := n4_; have BK348 := n5_; have BK354 := n6_; have BK360 := n7_; have HB := n8_; clear n0_ n1_ n2_ n3_ n4_ n5_ n6_ n7_ n8_; (try clear hb); (try clear hb2); (try clear hk); (try clear hi); (try clear ho0); obtain ⟨Ao86, co86, eo86⟩ := Kd.R_slice HO377.out; subst eo86) | ((with_reducible refine gate_callee (f := 32) rfl ?_); refine goesL_ (some 56) rfl rfl Try.func32 (by kernel_rfl) rfl #[.agg #[.int .i64 t374, .slice Ao86 t375.length co86, .string t378]] rfl (by (try simp only [List.map_toArray, List.map_cons, List.map_nil]); first | done | rfl | (simp only [List.length_drop, List.length_take]; rfl)) ?_; (with_reducible refine (impl_StripAnswer.calls kj47 t374 _ _ t375 t378 t379 t380 t383 _ ?side1 ?side2 A78.out).mono ?_); (case side1 => repeat (first | exact (Kd.R_reads' HO377.out).2.2 | (with_reducible refine Kd.C_alloc ?_ _) | (with_reducible refine Kd.C_drewN ?_ _) | (with_reducible refine Kd.C_drew ?_))); (case side2 => exact (Kd.R_reads' HO377.out).2.1); rintro e w87 ⟨v381, rfl, ho0, hb⟩; refine ⟨_, rfl, ?_⟩; have n0_ := Aside0.mk (Kd.R_elder' (by (with_reducible repeat (first | apply Kd.R_alloc | apply Kd.R_drewN | apply Kd.R_drew)); exact HO_349001.out) (Kd.R_base ho0) hb); have n1_ := Aside0.mk (Kd.R_elder' (by (with_reducible repeat (first | apply Kd.R_alloc | apply Kd.R_drewN | apply Kd.R_drew)); exact HO_355001.out) (Kd.R_base ho0) hb); have n2_ := Aside0.mk (Kd.R_elder' (by (with_reducible repeat (first | apply Kd.R_alloc | apply Kd.R_drewN | apply Kd.R_drew)); exact HO_361001.out) (Kd.R_base ho0) hb); have n3_ := Aside0.mk (Kd.R_elder' (by (with_reducible repeat (first | apply Kd.R_alloc | apply Kd.R_drewN | apply Kd.R_drew)); exact HO377.out) (Kd.R_base ho0) hb); have n4_ := Aside0.mk (Kd.R_lower (Kd.R_new' (Kd.R_new' (Kd.R_new' (Kd.R_new' ho0 (Kd.R_lt (by (with_reducible repeat (first | apply Kd.R_alloc | apply Kd.R_drewN | apply Kd.R_drew)); exact HO_349001.out))) (Kd.R_lt (by (with_reducible repeat (first | apply Kd.R_alloc | apply Kd.R_drewN | apply Kd.R_drew)); exact HO_355001.out))) (Kd.R_lt (by (with_reducible repeat (first | apply Kd.R_alloc | apply Kd.R_drewN | apply Kd.R_drew)); exact HO_361001.out))) (Kd.R_lt (by (with_reducible repeat (first | apply Kd.R_alloc | apply Kd.R_drewN | apply Kd.R_drew)); exact HO377.out))) (below_size (by repeat (first | (with_reducible first | exact HB.out | apply below_alloc | apply pw_below_drewN | apply below_drew1 | refine below_set ?_ GE336.out | refine below_set ?_ GE348.out | refine below_set ?_ GE354.out | refine below_set ?_ GE360.out) | exact HB.out)))); have n5_ := Aside0.mk (blk_below (g := gb336) (o := .cells #[.int .i64 a0_0, .slice A0_1 l0_1.length c0_1, .string a0_2] 47 (0, 0)) (by (with_reducible repeat (first | refine blk_drewN ?_ _ | refine blk_drew ?_ | refine blk_alloc ?_ _)); exact BK336.out) hb); have n6_ := Aside0.mk (blk_below (g := gb348) (o := .cells #[.int .i64 t343, .slice Ao21 t344.length co21, .string t347] 51 (0, 0)) (by (with_reducible repeat (first | refine blk_drewN ?_ _ | refine blk_drew ?_ | refine blk_alloc ?_ _)); exact BK348.out) hb); have n7_ := Aside0.mk (blk_below (g := gb354) (o := .cells #[.int .i64 t349, .slice Ao28 t369.length co28, .string t353] 51 (0, 0)) (by (with_reducible repeat (first | refine blk_drewN ?_ _ | refine blk_drew ?_ | refine blk_alloc ?_ _)); exact BK354.out) hb); have n8_ := Aside0.mk (blk_below (g := gb360) (o := .cells #[.int .i64 t355, .slice Ao35 t356.length co35, .string t359] 51 (0, 0)) (by (with_reducible repeat (first | refine blk_drewN ?_ _ | refine blk_drew ?_ | refine blk_alloc ?_ _)); exact BK360.out) hb); have n9_ := Aside0.mk (below_step (by repeat (first | (with_reducible first | exact HB.out | apply below_alloc | apply pw_below_drewN | apply below_drew1 | refine below_set ?_ GE336.out | refine below_set ?_ GE348.out | refine below_set ?_ GE354.out | refine below_set ?_ GE360.out) | exact HB.out)) hb); clear HO_349001; clear HO_355001; clear HO_361001; clear HO377; clear BK336; clear BK348; clear BK354; clear BK360; clear HB; have HO_349001 := n0_; have HO_355001 := n1_; have HO_361001 := n2_; have HO377 := n3_; have HO382 := n4_; have BK336 := n5_; have BK348 := n6_; have BK354 := n7_; have BK360 := n8_; have HB := n9_; clear n0_ n1_ n2_ n3_ n4_ n5_ n6_ n7_ n8_ n9_; (try clear hb); (try clear hb2); (try clear hk); (try clear hi); (try clear ho0)) | ((with_reducible refine gate_dst (N := 10) rfl ?_); refine box_event ?hg (N := 10) ?hd (cs := #[.int .i64 0, .slice none 0 0, .string (⟨#[]⟩ : ByteArray)]) (t := 51) ?hr ?_; (case hd => rfl); (case hg => rfl); (case hr => first | (go_simp; done) | (go_simp; rfl)); intro gb384 hg w88 hbox hb; have n0_ := Aside0.mk (Kd.R_below (by (with_reducible repeat (first | apply Kd.R_alloc | apply Kd.R_drewN | apply Kd.R_drew)); exact HO_349001.out) hb); have n1_ := Aside0.mk (Kd.R_below (by (with_reducible repeat (first | apply Kd.R_alloc | apply Kd.R_drewN | apply Kd.R_drew)); exact HO_355001.out) hb); have n2_ := Aside0.mk (Kd.R_below (by (with_reducible repeat (first | apply Kd.R_alloc | apply Kd.R_drewN | apply Kd.R_drew)); exact HO_361001.out) hb); have n3_ := Aside0.mk (Kd.R_below (by (with_reducible repeat (first | apply Kd.R_alloc | apply Kd.R_drewN | apply Kd.R_drew)); exact HO377.out) hb); have n4_ := Aside0.mk (Kd.R_below (by (with_reducible repeat (first | apply Kd.R_alloc | apply Kd.R_drewN | apply Kd.R_drew)); exact HO382.out) hb); have n5_ := Aside0.mk (blk_below (g := gb336) (o := .cells #[.int .i64 a0_0, .slice A0_1 l0_1.length c0_1, .string a0_2] 47 (0, 0)) (by (with_reducible repeat (first | refine blk_drewN ?_ _ | refine blk_drew ?_ | refine blk_alloc ?_ _)); exact BK336.out) hb); have n6_ := Aside0.mk (blk_below (g := gb348) (o := .cells #[.int .i64 t343, .slice Ao21 t344.length co21, .string t347] 51 (0, 0)) (by (with_reducible repeat (first | refine blk_drewN ?_ _ | refine blk_drew ?_ | refine blk_alloc ?_ _)); exact BK348.out) hb); have n7_ := Aside0.mk (blk_below (g := gb354) (o := .cells #[.int .i64 t349, .slice Ao28 t369.length co28, .string t353] 51 (0, 0)) (by (with_reducible repeat (first | refine blk_drewN ?_ _ | refine blk_drew ?_ | refine blk_alloc ?_ _)); exact BK354.out) hb); have n8_ := Aside0.mk (blk_below (g := gb360) (o := .cells #[.int .i64 t355, .slice Ao35 t356.length co35, .string t359] 51 (0, 0)) (by (with_reducible repeat (first | refine blk_drewN ?_ _ | refine blk_drew ?_ | refine blk_alloc ?_ _)); exact BK360.out) hb); have n9_ := Aside0.mk (below_step (by repeat (first | (with_reducible first | exact HB.out | apply below_alloc | apply pw_below_drewN | apply below_drew1 | refine below_set ?_ GE336.out | refine below_set ?_ GE348.out | refine below_set ?_ GE354.out | refine below_set ?_ GE360.out) | exact HB.out)) hb); have n10_ := Aside0.mk (hbox); have n11_ := Aside0.mk ((by rw [hg]; exact (below_size (by repeat (first | (with_reducible first | exact HB.out | apply below_alloc | apply pw_below_drewN | apply below_drew1 | refine below_set ?_ GE336.out | refine below_set ?_ GE348.out | refine below_set ?_ GE354.out | refine below_set ?_ GE360.out) | exact HB.out))) : w.heap.size ≤ gb384)); have n12_ := Aside0.mk ((by rw [hg]; exact (below_size (by repeat (first | (with_reducible first | exact HB.out | apply below_alloc | apply pw_below_drewN | apply below_drew1 | refine below_set ?_ GE336.out | refine below_set ?_ GE348.out | refine below_set ?_ GE354.out | refine below_set ?_ GE360.out) | exact HB.out))) : w.heap.size ≤ gb384)); have n13_ := Aside0.mk ((by rw [hg]; exact Nat.ne_of_lt (blk_lt (g := gb336) (o := .cells #[.int .i64 a0_0, .slice A0_1 l0_1.length c0_1, .string a0_2] 47 (0, 0)) (by (with_reducible repeat (first | refine blk_drewN ?_ _ | refine blk_drew ?_ | refine blk_alloc ?_ _)); exact BK336.out)) : gb336 ≠ gb384)); have n14_ := Aside0.mk ((by rw [hg]; exact Nat.ne_of_gt (blk_lt (g := gb336) (o := .cells #[.int .i64 a0_0, .slice A0_1 l0_1.length c0_1, .string a0_2] 47 (0, 0)) (by (with_reducible repeat (first | refine blk_drewN ?_ _ | refine blk_drew ?_ | refine blk_alloc ?_ _)); exact BK336.out)) : gb384 ≠ gb336)); have n15_ := Aside0.mk ((by rw [hg]; exact Nat.ne_of_lt (blk_lt (g := gb348) (o := .cells #[.int .i64 t343, .slice Ao21 t344.length co21, .string t347] 51 (0, 0)) (by (with_reducible repeat (first | refine blk_drewN ?_ _ | refine blk_drew ?_ | refine blk_alloc ?_ _)); exact BK348.out)) : gb348 ≠ gb384)); have n16_ := Aside0.mk ((by rw [hg]; exact Nat.ne_of_gt (blk_lt (g := gb348) (o := .cells #[.int .i64 t343, .slice Ao21 t344.length co21, .string t347] 51 (0, 0)) (by (with_reducible repeat (first | refine blk_drewN ?_ _ | refine blk_drew ?_ | refine blk_alloc ?_ _)); exact BK348.out)) : gb384 ≠ gb348)); have n17_ := Aside0.mk ((by rw [hg]; exact Nat.ne_of_lt (blk_lt (g := gb354) (o := .cells #[.int .i64 t349, .slice Ao28 t369.length co28, .string t353] 51 (0, 0)) (by (with_reducible repeat (first | refine blk_drewN ?_ _ | refine blk_drew ?_ | refine blk_alloc ?_ _)); exact BK354.out)) : gb354 ≠ gb384)); have n18_ := Aside0.mk ((by rw [hg]; exact Nat.ne_of_gt (blk_lt (g := gb354) (o := .cells #[.int .i64 t349, .slice Ao28 t369.length co28, .string t353] 51 (0, 0)) (by (with_reducible repeat (first | refine blk_drewN ?_ _ | refine blk_drew ?_ | refine blk_alloc ?_ _)); exact BK354.out)) : gb384 ≠ gb354)); have n19_ := Aside0.mk ((by rw [hg]; exact Nat.ne_of_lt (blk_lt (g := gb360) (o := .cells #[.int .i64 t355, .slice Ao35 t356.length co35, .string t359] 51 (0, 0)) (by (with_reducible repeat (first | refine blk_drewN ?_ _ | refine blk_drew ?_ | refine blk_alloc ?_ _)); exact BK360.out)) : gb360 ≠ gb384)); have n20_ := Aside0.mk ((by rw [hg]; exact Nat.ne_of_gt (blk_lt (g := gb360) (o := .cells #[.int .i64 t355, .slice Ao35 t356.length co35, .string t359] 51 (0, 0)) (by (with_reducible repeat (first | refine blk_drewN ?_ _ | refine blk_drew ?_ | refine blk_alloc ?_ _)); exact BK360.out)) : gb384 ≠ gb360)); clear HO_349001; clear HO_355001; clear HO_361001; clear HO377; clear HO382; clear BK336; clear BK348; clear BK354; clear BK360; clear HB; have HO_349001 := n0_; have HO_355001 := n1_; have HO_361001 := n2_; have HO377 := n3_; have HO382 := n4_; have BK336 := n5_; have BK348 := n6_; have BK354 := n7_; have BK360 := n8_; have HB := n9_; have BK384 := n10_; have GW384 := n11_; have GE384 := n12_; have NB336_384 := n13_; have NB384_336 := n14_; have NB348_384 := n15_; have NB384_348 := n16_; have NB354_384 := n17_; have NB384_354 := n18_; have NB360_384 := n19_; have NB384_360 := n20_; clear n0_ n1_ n2_ n3_ n4_ n5_ n6_ n7_ n8_ n9_ n10_ n11_ n12_ n13_ n14_ n15_ n16_ n17_ n18_ n19_ n20_; clear hb hbox hg; have hnb89 := NB384_336.out; have hnc89 := NB336_384.out; have hnb90 := NB384_348.out; have hnc90 := NB348_384.out; have hnb91 := NB384_354.out; have hnc91 := NB354_384.out; have hnb92 := NB384_360.out; have hnc92 := NB360_384.out; have hcz93_0 : w88.cell? ⟨gb384, 0, none⟩ = some (.int .i64 0) := (blk_cell BK384.out 0).trans rfl; have hcz93_1 : w88.cell? ⟨gb384, 1, none⟩ = some (.slice none 0 0) := (blk_cell BK384.out 1).trans rfl; have hcz93_2 : w88.cell? ⟨gb384, 2, none⟩ = some (.string (⟨#[]⟩ : ByteArray)) := (blk_cell BK384.out 2).trans rfl; have hfz93_0 := blk_frozen BK384.out 0; have hfz93_1 := blk_frozen BK384.out 1; have hfz93_2 := blk_frozen BK384.out 2; obtain ⟨Ao94, co94, eo94⟩ := Kd.R_slice HO382.out; subst eo94; have hnb95 := NB348_354.out; have hnc95 := NB354_348.out; have hnb96 := NB348_360.out; have hnc96 := NB360_348.out; have hcz97_0 : w88.cell? ⟨gb348, 0, none⟩ = some (.int .i64 t343) := (blk_cell BK348.out 0).trans rfl; have hcz97_1 : w88.cell? ⟨gb348, 1, none⟩ = some (.slice Ao21 t344.length co21) := (blk_cell BK348.out 1).trans rfl; have hcz97_2 : w88.cell? ⟨gb348, 2, none⟩ = some (.string t347) := (blk_cell BK348.out 2).trans rfl; have hfz97_0 := blk_frozen BK348.out 0; have hfz97_1 := blk_frozen BK348.out 1; have hfz97_2 := blk_frozen BK348.out 2) | ((with_reducible refine gate_callee (f := 33) rfl ?_); refine goesL_ (some 59) rfl rfl Try.func33 (by kernel_rfl) rfl #[.agg #[.int .i64 t379, .slice Ao94 t380.length co94, .string t383], .agg #[.int .i64 t343, .slice Ao21 t344.length co21, .string t347]] rfl (by (try simp only [List.map_toArray, List.map_cons, List.map_nil]); first | done | rfl | (simp only [List.length_drop, List.length_take]; rfl)) ?_; (with_reducible refine (laws_eqResponse.calls kj47 t379 _ _ t380 t383 t343 _ _ t344 t347 t385 _ ?side1 ?side2 ?side3 ?side4 A79.out).mono ?_); (case side1 => refine (Kd.R_reads' (e := 146) (base := w.heap.size) (ok := fun k_ => ((((True ∧ some k_ ≠ (.slice Ao21 t344.length co21 : Value).ownBlock) ∧ some k_ ≠ (.slice Ao28 t369.length co28 : Value).ownBlock) ∧ some k_ ≠ (.slice Ao35 t356.length co35 : Value).ownBlock) ∧ some k_ ≠ (.slice Ao86 t375.length co86 : Value).ownBlock)) (n := t380.length) (c := co94) ?_).2.2; exact (by (with_reducible repeat (first | apply Kd.R_alloc | apply Kd.R_drewN | apply Kd.R_drew)); exact (Kd.R_mono (Kd.R_far (p := ⟨gb384, 2, none⟩) (Kd.R_far (p := ⟨gb384, 1, none⟩) (Kd.R_far (p := ⟨gb384, 0, none⟩) (Kd.R_types HO382.out BK384.out (by decide)) (fun _ hk => hk.2) (.int .i64 t379)) (fun _ hk => hk.2) (.slice Ao94 t380.length co94)) (fun _ hk => hk.2) (.string t383)) (fun _ h_ => h_.1)))); (case side2 => exact (Kd.R_reads' HO382.out).2.1); (case side3 => refine (Kd.R_reads' (e := 146) (base := w.heap.size) (ok := fun k_ => (((some k_ ≠ (.slice Ao28 t369.length co28 : Value).ownBlock ∧ some k_ ≠ (.slice Ao35 t356.length co35 : Value).ownBlock) ∧ some k_ ≠ (.slice Ao86 t375.length co86 : Value).ownBlock) ∧ some k_ ≠ (.slice Ao94 t380.length co94 : Value).ownBlock)) (n := t344.length) (c := co21) ?_).2.2; exact (by (with_reducible repeat (first | apply Kd.R_alloc | apply Kd.R_drewN | apply Kd.R_drew)); exact (Kd.R_mono (Kd.R_far (p := ⟨gb384, 2, none⟩) (Kd.R_far (p := ⟨gb384, 1, none⟩) (Kd.R_far (p := ⟨gb384, 0, none⟩) (Kd.R_types HO_349001.out BK384.out (by decide)) (fun _ hk => hk.2) (.int .i64 t379)) (fun _ hk => hk.2) (.slice Ao94 t380.length co94)) (fun _ hk => hk.2) (.string t383)) (fun _ h_ => h_.1)))); (case side4 => exact (Kd.R_reads' HO_349001.out).2.1); rintro e w98 ⟨rfl, hb⟩; refine ⟨_, rfl, ?_⟩; have n0_ := Aside0.mk (Kd.R_below (by (with_reducible repeat (first | apply Kd.R_alloc | apply Kd.R_drewN | apply Kd.R_drew)); exact (Kd.R_mono (Kd.R_far (p := ⟨gb384, 2, none⟩) (Kd.R_far (p := ⟨gb384, 1, none⟩) (Kd.R_far (p := ⟨gb384, 0, none⟩) (Kd.R_types HO_349001.out BK384.out (by decide)) (fun _ hk => hk.2) (.int .i64 t379)) (fun _ hk => hk.2) (.slice Ao94 t380.length co94)) (fun _ hk => hk.2) (.string t383)) (fun _ h_ => h_.1))) hb); have n1_ := Aside0.mk (Kd.R_below (by (with_reducible repeat (first | apply Kd.R_alloc | apply Kd.R_drewN | apply Kd.R_drew)); exact (Kd.R_mono (Kd.R_far (p := ⟨gb384, 2, none⟩) (Kd.R_far (p := ⟨gb384, 1, none⟩) (Kd.R_far (p := ⟨gb384, 0, none⟩) (Kd.R_types HO_355001.out BK384.out (by decide)) (fun _ hk => hk.2) (.int .i64 t379)) (fun _ hk => hk.2) (.slice Ao94 t380.length co94)) (fun _ hk => hk.2) (.string t383)) (fun _ h_ => h_.1))) hb); have n2_ := Aside0.mk (Kd.R_below (by (with_reducible repeat (first | apply Kd.R_alloc | apply Kd.R_drewN | apply Kd.R_drew)); exact (Kd.R_mono (Kd.R_far (p := ⟨gb384, 2, none⟩) (Kd.R_far (p := ⟨gb384, 1, none⟩) (Kd.R_far (p := ⟨gb384, 0, none⟩) (Kd.R_types HO_361001.out BK384.out (by decide)) (fun _ hk => hk.2) (.int .i64 t379)) (fun _ hk => hk.2) (.slice Ao94 t380.length co94)) (fun _ hk => hk.2) (.string t383)) (fun _ h_ => h_.1))) hb); have n3_ := Aside0.mk (Kd.R_below (by (with_reducible repeat (first | apply Kd.R_alloc | apply Kd.R_drewN | apply Kd.R_drew)); exact (Kd.R_mono (Kd.R_far (p := ⟨gb384, 2, none⟩) (Kd.R_far (p := ⟨gb384, 1, none⟩) (Kd.R_far (p := ⟨gb384, 0, none⟩) (Kd.R_types HO377.out BK384.out (by decide)) (fun _ hk => hk.2) (.int .i64 t379)) (fun _ hk => hk.2) (.slice Ao94 t380.length co94)) (fun _ hk => hk.2) (.string t383)) (fun _ h_ => h_.1))) hb); have n4_ := Aside0.mk (Kd.R_below (by (with_reducible repeat (first | apply Kd.R_alloc | apply Kd.R_drewN | apply Kd.R_drew)); exact (Kd.R_mono (Kd.R_far (p := ⟨gb384, 2, none⟩) (Kd.R_far (p := ⟨gb384, 1, none⟩) (Kd.R_far (p := ⟨gb384, 0, none⟩) (Kd.R_types HO382.out BK384.out (by decide)) (fun _ hk => hk.2) (.int .i64 t379)) (fun _ hk => hk.2) (.slice Ao94 t380.length co94)) (fun _ hk => hk.2) (.string t383)) (fun _ h_ => h_.1))) hb); have n5_ := Aside0.mk (blk_below (g := gb336) (o := .cells #[.int .i64 a0_0, .slice A0_1 l0_1.length c0_1, .string a0_2] 47 (0, 0)) (by (with_reducible repeat (first | refine blk_drewN ?_ _ | refine blk_drew ?_ | refine blk_alloc ?_ _)); refine blk_far ?_ NB336_384.out _; (with_reducible repeat (first | refine blk_drewN ?_ _ | refine blk_drew ?_ | refine blk_alloc ?_ _)); refine blk_far ?_ NB336_384.out _; (with_reducible repeat (first | refine blk_drewN ?_ _ | refine blk_drew ?_ | refine blk_alloc ?_ _)); refine blk_far ?_ NB336_384.out _; (with_reducible repeat (first | refine blk_drewN ?_ _ | refine blk_drew ?_ | refine blk_alloc ?_ _)); exact BK336.out) hb); have n6_ := Aside0.mk (blk_below (g := gb348) (o := .cells #[.int .i64 t343, .slice Ao21 t344.length co21, .string t347] 51 (0, 0)) (by (with_reducible repeat (first | refine blk_drewN ?_ _ | refine blk_drew ?_ | refine blk_alloc ?_ _)); refine blk_far ?_ NB348_384.out _; (with_reducible repeat (first | refine blk_drewN ?_ _ | refine blk_drew ?_ | refine blk_alloc ?_ _)); refine blk_far ?_ NB348_384.out _; (with_reducible repeat (first | refine blk_drewN ?_ _ | refine blk_drew ?_ | refine blk_alloc ?_ _)); refine blk_far ?_ NB348_384.out _; (with_reducible repeat (first | refine blk_drewN ?_ _ | refine blk_drew ?_ | refine blk_alloc ?_ _)); exact BK348.out) hb); have n7_ := Aside0.mk (blk_below (g := gb354) (o := .cells #[.int .i64 t349, .slice Ao28 t369.length co28, .string t353] 51 (0, 0)) (by (with_reducible repeat (first | refine blk_drewN ?_ _ | refine blk_drew ?_ | refine blk_alloc ?_ _)); refine blk_far ?_ NB354_384.out _; (with_reducible repeat (first | refine blk_drewN ?_ _ | refine blk_drew ?_ | refine blk_alloc ?_ _)); refine blk_far ?_ NB354_384.out _; (with_reducible repeat (first | refine blk_drewN ?_ _ | refine blk_drew ?_ | refine blk_alloc ?_ _)); refine blk_far ?_ NB354_384.out _; (with_reducible repeat (first | refine blk_drewN ?_ _ | refine blk_drew ?_ | refine blk_alloc ?_ _)); exact BK354.out) hb); have n8_ := Aside0.mk (blk_below (g := gb360) (o := .cells #[.int .i64 t355, .slice Ao35 t356.length co35, .string t359] 51 (0, 0)) (by (with_reducible repeat (first | refine blk_drewN ?_ _ | refine blk_drew ?_ | refine blk_alloc ?_ _)); refine blk_far ?_ NB360_384.out _; (with_reducible repeat (first | refine blk_drewN ?_ _ | refine blk_drew ?_ | refine blk_alloc ?_ _)); refine blk_far ?_ NB360_384.out _; (with_reducible repeat (first | refine blk_drewN ?_ _ | refine blk_drew ?_ | refine blk_alloc ?_ _)); refine blk_far ?_ NB360_384.out _; (with_reducible repeat (first | refine blk_drewN ?_ _ | refine blk_drew ?_ | refine blk_alloc ?_ _)); exact BK360.out) hb); have n9_ := Aside0.mk (blk_below (g := gb384) (o := .cells #[.int .i64 t379, .slice Ao94 t380.length co94, .string t383] 51 (0, 0)) (by (with_reducible repeat (first | refine blk_drewN ?_ _ | refine blk_drew ?_ | refine blk_alloc ?_ _)); refine blk_put (cs := #[.int .i64 t379, .slice Ao94 t380.length co94, .string (⟨#[]⟩ : ByteArray)]) ?_ 2 _ rfl; (with_reducible repeat (first | refine blk_drewN ?_ _ | refine blk_drew ?_ | refine blk_alloc ?_ _)); refine blk_put (cs := #[.int .i64 t379, .slice none 0 0, .string (⟨#[]⟩ : ByteArray)]) ?_ 1 _ rfl; (with_reducible repeat (first | refine blk_drewN ?_ _ | refine blk_drew ?_ | refine blk_alloc ?_ _)); refine blk_put (cs := #[.int .i64 0, .slice none 0 0, .string (⟨#[]⟩ : ByteArray)]) ?_ 0 _ rfl; (with_reducible repeat (first | refine blk_drewN ?_ _ | refine blk_drew ?_ | refine blk_alloc ?_ _)); exact BK384.out) hb); have n10_ := Aside0.mk (below_step (by repeat (first | (with_reducible first | exact HB.out | apply below_alloc | apply pw_below_drewN | apply below_drew1 | refine below_set ?_ GE336.out | refine below_set ?_ GE348.out | refine below_set ?_ GE354.out | refine below_set ?_ GE360.out | refine below_set ?_ GE384.out) | exact HB.out)) hb); clear HO_349001; clear HO_355001; clear HO_361001; clear HO377; clear HO382; clear BK336; clear BK348; clear BK354; clear BK360; clear BK384; clear HB; have HO_349001 := n0_; have HO_355001 := n1_; have HO_361001 := n2_; have HO377 := n3_; have HO382 := n4_; have BK336 := n5_; have BK348 := n6_; have BK354 := n7_; have BK360 := n8_; have BK384 := n9_; have HB := n10_; clear n0_ n1_ n2_ n3_ n4_ n5_ n6_ n7_ n8_ n9_ n10_; (try clear hb); (try clear hb2); (try clear hk); (try clear hi)))
                  have H := HF80.out
                  clear HF80
                  by_cases c99 : t385 = true
                  · subst c99
                    have H1 : ((laws_heldResponse.f kj47 t355 t372 t359 1).bind fun t386 => (if t386 < 0 then (some false) else (if t386 = t371 then (some true) else (some false)))) = some r := by rw [if_pos rfl] at H; exact H
                    clear H
                    have H := H1
                    clear H1
                    replace H := Option.bind_eq_some_iff.mp H
                    obtain ⟨t386, A1000, H⟩ := H
                    replace H : (if t386 < 0 then (some false) else (if t386 = t371 then (some true) else (some false))) = some r := H
                    have A100 := Aside0.mk A1000
                    clear A1000
                    have HF101 := Aside0.mk H
                    clear H
                    have hnb102 := NB360_336.out
                    have hnc102 := NB336_360.out
                    have hnb103 := NB360_348.out
                    have hnc103 := NB348_360.out
                    have hnb104 := NB360_354.out
                    have hnc104 := NB354_360.out
                    have hnb105 := NB360_384.out
                    have hnc105 := NB384_360.out
                    have hcz106_0 : w98.cell? ⟨gb360, 0, none⟩ = some (.int .i64 t355) := (blk_cell BK360.out 0).trans rfl
                    have hcz106_1 : w98.cell? ⟨gb360, 1, none⟩ = some (.slice Ao35 t356.length co35) := (blk_cell BK360.out 1).trans rfl
                    have hcz106_2 : w98.cell? ⟨gb360, 2, none⟩ = some (.string t359) := (blk_cell BK360.out 2).trans rfl
                    have hfz106_0 := blk_frozen BK360.out 0
                    have hfz106_1 := blk_frozen BK360.out 1
                    have hfz106_2 := blk_frozen BK360.out 2
                    go_upto_if 65 with (first | ((with_reducible refine gate_callee (f := 35) rfl ?_); refine goesL_ (some 63) rfl rfl Try.func35 (by kernel_rfl) rfl #[.agg #[.int .i64 t355, .slice Ao35 t372.length co35, .string t359], .int .i64 1] rfl (by (try simp only [List.map_toArray, List.map_cons, List.map_nil]); first | done | (rw [show t372.length = t356.length from (Kd.R_reads' HO_361001.out).1.symm] <;> rfl) | rfl | (simp only [List.length_drop, List.length_take]; rfl)) ?_; (with_reducible refine (laws_heldResponse.calls kj47 t355 _ _ t372 t359 1 t386 _ ?side1 ?side2 A100.out).mono ?_); (case side1 => repeat (first | exact (Kd.R_reads' HO_361001.out).2.2 | (with_reducible refine Kd.C_alloc ?_ _) | (with_reducible refine Kd.C_drewN ?_ _) | (with_reducible refine Kd.C_drew ?_))); (case side2 => rw [show t372.length = t356.length from (Kd.R_reads' HO_361001.out).1.symm]; exact (Kd.R_reads' HO_361001.out).2.1); rintro e w107 ⟨rfl, hb⟩; refine ⟨_, rfl, ?_⟩; have n0_ := Aside0.mk (Kd.R_below (by (with_reducible repeat (first | apply Kd.R_alloc | apply Kd.R_drewN | apply Kd.R_drew)); exact HO_349001.out) hb); have n1_ := Aside0.mk (Kd.R_below (by (with_reducible repeat (first | apply Kd.R_alloc | apply Kd.R_drewN | apply Kd.R_drew)); exact HO_355001.out) hb); have n2_ := Aside0.mk (Kd.R_below (by (with_reducible repeat (first | apply Kd.R_alloc | apply Kd.R_drewN | apply Kd.R_drew)); exact HO_361001.out) hb); have n3_ := Aside0.mk (Kd.R_below (by (with_reducible repeat (first | apply Kd.R_alloc | apply Kd.R_drewN | apply Kd.R_drew)); exact HO377.out) hb); have n4_ := Aside0.mk (Kd.R_below (by (with_reducible repeat (first | apply Kd.R_alloc | apply Kd.R_drewN | apply Kd.R_drew)); exact HO382.out) hb); have n5_ := Aside0.mk (blk_below (g := gb336) (o := .cells #[.int .i64 a0_0, .slice A0_1 l0_1.length c0_1, .string a0_2] 47 (0, 0)) (by (with_reducible repeat (first | refine blk_drewN ?_ _ | refine blk_drew ?_ | refine blk_alloc ?_ _)); exact BK336.out) hb); have n6_ := Aside0.mk (blk_below (g := gb348) (o := .cells #[.int .i64 t343, .slice Ao21 t344.length co21, .string t347] 51 (0, 0)) (by (with_reducible repeat (first | refine blk_drewN ?_ _ | refine blk_drew ?_ | refine blk_alloc ?_ _)); exact BK348.out) hb); have n7_ := Aside0.mk (blk_below (g := gb354) (o := .cells #[.int .i64 t349, .slice Ao28 t369.length co28, .string t353] 51 (0, 0)) (by (with_reducible repeat (first | refine blk_drewN ?_ _ | refine blk_drew ?_ | refine blk_alloc ?_ _)); exact BK354.out) hb); have n8_ := Aside0.mk (blk_below (g := gb360) (o := .cells #[.int .i64 t355, .slice Ao35 t356.length co35, .string t359] 51 (0, 0)) (by (with_reducible repeat (first | refine blk_drewN ?_ _ | refine blk_drew ?_ | refine blk_alloc ?_ _)); exact BK360.out) hb); have n9_ := Aside0.mk (blk_below (g := gb384) (o := .cells #[.int .i64 t379, .slice Ao94 t380.length co94, .string t383] 51 (0, 0)) (by (with_reducible repeat (first | refine blk_drewN ?_ _ | refine blk_drew ?_ | refine blk_alloc ?_ _)); exact BK384.out) hb); have n10_ := Aside0.mk (below_step (by repeat (first | (with_reducible first | exact HB.out | apply below_alloc | apply pw_below_drewN | apply below_drew1 | refine below_set ?_ GE336.out | refine below_set ?_ GE348.out | refine below_set ?_ GE354.out | refine below_set ?_ GE360.out | refine below_set ?_ GE384.out) | exact HB.out)) hb); clear HO_349001; clear HO_355001; clear HO_361001; clear HO377; clear HO382; clear BK336; clear BK348; clear BK354; clear BK360; clear BK384; clear HB; have HO_349001 := n0_; have HO_355001 := n1_; have HO_361001 := n2_; have HO377 := n3_; have HO382 := n4_; have BK336 := n5_; have BK348 := n6_; have BK354 := n7_; have BK360 := n8_; have BK384 := n9_; have HB := n10_; clear n0_ n1_ n2_ n3_ n4_ n5_ n6_ n7_ n8_ n9_ n10_; (try clear hb); (try clear hb2); (try clear hk); (try clear hi)))
                    have H := HF101.out
                    clear HF101
                    by_cases c108 : t386 < 0
                    · rw [if_pos c108] at H
                      have c108b0 : decide (t386 < 0) = true := decide_eq_true c108
                      clear c108
                      (first | rw [c108b0] | (simp only [i64_w, i32_w]; rw [c108b0]) | skip)
                      obtain rfl := Option.some.inj H
                      go_wp2
                      go_ret
                      exact ⟨by first | rfl | (simp [errW_none, errW_some] <;> rfl) | (simp [*, errW_none, errW_some] <;> rfl), by repeat (first | (with_reducible first | exact HB.out | apply below_alloc | apply pw_below_drewN | apply below_drew1 | refine below_set ?_ GE336.out | refine below_set ?_ GE348.out | refine below_set ?_ GE354.out | refine below_set ?_ GE360.out | refine below_set ?_ GE384.out) | exact HB.out)⟩
                    · rw [if_neg c108] at H
                      have c108b0 : decide (t386 < 0) = false := decide_eq_false c108
                      clear c108
                      (first | rw [c108b0] | (simp only [i64_w, i32_w]; rw [c108b0]) | skip)
                      by_cases c109 : t386 = t371
                      · rw [if_pos c109] at H
                        have c109b0 : (t386 == t371) = true := beq_iff_eq.mpr c109
                        have c109b1 : (t386 != t371) = false := bne_eq_false_iff_eq.mpr c109
                        clear c109
                        obtain rfl := Option.some.inj H
                        go_wp2
                        go_ret
                        exact ⟨by first | rfl | (simp [errW_none, errW_some] <;> rfl) | (simp [*, errW_none, errW_some] <;> rfl), by repeat (first | (with_reducible first | exact HB.out | apply below_alloc | apply pw_below_drewN | apply below_drew1 | refine below_set ?_ GE336.out | refine below_set ?_ GE348.out | refine below_set ?_ GE354.out | refine below_set ?_ GE360.out | refine below_set ?_ GE384.out) | exact HB.out)⟩
                      · rw [if_neg c109] at H
                        have c109b0 : (t386 == t371) = false := beq_eq_false_iff_ne.mpr c109
                        have c109b1 : (t386 != t371) = true := bne_iff_ne.mpr c109
                        obtain rfl := Option.some.inj H
                        go_wp2
                        go_ret
                        exact ⟨by first | rfl | (simp [errW_none, errW_some] <;> rfl) | (simp [*, errW_none, errW_some] <;> rfl), by repeat (first | (with_reducible first | exact HB.out | apply below_alloc | apply pw_below_drewN | apply below_drew1 | refine below_set ?_ GE336.out | refine below_set ?_ GE348.out | refine below_set ?_ GE354.out | refine below_set ?_ GE360.out | refine below_set ?_ GE384.out) | exact HB.out)⟩
                  · replace c99 := Bool.eq_false_iff.mpr c99
                    subst c99
                    have H1 : (some false) = some r := by rw [if_neg (show ¬ (false = true) by decide)] at H; exact H
                    clear H
                    have H := H1
                    clear H1
                    obtain rfl := Option.some.inj H
                    go_wp2
                    go_ret
                    exact ⟨by first | rfl | (simp [errW_none, errW_some] <;> rfl) | (simp [*, errW_none, errW_some] <;> rfl), by repeat (first | (with_reducible first | exact HB.out | apply below_alloc | apply pw_below_drewN | apply below_drew1 | refine below_set ?_ GE336.out | refine below_set ?_ GE348.out | refine below_set ?_ GE354.out | refine below_set ?_ GE360.out | refine below_set ?_ GE384.out) | exact HB.out)⟩
                · rw [if_neg c76] at H
                  have c76b0 : (t373 == t371) = false := beq_eq_false_iff_ne.mpr c76
                  have c76b1 : (t373 != t371) = true := bne_iff_ne.mpr c76
                  obtain rfl := Option.some.inj H
                  go_wp2
                  go_ret
                  exact ⟨by first | rfl | (simp [errW_none, errW_some] <;> rfl) | (simp [*, errW_none, errW_some] <;> rfl), by repeat (first | (with_reducible first | exact HB.out | apply below_alloc | apply pw_below_drewN | apply below_drew1 | refine below_set ?_ GE336.out | refine below_set ?_ GE348.out | refine below_set ?_ GE354.out | refine below_set ?_ GE360.out) | exact HB.out)⟩
      · replace c46 := Bool.eq_false_iff.mpr c46
        subst c46
        have H1 : (some false) = some r := by rw [if_neg (show ¬ (false = true) by decide)] at H; exact H
        clear H
        have H := H1
        clear H1
        obtain rfl := Option.some.inj H
        go_wp2
        go_ret
        exact ⟨by first | rfl | (simp [errW_none, errW_some] <;> rfl) | (simp [*, errW_none, errW_some] <;> rfl), by repeat (first | (with_reducible first | exact HB.out | apply below_alloc | apply pw_below_drewN | apply below_drew1 | refine below_set ?_ GE336.out | refine below_set ?_ GE348.out | refine below_set ?_ GE354.out | refine below_set ?_ GE360.out) | exact HB.out)⟩
    · replace c38 := Bool.eq_false_iff.mpr c38
      subst c38
      have H1 : (some false) = some r := by rw [if_neg (show ¬ (false = true) by decide)] at H; exact H
      clear H
      have H := H1
      clear H1
      obtain rfl := Option.some.inj H
      go_wp2
      go_ret
      exact ⟨by first | rfl | (simp [errW_none, errW_some] <;> rfl) | (simp [*, errW_none, errW_some] <;> rfl), by repeat (first | (with_reducible first | exact HB.out | apply below_alloc | apply pw_below_drewN | apply below_drew1 | refine below_set ?_ GE336.out | refine below_set ?_ GE348.out | refine below_set ?_ GE354.out | refine below_set ?_ GE360.out) | exact HB.out)⟩


end Go.Proofs.Ytelmcjohkifeeaa.PA
