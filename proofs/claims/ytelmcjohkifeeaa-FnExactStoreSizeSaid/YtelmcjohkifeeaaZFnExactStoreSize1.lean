/- Printed functions that FnExactStoreSize reaches, with their contracts. Condition of each: its Lean function answers. -/
import Derived.Test.YtelmcjohkifeeaaZFnExactStoreSize0
namespace Go.Proofs.Ytelmcjohkifeeaa.PA
open Go.RowKit Go.Proofs.YtelmcjohkifeeaaW.PrintWords Go.Proofs.YtelmcjohkifeeaaW.PrintLast Go.Proofs.YtelmcjohkifeeaaW.PrintMore
attribute [local go_sem] max2_int min2_int max_two min_two max_three min_three max_four min_four   -- for this text's walks alone
set_option linter.unusedVariables false
set_option linter.unusedSimpArgs false
/-! ### laws_toEntryS: function 104 -/
def laws_toEntryS.l0 : Nat → List (S61) → List (S66) → Int → Option ((List (S66)))
  | 0, _, _, _ => none
  | k + 1, x0, x3, x4 => if x4 < (x0.length : Int) then (if 0 ≤ x4 then ((laws_toEntry.f k ((rd_T61 x0 x4).f0) ((rd_T61 x0 x4).f1) ((rd_T61 x0 x4).f2.f0) ((rd_T61 x0 x4).f2.f1) ((rd_T61 x0 x4).f2.f2) ((rd_T61 x0 x4).f3) ((rd_T61 x0 x4).f4) ((rd_T61 x0 x4).f5) ((rd_T61 x0 x4).f6) ((rd_T61 x0 x4).f7)).bind fun bt659 => (if x4 < (x3.length : Int) then (laws_toEntryS.l0 k x0 (x3.set (x4 : Int).toNat (⟨bt659.1, bt659.2.1, (⟨bt659.2.2.1, bt659.2.2.2.1, bt659.2.2.2.2.1⟩ : S51), bt659.2.2.2.2.2.1, bt659.2.2.2.2.2.2.1, bt659.2.2.2.2.2.2.2.1, bt659.2.2.2.2.2.2.2.2.1, bt659.2.2.2.2.2.2.2.2.2⟩ : S66)) (wrap64 (x4 + 1))) else (none))) else (none)) else (some x3)
def laws_toEntryS.f (k : Nat) (l0 : List (S61)) : Option ((List (S66))) := if 0 ≤ (l0.length : Int) then (if ((l0.length : Int) : Int).toNat ≤ 1954687338268 then (laws_toEntryS.l0 k l0 (List.replicate ((l0.length : Int) : Int).toNat z66) 0) else (none)) else (none)
theorem laws_toEntryS.mono_l : ∀ k, (∀ y0 y1 y2, LeO (laws_toEntryS.l0 k y0 y1 y2) (laws_toEntryS.l0 (k + 1) y0 y1 y2))
  | 0 => fun _ _ _ r h => by simp [laws_toEntryS.l0] at h
  | k + 1 => by
    have ih0 := laws_toEntryS.mono_l k
    · intro y0 y1 y2
      unfold laws_toEntryS.l0
      repeat' first
      | (with_reducible exact ih0 _ _ _)
      | (with_reducible exact laws_toEntry.mono _ _ _ _ _ _ _ _ _ _ _)
      | (with_reducible exact LeO.refl _)
      | (with_reducible exact LeO.none _)
      | (with_reducible refine LeO.ite ?_ ?_)
      | (with_reducible refine LeO.bind ?_ (fun _ => ?_))
      | exact ih0 _ _ _
      | exact laws_toEntry.mono _ _ _ _ _ _ _ _ _ _ _
      | exact LeO.none _
      | refine LeO.ite ?_ ?_
      | refine LeO.bind ?_ (fun _ => ?_)
theorem laws_toEntryS.mono : ∀ a0 k, LeO (laws_toEntryS.f k a0) (laws_toEntryS.f (k + 1) a0) := by
  intro a0 k
  have ih0 := laws_toEntryS.mono_l k
  unfold laws_toEntryS.f
  repeat' first
      | (with_reducible exact ih0 _ _ _)
      | (with_reducible exact laws_toEntry.mono _ _ _ _ _ _ _ _ _ _ _)
      | (with_reducible exact LeO.refl _)
      | (with_reducible exact LeO.none _)
      | (with_reducible refine LeO.ite ?_ ?_)
      | (with_reducible refine LeO.bind ?_ (fun _ => ?_))
      | exact ih0 _ _ _
      | exact laws_toEntry.mono _ _ _ _ _ _ _ _ _ _ _
      | exact LeO.none _
      | refine LeO.ite ?_ ?_
      | refine LeO.bind ?_ (fun _ => ?_)
set_option maxHeartbeats 8000000 in
set_option maxRecDepth 100000 in
theorem laws_toEntryS.calls (k : Nat) (A0 : Option Addr) (c0 : Nat) (l0 : List (S61)) (r : List (S66)) (w : World) (hr0 : Kd.C k61 w A0 l0.length l0) (hc0 : l0.length ≤ c0) (h : laws_toEntryS.f k l0 = some r) :
    Calls Try.prog 104 #[.slice A0 l0.length c0] w fun e w' => ∃ v0_ : Value, e = .returned (v0_) ∧ Kd.S k66 66 w' w.heap.size (fun _ => True) v0_ r ∧ Below w.heap.size w w' := by
  have hu61 := Try.underlying61
  have hu66 := Try.underlying66
  have HR0 := Aside0.mk hr0
  have HC0 := Aside0.mk hc0
  clear hr0 hc0
  have HB := Aside0.mk (Below.refl w.heap.size w)
  have H : (if 0 ≤ (l0.length : Int) then (if ((l0.length : Int) : Int).toNat ≤ 1954687338268 then (laws_toEntryS.l0 k l0 (List.replicate ((l0.length : Int) : Int).toNat z66) 0) else (none)) else (none)) = some r := h
  clear h
  by_cases c2 : 0 ≤ (l0.length : Int)
  · rw [if_pos c2] at H
    have c2b0 := eq_true c2
    have c2b1 : decide (0 ≤ (l0.length : Int)) = true := decide_eq_true c2
    clear c2
    by_cases c3 : ((l0.length : Int) : Int).toNat ≤ 1954687338268
    · rw [if_pos c3] at H
      have c3b0 := eq_true c3
      have c3b1 : decide (((l0.length : Int) : Int).toNat ≤ 1954687338268) = true := decide_eq_true c3
      clear c3
      obtain ⟨y655, hy655⟩ : ∃ y_ : List (S66), y_ = (List.replicate ((l0.length : Int) : Int).toNat z66) := ⟨_, rfl⟩
      replace H : (laws_toEntryS.l0 k l0 y655 0) = some r := by first | (rw [hy655]; with_reducible exact H) | (have H2_ := (Option.bind_some _ _).symm.trans H; rw [hy655]; with_reducible exact H2_) | (have H2_ := (Option.bind_some _ _).symm.trans H; with_reducible exact H2_) | with_reducible exact H | (rw [hy655]; exact H) | exact H
      have Ny655 := Aside0.mk hy655
      clear hy655
      have H' := Aside0.mk H
      clear H
      go_enter Try.func104, Try.ntmps104
      go_wp2_with (first | ((with_reducible refine gate_dst (N := 7) rfl ?_); refine Kd.S_make k66 _ 66 rfl (N := 7) rfl 84 _ _ rfl (l0.length : Int) rfl rfl Try.underlying84 (.agg #[(.string ⟨#[]⟩), (.slice none 0 0), (.int .i64 0), (.slice none 0 0), (.string ⟨#[]⟩), (.slice none 0 0), (.int .i64 0), (.int .i64 0), (.int .i64 0), (.int .i64 0)]) 144 info66 rfl (by decide) (by omega) z66 (ok := fun _ => True) (okp := fun _ => True) (k66_mkM _ _ _ z66 (Kd.R_nil _ _ _ _ _) (Kd.R_nil _ _ _ _ _) (Kd.R_nil _ _ _ _ _)) (fun _ hk => hk) trivial (of_decide_eq_true (by first | (with_reducible assumption) | assumption)) (Nat.le_trans (Nat.mul_le_mul_right _ (of_decide_eq_true (by first | (with_reducible assumption) | assumption) : (l0.length : Int).toNat ≤ 1954687338268)) (by omega)) (Below.refl _ _) (Nat.le_refl _) ?_; intro v656 w4 ho5 hb hg_ hnew_; clear hg_ hnew_; (first | rw [← Ny655.out] at ho5 | (simp only [Int.reduceToNat] at ho5; rw [← Ny655.out] at ho5)); have n0_ := Aside0.mk (Kd.S_lower ho5 (below_size (by repeat (first | (with_reducible first | exact HB.out | apply below_alloc | apply pw_below_drewN | apply below_drew1) | exact HB.out)))); have n1_ := Aside0.mk (below_step (by repeat (first | (with_reducible first | exact HB.out | apply below_alloc | apply pw_below_drewN | apply below_drew1) | exact HB.out)) hb); clear HB; have HO657 := n0_; have HB := n1_; clear n0_ n1_; clear hb ho5))
      go_loopg [4] k (fun kq v4 w' => ∃ (x3_1 : List (S66)) (x4_1 : Int), v4 = .int .i64 x4_1 ∧ Aside0 (laws_toEntryS.l0 kq l0 x3_1 x4_1 = some r) ∧ Aside0 (kq ≤ k) ∧ Aside0 (Kd.S k66 66 w' w.heap.size (fun _ => True) v656 x3_1) ∧ Aside0 (Below w.heap.size w w'))
      case atStart => exact ⟨(y655), (0), (by first | rfl | (simp; done) | (simp [*]; done)), H', ⟨Nat.le_refl _⟩, ⟨by (with_reducible repeat (first | apply Kd.S_alloc | apply Kd.S_drewN | apply Kd.S_drew)); exact HO657.out⟩, ⟨by repeat (first | (with_reducible first | exact HB.out | apply below_alloc | apply pw_below_drewN | apply below_drew1) | exact HB.out)⟩⟩
      case round =>
        clear H'
        try clear c1
        try clear c2
        try clear c2b0
        try clear c2b1
        try clear p2
        try clear c3
        try clear c3b0
        try clear c3b1
        obtain ⟨x3_1, x4_1, rfl, HA, HK1, HO_3, HB⟩ := hrel
        cases gk with
        | zero => exact absurd HA.out (by simp [laws_toEntryS.l0])
        | succ k1 =>
          have H := HA.out
          clear HA
          simp only [laws_toEntryS.l0] at H
          by_cases c6 : x4_1 < (l0.length : Int)
          · rw [if_pos c6] at H
            have c6b0 : decide (x4_1 < (l0.length : Int)) = true := decide_eq_true c6
            clear c6
            by_cases c7 : 0 ≤ x4_1
            · rw [if_pos c7] at H
              have c7b0 : decide (0 ≤ x4_1) = true := decide_eq_true c7
              clear c7
              replace H := Option.bind_eq_some_iff.mp H
              obtain ⟨⟨t659, t660, t663, t664, t667, t668, t671, t672, t673, t674⟩, A80, H⟩ := H
              replace H : (if x4_1 < (x3_1.length : Int) then (laws_toEntryS.l0 k1 l0 (x3_1.set (x4_1 : Int).toNat (⟨t659, t660, (⟨t663, t664, t667⟩ : S51), t668, t671, t672, t673, t674⟩ : S66)) (wrap64 (x4_1 + 1))) else (none)) = some r := H
              have A8 := Aside0.mk A80
              clear A80
              by_cases c9 : x4_1 < (x3_1.length : Int)
              · rw [if_pos c9] at H
                have c9b0 : decide (x4_1 < (x3_1.length : Int)) = true := decide_eq_true c9
                clear c9
                obtain ⟨y675, hy675⟩ : ∃ y_ : List (S66), y_ = (x3_1.set (x4_1 : Int).toNat (⟨t659, t660, (⟨t663, t664, t667⟩ : S51), t668, t671, t672, t673, t674⟩ : S66)) := ⟨_, rfl⟩
                replace H : (laws_toEntryS.l0 k1 l0 y675 (wrap64 (x4_1 + 1))) = some r := by first | (rw [hy675]; with_reducible exact H) | (have H2_ := (Option.bind_some _ _).symm.trans H; rw [hy675]; with_reducible exact H2_) | (have H2_ := (Option.bind_some _ _).symm.trans H; with_reducible exact H2_) | with_reducible exact H | (rw [hy675]; exact H) | exact H
                have Ny675 := Aside0.mk hy675
                clear hy675
                have H' := Aside0.mk H
                clear H
                have p658 : 0 ≤ (x4_1 : Int) := of_decide_eq_true (by first | (with_reducible assumption) | assumption)
                have q658 : x4_1 < (l0.length : Int) := of_decide_eq_true (by first | (with_reducible assumption) | assumption)
                obtain ⟨ad658, A658_1, c658_1, A658_3, c658_3, A658_5, c658_5, e658, hx658_0, hx658_1, hx658_2, hx658_3, hx658_4, hx658_5, hx658_6, hx658_7, hx658_8, hx658_9, hl658_1, hi658_1, hl658_3, hi658_3, hl658_5, hi658_5⟩ := at_T61 HR0.out x4_1 p658 q658
                cases e658
                replace hx658_0 := (HB.out.cell (World.block_lt_of_cell? w _ hx658_0)).trans hx658_0
                replace hx658_1 := (HB.out.cell (World.block_lt_of_cell? w _ hx658_1)).trans hx658_1
                replace hx658_2 := (HB.out.cell (World.block_lt_of_cell? w _ hx658_2)).trans hx658_2
                replace hx658_3 := (HB.out.cell (World.block_lt_of_cell? w _ hx658_3)).trans hx658_3
                replace hx658_4 := (HB.out.cell (World.block_lt_of_cell? w _ hx658_4)).trans hx658_4
                replace hx658_5 := (HB.out.cell (World.block_lt_of_cell? w _ hx658_5)).trans hx658_5
                replace hx658_6 := (HB.out.cell (World.block_lt_of_cell? w _ hx658_6)).trans hx658_6
                replace hx658_7 := (HB.out.cell (World.block_lt_of_cell? w _ hx658_7)).trans hx658_7
                replace hx658_8 := (HB.out.cell (World.block_lt_of_cell? w _ hx658_8)).trans hx658_8
                replace hx658_9 := (HB.out.cell (World.block_lt_of_cell? w _ hx658_9)).trans hx658_9
                have HR658_1 := Aside0.mk hi658_1
                have HC658_1 := Aside0.mk hl658_1
                clear hi658_1 hl658_1
                have HR658_3 := Aside0.mk hi658_3
                have HC658_3 := Aside0.mk hl658_3
                clear hi658_3 hl658_3
                have HR658_5 := Aside0.mk hi658_5
                have HC658_5 := Aside0.mk hl658_5
                clear hi658_5 hl658_5
                replace p658 := eq_true p658
                replace q658 := eq_true q658
                go_wp2_with (first | ((with_reducible refine gate_callee (f := 42) rfl ?_); refine goesL_ (some 20) rfl rfl Try.func42 (by kernel_rfl) rfl #[.agg #[.string ((rd_T61 l0 x4_1).f0), .slice A658_1 ((rd_T61 l0 x4_1).f1).length c658_1, .int .i64 ((rd_T61 l0 x4_1).f2.f0), .slice A658_3 ((rd_T61 l0 x4_1).f2.f1).length c658_3, .string ((rd_T61 l0 x4_1).f2.f2), .slice A658_5 ((rd_T61 l0 x4_1).f3).length c658_5, .int .i64 ((rd_T61 l0 x4_1).f4), .int .i64 ((rd_T61 l0 x4_1).f5), .int .i64 ((rd_T61 l0 x4_1).f6), .int .i64 ((rd_T61 l0 x4_1).f7)]] rfl (by (try simp only [List.map_toArray, List.map_cons, List.map_nil]); first | done | rfl | (simp only [List.length_drop, List.length_take]; rfl)) ?_; (with_reducible refine (laws_toEntry.calls k1 ((rd_T61 l0 x4_1).f0) _ _ ((rd_T61 l0 x4_1).f1) ((rd_T61 l0 x4_1).f2.f0) _ _ ((rd_T61 l0 x4_1).f2.f1) ((rd_T61 l0 x4_1).f2.f2) _ _ ((rd_T61 l0 x4_1).f3) ((rd_T61 l0 x4_1).f4) ((rd_T61 l0 x4_1).f5) ((rd_T61 l0 x4_1).f6) ((rd_T61 l0 x4_1).f7) t659 t660 t663 t664 t667 t668 t671 t672 t673 t674 _ ?side1 ?side2 ?side3 ?side4 ?side5 ?side6 A8.out).mono ?_); (case side1 => repeat (first | exact (Kd.C_below HR658_1.out HB.out) | (with_reducible refine Kd.C_alloc ?_ _) | (with_reducible refine Kd.C_drewN ?_ _) | (with_reducible refine Kd.C_drew ?_))); (case side2 => exact HC658_1.out); (case side3 => repeat (first | exact (Kd.C_below HR658_3.out HB.out) | (with_reducible refine Kd.C_alloc ?_ _) | (with_reducible refine Kd.C_drewN ?_ _) | (with_reducible refine Kd.C_drew ?_))); (case side4 => exact HC658_3.out); (case side5 => repeat (first | exact (Kd.C_below HR658_5.out HB.out) | (with_reducible refine Kd.C_alloc ?_ _) | (with_reducible refine Kd.C_drewN ?_ _) | (with_reducible refine Kd.C_drew ?_))); (case side6 => exact HC658_5.out); rintro e w11 ⟨v661, v665, v669, rfl, ho0, ho1, ho2, hb⟩; refine ⟨_, rfl, ?_⟩; have n0_ := Aside0.mk (Kd.S_mono (Kd.S_told (Kd.S_told (Kd.S_told (Kd.S_old (by (with_reducible repeat (first | apply Kd.S_alloc | apply Kd.S_drewN | apply Kd.S_drew)); exact HO_3.out) hb) (Kd.R_base ho0)) (Kd.R_base ho1)) (Kd.R_base ho2)) (fun _ h_ => h_.1)); have n1_ := Aside0.mk (Kd.R_lower ho0 (below_size (by repeat (first | (with_reducible first | exact HB.out | apply below_alloc | apply pw_below_drewN | apply below_drew1) | exact HB.out)))); have n2_ := Aside0.mk (Kd.R_lower ho1 (below_size (by repeat (first | (with_reducible first | exact HB.out | apply below_alloc | apply pw_below_drewN | apply below_drew1) | exact HB.out)))); have n3_ := Aside0.mk (Kd.R_lower ho2 (below_size (by repeat (first | (with_reducible first | exact HB.out | apply below_alloc | apply pw_below_drewN | apply below_drew1) | exact HB.out)))); have n4_ := Aside0.mk (below_step (by repeat (first | (with_reducible first | exact HB.out | apply below_alloc | apply pw_below_drewN | apply below_drew1) | exact HB.out)) hb); clear HO_3; clear HB; have HO_3 := n0_; have HO662 := n1_; have HO666 := n2_; have HO670 := n3_; have HB := n4_; clear n0_ n1_ n2_ n3_ n4_; (try clear hb); (try clear hb2); (try clear hk); (try clear hi); (try clear ho0); (try clear ho1); (try clear ho2); have p10 : 0 ≤ (x4_1 : Int) := of_decide_eq_true (by first | (with_reducible assumption) | assumption); have q10 : (x4_1 : Int) < ((x3_1.length : Int) : Int) := of_decide_eq_true (by first | (with_reducible assumption) | assumption); obtain ⟨go10, co10, eo10, gb10, gl10, cl10, HG10⟩ := Kd.S_form HO_3.out (by omega); (first | cases eo10 | (injection eo10 with ea_ en_ ec_; (first | subst ea_ | (injection ea_ with ea_; subst ea_)); subst ec_; clear en_)); have GB10 := Aside0.mk gb10; have GG10 := Aside0.mk HG10; clear gb10 gl10 HG10; obtain ⟨_, ce10, hcl10, hM10, hcc10, hfr10, _, _⟩ := Kd.S_elem HO_3.out z66 (x4_1 : Int) p10 q10; obtain ⟨ve10_1, ve10_3, ve10_5, rfl, ge10_1, ge10_3, ge10_5⟩ := k66_openM hM10; have hx10_0 : w11.cell? ⟨go10, (x4_1 : Int).toNat * 10, none⟩ = some (.string ((rd_T66 x3_1 x4_1).f0)) := hcc10 0 _ rfl; have hx10_1 : w11.cell? ⟨go10, (x4_1 : Int).toNat * 10 + 1, none⟩ = some (ve10_1) := hcc10 1 _ rfl; have hx10_2 : w11.cell? ⟨go10, (x4_1 : Int).toNat * 10 + 2, none⟩ = some (.int .i64 ((rd_T66 x3_1 x4_1).f2.f0)) := hcc10 2 _ rfl; have hx10_3 : w11.cell? ⟨go10, (x4_1 : Int).toNat * 10 + 3, none⟩ = some (ve10_3) := hcc10 3 _ rfl; have hx10_4 : w11.cell? ⟨go10, (x4_1 : Int).toNat * 10 + 4, none⟩ = some (.string ((rd_T66 x3_1 x4_1).f2.f2)) := hcc10 4 _ rfl; have hx10_5 : w11.cell? ⟨go10, (x4_1 : Int).toNat * 10 + 5, none⟩ = some (ve10_5) := hcc10 5 _ rfl; have hx10_6 : w11.cell? ⟨go10, (x4_1 : Int).toNat * 10 + 6, none⟩ = some (.int .i64 ((rd_T66 x3_1 x4_1).f4)) := hcc10 6 _ rfl; have hx10_7 : w11.cell? ⟨go10, (x4_1 : Int).toNat * 10 + 7, none⟩ = some (.int .i64 ((rd_T66 x3_1 x4_1).f5)) := hcc10 7 _ rfl; have hx10_8 : w11.cell? ⟨go10, (x4_1 : Int).toNat * 10 + 8, none⟩ = some (.int .i64 ((rd_T66 x3_1 x4_1).f6)) := hcc10 8 _ rfl; have hx10_9 : w11.cell? ⟨go10, (x4_1 : Int).toNat * 10 + 9, none⟩ = some (.int .i64 ((rd_T66 x3_1 x4_1).f7)) := hcc10 9 _ rfl; have hf10_0 : w11.frozen? ⟨go10, (x4_1 : Int).toNat * 10, none⟩ = false := hfr10 0; have hf10_1 : w11.frozen? ⟨go10, (x4_1 : Int).toNat * 10 + 1, none⟩ = false := hfr10 1; have hf10_2 : w11.frozen? ⟨go10, (x4_1 : Int).toNat * 10 + 2, none⟩ = false := hfr10 2; have hf10_3 : w11.frozen? ⟨go10, (x4_1 : Int).toNat * 10 + 3, none⟩ = false := hfr10 3; have hf10_4 : w11.frozen? ⟨go10, (x4_1 : Int).toNat * 10 + 4, none⟩ = false := hfr10 4; have hf10_5 : w11.frozen? ⟨go10, (x4_1 : Int).toNat * 10 + 5, none⟩ = false := hfr10 5; have hf10_6 : w11.frozen? ⟨go10, (x4_1 : Int).toNat * 10 + 6, none⟩ = false := hfr10 6; have hf10_7 : w11.frozen? ⟨go10, (x4_1 : Int).toNat * 10 + 7, none⟩ = false := hfr10 7; have hf10_8 : w11.frozen? ⟨go10, (x4_1 : Int).toNat * 10 + 8, none⟩ = false := hfr10 8; have hf10_9 : w11.frozen? ⟨go10, (x4_1 : Int).toNat * 10 + 9, none⟩ = false := hfr10 9; clear hcl10 hcc10 hfr10 hM10; replace p10 := eq_true p10; replace q10 := eq_true q10; have n_ := Aside0.mk (Kd.S_mono (ok' := (fun k_ => some k_ ≠ (v661 : Value).ownBlock ∧ some k_ ≠ (v665 : Value).ownBlock ∧ some k_ ≠ (v669 : Value).ownBlock)) HO_3.out (fun k_ hk => ⟨hk.1.1.2, ⟨hk.1.2, hk.2⟩⟩)); clear HO_3; have HO_3 := n_; clear n_; have HX12 := Aside0.mk (show Kd.S k66 66 w11 w.heap.size (fun k_ => ((fun _ => True)) k_ ∧ ¬ ((fun k_ => some k_ = (v661 : Value).ownBlock ∨ some k_ = (v665 : Value).ownBlock ∨ some k_ = (v669 : Value).ownBlock)) k_) (.slice (some ⟨go10, 0, none⟩) x3_1.length co10) x3_1 from (by (with_reducible repeat (first | apply Kd.S_alloc | apply Kd.S_drewN | apply Kd.S_drew)); exact Kd.S_mono HO_3.out (fun k_ hk => ⟨trivial, fun e_ => e_.elim (fun h_ => hk.1 h_) (fun h_ => h_.elim (fun h_ => hk.2.1 h_) (fun h_ => hk.2.2 h_))⟩))); obtain ⟨oki12, ce12, hcl12, hM12, hcc12, hfr12, hoki12, hH12⟩ := Kd.S_elem HX12.out z66 (x4_1 : Int) (of_decide_eq_true (by first | (with_reducible assumption) | assumption)) (by have h_ : (x4_1 : Int) < ((x3_1.length : Int) : Int) := of_decide_eq_true (by first | (with_reducible assumption) | assumption); first | exact h_ | (have e_ := (Kd.S_reads' HO_3.out).1; omega) | simpa using h_); obtain ⟨ve12_1, ve12_3, ve12_5, rfl, ge12_1, ge12_3, ge12_5⟩ := k66_openM hM12; have HP12 := Kd.S_seg hH12 (of_decide_eq_true (by first | (with_reducible assumption) | assumption)) (by have h_ : (x4_1 : Int) < ((x3_1.length : Int) : Int) := of_decide_eq_true (by first | (with_reducible assumption) | assumption); first | exact h_ | (have e_ := (Kd.S_reads' HO_3.out).1; omega) | simpa using h_) (seg := [.string t659, v661, .int .i64 t663, v665, .string t667, v669, .int .i64 t671, .int .i64 t672, .int .i64 t673, .int .i64 t674]) (j := 0) (show 10 ≤ 10 from by decide) (x' := (⟨t659, t660, (⟨t663, t664, t667⟩ : S51), t668, t671, t672, t673, t674⟩ : S66)) (k66_mkM _ _ _ (⟨t659, t660, (⟨t663, t664, t667⟩ : S51), t668, t671, t672, t673, t674⟩ : S66) (Kd.R_mono (Kd.R_tight rfl (Kd.R_mono (ok' := fun k_ => ((fun _ => True)) k_ ∧ k_ ≠ go10) (Kd.R_apart' (HO662.out) (Kd.S_typed HO_3.out) (by decide)) (fun k_ hk => ⟨trivial, fun e_ => (hk.2) (by rw [e_]; rfl)⟩))) (fun _ h_ => Or.inr (Or.inl h_))) (Kd.R_mono (Kd.R_tight rfl (Kd.R_mono (ok' := fun k_ => ((fun _ => True)) k_ ∧ k_ ≠ go10) (Kd.R_apart' (HO666.out) (Kd.S_typed HO_3.out) (by decide)) (fun k_ hk => ⟨trivial, fun e_ => (hk.2) (by rw [e_]; rfl)⟩))) (fun _ h_ => Or.inr (Or.inr (Or.inl h_)))) (Kd.R_mono (Kd.R_tight rfl (Kd.R_mono (ok' := fun k_ => ((fun _ => True)) k_ ∧ k_ ≠ go10) (Kd.R_apart' (HO670.out) (Kd.S_typed HO_3.out) (by decide)) (fun k_ hk => ⟨trivial, fun e_ => (hk.2) (by rw [e_]; rfl)⟩))) (fun _ h_ => Or.inr (Or.inr (Or.inr (h_)))))) (fun _ hk => hk) (fun k_ hk_ => hk_.elim (fun h_ => ((Kd.R_mono (ok' := fun k_ => ((fun _ => True)) k_ ∧ k_ ≠ go10) (Kd.R_apart' (HO662.out) (Kd.S_typed HO_3.out) (by decide)) (fun k_ hk => ⟨trivial, fun e_ => (hk.2) (by rw [e_]; rfl)⟩))).1 k_ h_.symm) (fun h_ => h_.elim (fun h_ => ((Kd.R_mono (ok' := fun k_ => ((fun _ => True)) k_ ∧ k_ ≠ go10) (Kd.R_apart' (HO666.out) (Kd.S_typed HO_3.out) (by decide)) (fun k_ hk => ⟨trivial, fun e_ => (hk.2) (by rw [e_]; rfl)⟩))).1 k_ h_.symm) (fun h_ => ((Kd.R_mono (ok' := fun k_ => ((fun _ => True)) k_ ∧ k_ ≠ go10) (Kd.R_apart' (HO670.out) (Kd.S_typed HO_3.out) (by decide)) (fun k_ hk => ⟨trivial, fun e_ => (hk.2) (by rw [e_]; rfl)⟩))).1 k_ h_.symm))); have hx12_0 := hcc12 0 _ rfl; (try simp only [show (k66).sz = 10 from rfl, Nat.mul_one, Nat.add_zero] at hx12_0); have hf12_0 := hfr12 0; (try simp only [show (k66).sz = 10 from rfl, Nat.mul_one, Nat.add_zero] at hf12_0); have hx12_1 := hcc12 1 _ rfl; (try simp only [show (k66).sz = 10 from rfl, Nat.mul_one, Nat.add_zero] at hx12_1); have hf12_1 := hfr12 1; (try simp only [show (k66).sz = 10 from rfl, Nat.mul_one, Nat.add_zero] at hf12_1); have hx12_2 := hcc12 2 _ rfl; (try simp only [show (k66).sz = 10 from rfl, Nat.mul_one, Nat.add_zero] at hx12_2); have hf12_2 := hfr12 2; (try simp only [show (k66).sz = 10 from rfl, Nat.mul_one, Nat.add_zero] at hf12_2); have hx12_3 := hcc12 3 _ rfl; (try simp only [show (k66).sz = 10 from rfl, Nat.mul_one, Nat.add_zero] at hx12_3); have hf12_3 := hfr12 3; (try simp only [show (k66).sz = 10 from rfl, Nat.mul_one, Nat.add_zero] at hf12_3); have hx12_4 := hcc12 4 _ rfl; (try simp only [show (k66).sz = 10 from rfl, Nat.mul_one, Nat.add_zero] at hx12_4); have hf12_4 := hfr12 4; (try simp only [show (k66).sz = 10 from rfl, Nat.mul_one, Nat.add_zero] at hf12_4); have hx12_5 := hcc12 5 _ rfl; (try simp only [show (k66).sz = 10 from rfl, Nat.mul_one, Nat.add_zero] at hx12_5); have hf12_5 := hfr12 5; (try simp only [show (k66).sz = 10 from rfl, Nat.mul_one, Nat.add_zero] at hf12_5); have hx12_6 := hcc12 6 _ rfl; (try simp only [show (k66).sz = 10 from rfl, Nat.mul_one, Nat.add_zero] at hx12_6); have hf12_6 := hfr12 6; (try simp only [show (k66).sz = 10 from rfl, Nat.mul_one, Nat.add_zero] at hf12_6); have hx12_7 := hcc12 7 _ rfl; (try simp only [show (k66).sz = 10 from rfl, Nat.mul_one, Nat.add_zero] at hx12_7); have hf12_7 := hfr12 7; (try simp only [show (k66).sz = 10 from rfl, Nat.mul_one, Nat.add_zero] at hf12_7); have hx12_8 := hcc12 8 _ rfl; (try simp only [show (k66).sz = 10 from rfl, Nat.mul_one, Nat.add_zero] at hx12_8); have hf12_8 := hfr12 8; (try simp only [show (k66).sz = 10 from rfl, Nat.mul_one, Nat.add_zero] at hf12_8); have hx12_9 := hcc12 9 _ rfl; (try simp only [show (k66).sz = 10 from rfl, Nat.mul_one, Nat.add_zero] at hx12_9); have hf12_9 := hfr12 9; (try simp only [show (k66).sz = 10 from rfl, Nat.mul_one, Nat.add_zero] at hf12_9); clear hcl12 hcc12 hfr12 hM12 hoki12 hH12) | ((with_reducible refine gate_store (t := 66) (p := 21) rfl ?_); refine store_event (t := 66) (p := 21) (v := ?vo_w13) (w1 := ((((((((((w11.setCell ⟨go10, (x4_1 : Int).toNat * 10, none⟩ (.string t659)).setCell ⟨go10, (x4_1 : Int).toNat * 10 + 1, none⟩ (v661)).setCell ⟨go10, (x4_1 : Int).toNat * 10 + 2, none⟩ (.int .i64 t663)).setCell ⟨go10, (x4_1 : Int).toNat * 10 + 3, none⟩ (v665)).setCell ⟨go10, (x4_1 : Int).toNat * 10 + 4, none⟩ (.string t667)).setCell ⟨go10, (x4_1 : Int).toNat * 10 + 5, none⟩ (v669)).setCell ⟨go10, (x4_1 : Int).toNat * 10 + 6, none⟩ (.int .i64 t671)).setCell ⟨go10, (x4_1 : Int).toNat * 10 + 7, none⟩ (.int .i64 t672)).setCell ⟨go10, (x4_1 : Int).toNat * 10 + 8, none⟩ (.int .i64 t673)).setCell ⟨go10, (x4_1 : Int).toNat * 10 + 9, none⟩ (.int .i64 t674))) ?hg ?ho ?hn ?hr ?_; (case ho => rfl); (case hg => rfl); (case hn => rfl); (case hr => first | (go_simp; done) | (go_simp; rfl) | ((try (obtain ⟨_, _, e_⟩ := Kd.R_slice HO662.out; first | subst e_ | (obtain rfl := e_))); (try (obtain ⟨_, _, e_⟩ := Kd.R_slice HO666.out; first | subst e_ | (obtain rfl := e_))); (try (obtain ⟨_, _, e_⟩ := Kd.R_slice HO670.out; first | subst e_ | (obtain rfl := e_))); first | (go_simp; done) | (go_simp; rfl))); intro w13 hw; have hg : w11.grownBy w13 (some go10) := (by rw [hw]; exact HP12.2); have hp_ : Kd.S k66 66 w13 w.heap.size (fun _ => True) (.slice (some ⟨go10, 0, none⟩) x3_1.length co10) y675 := (by rw [hw, Ny675.out]; exact HP12.1); clear HP12; have n0_ := Aside0.mk (hp_); have n1_ := Aside0.mk ((by rw [hw]; exact below_set (below_set (below_set (below_set (below_set (below_set (below_set (below_set (below_set (below_set (HB.out) GB10.out) GB10.out) GB10.out) GB10.out) GB10.out) GB10.out) GB10.out) GB10.out) GB10.out) GB10.out : Below w.heap.size w w13)); clear HO_3; clear HB; clear HO662; clear HO666; clear HO670; have HO_3 := n0_; have HB := n1_; clear n0_ n1_; clear hg hw hp_))
                go_roundg k1
                case measure => have := HK1.out; omega
                case rel => exact ⟨(y675), (wrap64 (x4_1 + 1)), (by first | rfl | (simp; done) | (simp [*]; done)), H', ⟨by have := HK1.out; omega⟩, ⟨by (with_reducible repeat (first | apply Kd.S_alloc | apply Kd.S_drewN | apply Kd.S_drew)); exact HO_3.out⟩, ⟨by repeat (first | (with_reducible first | exact HB.out | apply below_alloc | apply pw_below_drewN | apply below_drew1) | exact HB.out)⟩⟩
              · rw [if_neg c9] at H
                exact absurd H (by simp)
            · rw [if_neg c7] at H
              exact absurd H (by simp)
          · rw [if_neg c6] at H
            have c6b0 : decide (x4_1 < (l0.length : Int)) = false := decide_eq_false c6
            clear c6
            obtain rfl := Option.some.inj H
            go_wp2
            go_ret
            exact ⟨_, by first | rfl | (simp [errW_none, errW_some] <;> rfl) | (simp [*, errW_none, errW_some] <;> rfl), by (with_reducible repeat (first | apply Kd.S_alloc | apply Kd.S_drewN | apply Kd.S_drew)); exact HO_3.out, by repeat (first | (with_reducible first | exact HB.out | apply below_alloc | apply pw_below_drewN | apply below_drew1) | exact HB.out)⟩
    · rw [if_neg c3] at H
      exact absurd H (by simp)
  · rw [if_neg c2] at H
    exact absurd H (by simp)


end Go.Proofs.Ytelmcjohkifeeaa.PA

namespace Go.Proofs.Ytelmcjohkifeeaa.PA
open Go.RowKit Go.Proofs.YtelmcjohkifeeaaW.PrintWords Go.Proofs.YtelmcjohkifeeaaW.PrintLast Go.Proofs.YtelmcjohkifeeaaW.PrintMore
attribute [local go_sem] max2_int min2_int max_two min_two max_three min_three max_four min_four   -- for this text's walks alone
set_option linter.unusedVariables false
set_option linter.unusedSimpArgs false
/-! ### laws_toStore: function 53 -/
def laws_toStore.f (k : Nat) (l0_0 : List (S61)) : Option ((List (S66))) := (laws_toEntryS.f k l0_0).bind fun t679 => (some t679)
theorem laws_toStore.mono : ∀ a0 k, LeO (laws_toStore.f k a0) (laws_toStore.f (k + 1) a0) := by
  intro a0 k
  unfold laws_toStore.f
  repeat' first
      | (with_reducible exact laws_toEntryS.mono _ _)
      | (with_reducible exact LeO.refl _)
      | (with_reducible exact LeO.none _)
      | (with_reducible refine LeO.ite ?_ ?_)
      | (with_reducible refine LeO.bind ?_ (fun _ => ?_))
      | exact laws_toEntryS.mono _ _
      | exact LeO.none _
      | refine LeO.ite ?_ ?_
      | refine LeO.bind ?_ (fun _ => ?_)
set_option maxHeartbeats 8000000 in
set_option maxRecDepth 100000 in
theorem laws_toStore.calls (k : Nat) (A0_0 : Option Addr) (c0_0 : Nat) (l0_0 : List (S61)) (r : List (S66)) (w : World) (hr0_0 : Kd.C k61 w A0_0 l0_0.length l0_0) (hc0_0 : l0_0.length ≤ c0_0) (h : laws_toStore.f k l0_0 = some r) :
    Calls Try.prog 53 #[.agg #[.slice A0_0 l0_0.length c0_0]] w fun e w' => ∃ v0_ : Value, e = .returned (.agg #[v0_]) ∧ Kd.S k66 66 w' w.heap.size (fun _ => True) v0_ r ∧ Below w.heap.size w w' := by
  have hu81 := Try.underlying81
  have hu86 := Try.underlying86
  have HR0_0 := Aside0.mk hr0_0
  have HC0_0 := Aside0.mk hc0_0
  clear hr0_0 hc0_0
  have HB := Aside0.mk (Below.refl w.heap.size w)
  have H : ((laws_toEntryS.f k l0_0).bind fun t679 => (some t679)) = some r := h
  clear h
  replace H := Option.bind_eq_some_iff.mp H
  obtain ⟨t679, A20, H⟩ := H
  replace H : (some t679) = some r := H
  have A2 := Aside0.mk A20
  clear A20
  obtain rfl := Option.some.inj H
  go_enter Try.func53, Try.ntmps53
  go_wp2_with (first | ((with_reducible refine gate_dst (N := 1) rfl ?_); refine box_event ?hg (N := 1) ?hd (cs := #[.slice A0_0 l0_0.length c0_0]) (t := 81) ?hr ?_; (case hd => rfl); (case hg => rfl); (case hr => first | (go_simp; done) | (go_simp; rfl)); intro gb676 hg w3 hbox hb; have n0_ := Aside0.mk (below_step (by repeat (first | (with_reducible first | exact HB.out | apply below_alloc | apply pw_below_drewN | apply below_drew1) | exact HB.out)) hb); have n1_ := Aside0.mk (hbox); have n2_ := Aside0.mk ((by rw [hg]; exact (below_size (by repeat (first | (with_reducible first | exact HB.out | apply below_alloc | apply pw_below_drewN | apply below_drew1) | exact HB.out))) : w.heap.size ≤ gb676)); have n3_ := Aside0.mk ((by rw [hg]; exact (below_size (by repeat (first | (with_reducible first | exact HB.out | apply below_alloc | apply pw_below_drewN | apply below_drew1) | exact HB.out))) : w.heap.size ≤ gb676)); clear HB; have HB := n0_; have BK676 := n1_; have GW676 := n2_; have GE676 := n3_; clear n0_ n1_ n2_ n3_; clear hb hbox hg) | ((with_reducible refine gate_dst (N := 2) rfl ?_); refine box_event ?hg (N := 2) ?hd (cs := #[.slice none 0 0]) (t := 86) ?hr ?_; (case hd => rfl); (case hg => rfl); (case hr => first | (go_simp; done) | (go_simp; rfl)); intro gb677 hg w4 hbox hb; have n0_ := Aside0.mk (blk_below (g := gb676) (o := .cells #[.slice A0_0 l0_0.length c0_0] 81 (0, 0)) (by (with_reducible repeat (first | refine blk_drewN ?_ _ | refine blk_drew ?_ | refine blk_alloc ?_ _)); exact BK676.out) hb); have n1_ := Aside0.mk (below_step (by repeat (first | (with_reducible first | exact HB.out | apply below_alloc | apply pw_below_drewN | apply below_drew1 | refine below_set ?_ GE676.out) | exact HB.out)) hb); have n2_ := Aside0.mk (hbox); have n3_ := Aside0.mk ((by rw [hg]; exact (below_size (by repeat (first | (with_reducible first | exact HB.out | apply below_alloc | apply pw_below_drewN | apply below_drew1 | refine below_set ?_ GE676.out) | exact HB.out))) : w.heap.size ≤ gb677)); have n4_ := Aside0.mk ((by rw [hg]; exact (below_size (by repeat (first | (with_reducible first | exact HB.out | apply below_alloc | apply pw_below_drewN | apply below_drew1 | refine below_set ?_ GE676.out) | exact HB.out))) : w.heap.size ≤ gb677)); have n5_ := Aside0.mk ((by rw [hg]; exact Nat.ne_of_lt (blk_lt (g := gb676) (o := .cells #[.slice A0_0 l0_0.length c0_0] 81 (0, 0)) (by (with_reducible repeat (first | refine blk_drewN ?_ _ | refine blk_drew ?_ | refine blk_alloc ?_ _)); exact BK676.out)) : gb676 ≠ gb677)); have n6_ := Aside0.mk ((by rw [hg]; exact Nat.ne_of_gt (blk_lt (g := gb676) (o := .cells #[.slice A0_0 l0_0.length c0_0] 81 (0, 0)) (by (with_reducible repeat (first | refine blk_drewN ?_ _ | refine blk_drew ?_ | refine blk_alloc ?_ _)); exact BK676.out)) : gb677 ≠ gb676)); clear BK676; clear HB; have BK676 := n0_; have HB := n1_; have BK677 := n2_; have GW677 := n3_; have GE677 := n4_; have NB676_677 := n5_; have NB677_676 := n6_; clear n0_ n1_ n2_ n3_ n4_ n5_ n6_; clear hb hbox hg) | ((with_reducible refine gate_dst (N := 3) rfl ?_); refine box_event ?hg (N := 3) ?hd (cs := #[.slice none 0 0]) (t := 86) ?hr ?_; (case hd => rfl); (case hg => rfl); (case hr => first | (go_simp; done) | (go_simp; rfl)); intro gb678 hg w5 hbox hb; have n0_ := Aside0.mk (blk_below (g := gb676) (o := .cells #[.slice A0_0 l0_0.length c0_0] 81 (0, 0)) (by (with_reducible repeat (first | refine blk_drewN ?_ _ | refine blk_drew ?_ | refine blk_alloc ?_ _)); exact BK676.out) hb); have n1_ := Aside0.mk (blk_below (g := gb677) (o := .cells #[.slice none 0 0] 86 (0, 0)) (by (with_reducible repeat (first | refine blk_drewN ?_ _ | refine blk_drew ?_ | refine blk_alloc ?_ _)); exact BK677.out) hb); have n2_ := Aside0.mk (below_step (by repeat (first | (with_reducible first | exact HB.out | apply below_alloc | apply pw_below_drewN | apply below_drew1 | refine below_set ?_ GE676.out | refine below_set ?_ GE677.out) | exact HB.out)) hb); have n3_ := Aside0.mk (hbox); have n4_ := Aside0.mk ((by rw [hg]; exact (below_size (by repeat (first | (with_reducible first | exact HB.out | apply below_alloc | apply pw_below_drewN | apply below_drew1 | refine below_set ?_ GE676.out | refine below_set ?_ GE677.out) | exact HB.out))) : w.heap.size ≤ gb678)); have n5_ := Aside0.mk ((by rw [hg]; exact (below_size (by repeat (first | (with_reducible first | exact HB.out | apply below_alloc | apply pw_below_drewN | apply below_drew1 | refine below_set ?_ GE676.out | refine below_set ?_ GE677.out) | exact HB.out))) : w.heap.size ≤ gb678)); have n6_ := Aside0.mk ((by rw [hg]; exact Nat.ne_of_lt (blk_lt (g := gb676) (o := .cells #[.slice A0_0 l0_0.length c0_0] 81 (0, 0)) (by (with_reducible repeat (first | refine blk_drewN ?_ _ | refine blk_drew ?_ | refine blk_alloc ?_ _)); exact BK676.out)) : gb676 ≠ gb678)); have n7_ := Aside0.mk ((by rw [hg]; exact Nat.ne_of_gt (blk_lt (g := gb676) (o := .cells #[.slice A0_0 l0_0.length c0_0] 81 (0, 0)) (by (with_reducible repeat (first | refine blk_drewN ?_ _ | refine blk_drew ?_ | refine blk_alloc ?_ _)); exact BK676.out)) : gb678 ≠ gb676)); have n8_ := Aside0.mk ((by rw [hg]; exact Nat.ne_of_lt (blk_lt (g := gb677) (o := .cells #[.slice none 0 0] 86 (0, 0)) (by (with_reducible repeat (first | refine blk_drewN ?_ _ | refine blk_drew ?_ | refine blk_alloc ?_ _)); exact BK677.out)) : gb677 ≠ gb678)); have n9_ := Aside0.mk ((by rw [hg]; exact Nat.ne_of_gt (blk_lt (g := gb677) (o := .cells #[.slice none 0 0] 86 (0, 0)) (by (with_reducible repeat (first | refine blk_drewN ?_ _ | refine blk_drew ?_ | refine blk_alloc ?_ _)); exact BK677.out)) : gb678 ≠ gb677)); clear BK676; clear BK677; clear HB; have BK676 := n0_; have BK677 := n1_; have HB := n2_; have BK678 := n3_; have GW678 := n4_; have GE678 := n5_; have NB676_678 := n6_; have NB678_676 := n7_; have NB677_678 := n8_; have NB678_677 := n9_; clear n0_ n1_ n2_ n3_ n4_ n5_ n6_ n7_ n8_ n9_; clear hb hbox hg; have hnb6 := NB676_677.out; have hnc6 := NB677_676.out; have hnb7 := NB676_678.out; have hnc7 := NB678_676.out; have hcz8_0 : w5.cell? ⟨gb676, 0, none⟩ = some (.slice A0_0 l0_0.length c0_0) := (blk_cell BK676.out 0).trans rfl; have hfz8_0 := blk_frozen BK676.out 0) | ((with_reducible refine gate_callee (f := 104) rfl ?_); refine goesL_ (some 6) rfl rfl Try.func104 (by kernel_rfl) rfl #[.slice A0_0 l0_0.length c0_0] rfl (by (try simp only [List.map_toArray, List.map_cons, List.map_nil]); first | done | rfl | (simp only [List.length_drop, List.length_take]; rfl)) ?_; (with_reducible refine (laws_toEntryS.calls k _ _ l0_0 t679 _ ?side1 ?side2 A2.out).mono ?_); (case side1 => repeat (first | exact (Kd.C_below HR0_0.out HB.out) | (with_reducible refine Kd.C_alloc ?_ _) | (with_reducible refine Kd.C_drewN ?_ _) | (with_reducible refine Kd.C_drew ?_))); (case side2 => exact HC0_0.out); rintro e w9 ⟨v680, rfl, ho0, hb⟩; refine ⟨_, rfl, ?_⟩; have n0_ := Aside0.mk (Kd.S_lower ho0 (below_size (by repeat (first | (with_reducible first | exact HB.out | apply below_alloc | apply pw_below_drewN | apply below_drew1 | refine below_set ?_ GE676.out | refine below_set ?_ GE677.out | refine below_set ?_ GE678.out) | exact HB.out)))); have n1_ := Aside0.mk (blk_below (g := gb676) (o := .cells #[.slice A0_0 l0_0.length c0_0] 81 (0, 0)) (by (with_reducible repeat (first | refine blk_drewN ?_ _ | refine blk_drew ?_ | refine blk_alloc ?_ _)); exact BK676.out) hb); have n2_ := Aside0.mk (blk_below (g := gb677) (o := .cells #[.slice none 0 0] 86 (0, 0)) (by (with_reducible repeat (first | refine blk_drewN ?_ _ | refine blk_drew ?_ | refine blk_alloc ?_ _)); exact BK677.out) hb); have n3_ := Aside0.mk (blk_below (g := gb678) (o := .cells #[.slice none 0 0] 86 (0, 0)) (by (with_reducible repeat (first | refine blk_drewN ?_ _ | refine blk_drew ?_ | refine blk_alloc ?_ _)); exact BK678.out) hb); have n4_ := Aside0.mk (below_step (by repeat (first | (with_reducible first | exact HB.out | apply below_alloc | apply pw_below_drewN | apply below_drew1 | refine below_set ?_ GE676.out | refine below_set ?_ GE677.out | refine below_set ?_ GE678.out) | exact HB.out)) hb); clear BK676; clear BK677; clear BK678; clear HB; have HO681 := n0_; have BK676 := n1_; have BK677 := n2_; have BK678 := n3_; have HB := n4_; clear n0_ n1_ n2_ n3_ n4_; (try clear hb); (try clear hb2); (try clear hk); (try clear hi); (try clear ho0); obtain ⟨Ao10, co10, eo10⟩ := Kd.S_slice HO681.out; subst eo10; have hnb11 := NB678_677.out; have hnc11 := NB677_678.out; have hcz12_0 : w9.cell? ⟨gb678, 0, none⟩ = some (.slice none 0 0) := (blk_cell BK678.out 0).trans rfl; have hfz12_0 := blk_frozen BK678.out 0; have hcz13_0 : w9.cell? ⟨gb677, 0, none⟩ = some (.slice none 0 0) := (blk_cell BK677.out 0).trans rfl; have hfz13_0 := blk_frozen BK677.out 0))
  refine bodyPost_ret (results_cell_row rfl _ _ gb677 86 #[.slice Ao10 t679.length co10] (0, 0) _ rfl (by (with_reducible repeat (first | refine blk_drewN ?_ _ | refine blk_drew ?_ | refine blk_alloc ?_ _)); refine blk_put (cs := #[.slice none 0 0]) ?_ 0 _ rfl; (with_reducible repeat (first | refine blk_drewN ?_ _ | refine blk_drew ?_ | refine blk_alloc ?_ _)); refine blk_far ?_ NB677_678.out _; (with_reducible repeat (first | refine blk_drewN ?_ _ | refine blk_drew ?_ | refine blk_alloc ?_ _)); exact BK677.out) Try.underlying86 rfl (by kernel_rfl)) rfl ?_
  exact ⟨_, by first | rfl | (simp [errW_none, errW_some] <;> rfl) | (simp [*, errW_none, errW_some] <;> rfl), by (with_reducible repeat (first | apply Kd.S_alloc | apply Kd.S_drewN | apply Kd.S_drew)); exact Kd.S_mono (Kd.S_far (p := ⟨gb677, 0, none⟩) (Kd.S_far (p := ⟨gb678, 0, none⟩) (Kd.S_types (Kd.S_types HO681.out BK678.out (by decide)) BK677.out (by decide)) (fun _ hk => hk.1.2) (.slice Ao10 t679.length co10)) (fun _ hk => hk.2) (.slice Ao10 t679.length co10)) (fun _ hk => trivial), by repeat (first | (with_reducible first | exact HB.out | apply below_alloc | apply pw_below_drewN | apply below_drew1 | refine below_set ?_ GE676.out | refine below_set ?_ GE677.out | refine below_set ?_ GE678.out) | exact HB.out)⟩


end Go.Proofs.Ytelmcjohkifeeaa.PA

namespace Go.Proofs.Ytelmcjohkifeeaa.PA
open Go.RowKit Go.Proofs.YtelmcjohkifeeaaW.PrintWords Go.Proofs.YtelmcjohkifeeaaW.PrintLast Go.Proofs.YtelmcjohkifeeaaW.PrintMore
attribute [local go_sem] max2_int min2_int max_two min_two max_three min_three max_four min_four   -- for this text's walks alone
set_option linter.unusedVariables false
set_option linter.unusedSimpArgs false
/-! ### impl_StoreSize: function 54 -/
mutual
def impl_StoreSize.l0 : Nat → Int → List (S66) → Int → Int → Option (Int)
  | 0, _, _, _, _ => none
  | k + 1, x3, x9, x10, x11 => if x11 < x10 then (if 0 ≤ x11 then (if x11 < (x9.length : Int) then (impl_StoreSize.l1 k x3 x9 x10 x11 ((rd_T66 x9 x11).f3) (((rd_T66 x9 x11).f3).length : Int) 0) else (none)) else (none)) else (some x3)
def impl_StoreSize.l1 : Nat → Int → List (S66) → Int → Int → List (S133) → Int → Int → Option (Int)
  | 0, _, _, _, _, _, _, _ => none
  | k + 1, x3, x9, x10, x11, x16, x17, x18 => if x18 < x17 then (if 0 ≤ x18 then (if x18 < (x16.length : Int) then (impl_StoreSize.l1 k (wrap64 (x3 + (((rd_T133 x16 x18).f1).size : Int))) x9 x10 x11 x16 x17 (wrap64 (x18 + 1))) else (none)) else (none)) else (impl_StoreSize.l0 k x3 x9 x10 (wrap64 (x11 + 1)))
end
def impl_StoreSize.f (k : Nat) (l0_0 : List (S66)) : Option (Int) := impl_StoreSize.l0 k 0 l0_0 (l0_0.length : Int) 0
theorem impl_StoreSize.mono_l : ∀ k, (∀ y0 y1 y2 y3, LeO (impl_StoreSize.l0 k y0 y1 y2 y3) (impl_StoreSize.l0 (k + 1) y0 y1 y2 y3)) ∧ (∀ y0 y1 y2 y3 y4 y5 y6, LeO (impl_StoreSize.l1 k y0 y1 y2 y3 y4 y5 y6) (impl_StoreSize.l1 (k + 1) y0 y1 y2 y3 y4 y5 y6))
  | 0 => ⟨fun _ _ _ _ r h => by simp [impl_StoreSize.l0] at h, fun _ _ _ _ _ _ _ r h => by simp [impl_StoreSize.l1] at h⟩
  | k + 1 => by
    obtain ⟨ih0, ih1⟩ := impl_StoreSize.mono_l k
    refine ⟨?_, ?_⟩
    · intro y0 y1 y2 y3
      unfold impl_StoreSize.l0
      repeat' first
      | (with_reducible exact ih0 _ _ _ _)
      | (with_reducible exact ih1 _ _ _ _ _ _ _)
      | (with_reducible exact LeO.refl _)
      | (with_reducible exact LeO.none _)
      | (with_reducible refine LeO.ite ?_ ?_)
      | (with_reducible refine LeO.bind ?_ (fun _ => ?_))
      | exact ih0 _ _ _ _
      | exact ih1 _ _ _ _ _ _ _
      | exact LeO.none _
      | refine LeO.ite ?_ ?_
      | refine LeO.bind ?_ (fun _ => ?_)
    · intro y0 y1 y2 y3 y4 y5 y6
      unfold impl_StoreSize.l1
      repeat' first
      | (with_reducible exact ih0 _ _ _ _)
      | (with_reducible exact ih1 _ _ _ _ _ _ _)
      | (with_reducible exact LeO.refl _)
      | (with_reducible exact LeO.none _)
      | (with_reducible refine LeO.ite ?_ ?_)
      | (with_reducible refine LeO.bind ?_ (fun _ => ?_))
      | exact ih0 _ _ _ _
      | exact ih1 _ _ _ _ _ _ _
      | exact LeO.none _
      | refine LeO.ite ?_ ?_
      | refine LeO.bind ?_ (fun _ => ?_)
theorem impl_StoreSize.mono : ∀ a0 k, LeO (impl_StoreSize.f k a0) (impl_StoreSize.f (k + 1) a0) := by
  intro a0 k
  obtain ⟨ih0, ih1⟩ := impl_StoreSize.mono_l k
  unfold impl_StoreSize.f
  repeat' first
      | (with_reducible exact ih0 _ _ _ _)
      | (with_reducible exact ih1 _ _ _ _ _ _ _)
      | (with_reducible exact LeO.refl _)
      | (with_reducible exact LeO.none _)
      | (with_reducible refine LeO.ite ?_ ?_)
      | (with_reducible refine LeO.bind ?_ (fun _ => ?_))
      | exact ih0 _ _ _ _
      | exact ih1 _ _ _ _ _ _ _
      | exact LeO.none _
      | refine LeO.ite ?_ ?_
      | refine LeO.bind ?_ (fun _ => ?_)
set_option maxHeartbeats 8000000 in
set_option maxRecDepth 100000 in
theorem impl_StoreSize.calls (k : Nat) (A0_0 : Option Addr) (c0_0 : Nat) (l0_0 : List (S66)) (r : Int) (w : World) (hr0_0 : Kd.C k66 w A0_0 l0_0.length l0_0) (hc0_0 : l0_0.length ≤ c0_0) (h : impl_StoreSize.f k l0_0 = some r) :
    Calls Try.prog 54 #[.agg #[.slice A0_0 l0_0.length c0_0]] w fun e w' => e = .returned (.int .i64 r) ∧ Below w.heap.size w w' := by
  have hu86 := Try.underlying86
  have hu66 := Try.underlying66
  have hu133 := Try.underlying133
  have HR0_0 := Aside0.mk hr0_0
  have HC0_0 := Aside0.mk hc0_0
  clear hr0_0 hc0_0
  have HB := Aside0.mk (Below.refl w.heap.size w)
  have H : (impl_StoreSize.l0 k 0 l0_0 (l0_0.length : Int) 0) = some r := h
  clear h
  have H' := Aside0.mk H
  clear H
  go_enter Try.func54, Try.ntmps54
  go_wp2_with (first | ((with_reducible refine gate_dst (N := 1) rfl ?_); refine box_event ?hg (N := 1) ?hd (cs := #[.slice A0_0 l0_0.length c0_0]) (t := 86) ?hr ?_; (case hd => rfl); (case hg => rfl); (case hr => first | (go_simp; done) | (go_simp; rfl)); intro gb682 hg w2 hbox hb; have n0_ := Aside0.mk (below_step (by repeat (first | (with_reducible first | exact HB.out | apply below_alloc | apply pw_below_drewN | apply below_drew1) | exact HB.out)) hb); have n1_ := Aside0.mk (hbox); have n2_ := Aside0.mk ((by rw [hg]; exact (below_size (by repeat (first | (with_reducible first | exact HB.out | apply below_alloc | apply pw_below_drewN | apply below_drew1) | exact HB.out))) : w.heap.size ≤ gb682)); have n3_ := Aside0.mk ((by rw [hg]; exact (below_size (by repeat (first | (with_reducible first | exact HB.out | apply below_alloc | apply pw_below_drewN | apply below_drew1) | exact HB.out))) : w.heap.size ≤ gb682)); clear HB; have HB := n0_; have BK682 := n1_; have GW682 := n2_; have GE682 := n3_; clear n0_ n1_ n2_ n3_; clear hb hbox hg; have hcz3_0 : w2.cell? ⟨gb682, 0, none⟩ = some (.slice A0_0 l0_0.length c0_0) := (blk_cell BK682.out 0).trans rfl; have hfz3_0 := blk_frozen BK682.out 0))
  go_loopg [3, 11] k (fun kq v3 v11 w' => ∃ (x3_1 : Int) (x11_1 : Int), v3 = .int .i64 x3_1 ∧ v11 = .int .i64 x11_1 ∧ Aside0 (impl_StoreSize.l0 kq x3_1 l0_0 (l0_0.length : Int) x11_1 = some r) ∧ Aside0 (kq ≤ k) ∧ Aside0 (w'.heap[gb682]? = some (.cells #[(.slice A0_0 l0_0.length c0_0)] 86 (0, 0))) ∧ Aside0 (Below w.heap.size w w'))
  case atStart => exact ⟨(0), (0), (by first | rfl | (simp; done) | (simp [*]; done)), (by first | rfl | (simp; done) | (simp [*]; done)), H', ⟨Nat.le_refl _⟩, ⟨by (with_reducible repeat (first | refine blk_drewN ?_ _ | refine blk_drew ?_ | refine blk_alloc ?_ _)); exact BK682.out⟩, ⟨by repeat (first | (with_reducible first | exact HB.out | apply below_alloc | apply pw_below_drewN | apply below_drew1 | refine below_set ?_ GE682.out) | exact HB.out)⟩⟩
  case round =>
    clear H'
    try clear p2
    try clear hcz3_0
    try clear hfz3_0
    obtain ⟨x3_1, x11_1, rfl, rfl, HA, HK1, BK682, HB⟩ := hrel
    cases gk with
    | zero => exact absurd HA.out (by simp [impl_StoreSize.l0])
    | succ k1 =>
      have H := HA.out
      clear HA
      simp only [impl_StoreSize.l0] at H
      by_cases c4 : x11_1 < (l0_0.length : Int)
      · rw [if_pos c4] at H
        have c4b0 : decide (x11_1 < (l0_0.length : Int)) = true := decide_eq_true c4
        clear c4
        by_cases c5 : 0 ≤ x11_1
        · rw [if_pos c5] at H
          have c5b0 : decide (0 ≤ x11_1) = true := decide_eq_true c5
          clear c5
          by_cases c6 : x11_1 < (l0_0.length : Int)
          · rw [if_pos c6] at H
            have c6b0 : decide (x11_1 < (l0_0.length : Int)) = true := decide_eq_true c6
            clear c6
            have H' := Aside0.mk H
            clear H
            have p683 : 0 ≤ (x11_1 : Int) := of_decide_eq_true (by first | (with_reducible assumption) | assumption)
            have q683 : x11_1 < (l0_0.length : Int) := of_decide_eq_true (by first | (with_reducible assumption) | assumption)
            obtain ⟨ad683, A683_1, c683_1, A683_3, c683_3, A683_5, c683_5, e683, hx683_0, hx683_1, hx683_2, hx683_3, hx683_4, hx683_5, hx683_6, hx683_7, hx683_8, hx683_9, hl683_1, hi683_1, hl683_3, hi683_3, hl683_5, hi683_5⟩ := at_T66 HR0_0.out x11_1 p683 q683
            cases e683
            replace hx683_0 := (HB.out.cell (World.block_lt_of_cell? w _ hx683_0)).trans hx683_0
            replace hx683_1 := (HB.out.cell (World.block_lt_of_cell? w _ hx683_1)).trans hx683_1
            replace hx683_2 := (HB.out.cell (World.block_lt_of_cell? w _ hx683_2)).trans hx683_2
            replace hx683_3 := (HB.out.cell (World.block_lt_of_cell? w _ hx683_3)).trans hx683_3
            replace hx683_4 := (HB.out.cell (World.block_lt_of_cell? w _ hx683_4)).trans hx683_4
            replace hx683_5 := (HB.out.cell (World.block_lt_of_cell? w _ hx683_5)).trans hx683_5
            replace hx683_6 := (HB.out.cell (World.block_lt_of_cell? w _ hx683_6)).trans hx683_6
            replace hx683_7 := (HB.out.cell (World.block_lt_of_cell? w _ hx683_7)).trans hx683_7
            replace hx683_8 := (HB.out.cell (World.block_lt_of_cell? w _ hx683_8)).trans hx683_8
            replace hx683_9 := (HB.out.cell (World.block_lt_of_cell? w _ hx683_9)).trans hx683_9
            have HR683_1 := Aside0.mk hi683_1
            have HC683_1 := Aside0.mk hl683_1
            clear hi683_1 hl683_1
            have HR683_3 := Aside0.mk hi683_3
            have HC683_3 := Aside0.mk hl683_3
            clear hi683_3 hl683_3
            have HR683_5 := Aside0.mk hi683_5
            have HC683_5 := Aside0.mk hl683_5
            clear hi683_5 hl683_5
            replace p683 := eq_true p683
            replace q683 := eq_true q683
            go_wp2_with (first | ((with_reducible refine gate_dst (N := 5) rfl ?_); refine box_event ?hg (N := 5) ?hd (cs := #[.string (⟨#[]⟩ : ByteArray), .slice none 0 0, .int .i64 0, .slice none 0 0, .string (⟨#[]⟩ : ByteArray), .slice none 0 0, .int .i64 0, .int .i64 0, .int .i64 0, .int .i64 0]) (t := 66) ?hr ?_; (case hd => rfl); (case hg => rfl); (case hr => first | (go_simp; done) | (go_simp; rfl)); intro gb684 hg w7 hbox hb; have n0_ := Aside0.mk (blk_below (g := gb682) (o := .cells #[.slice (some ad683) l0_0.length c0_0] 86 (0, 0)) (by (with_reducible repeat (first | refine blk_drewN ?_ _ | refine blk_drew ?_ | refine blk_alloc ?_ _)); exact BK682.out) hb); have n1_ := Aside0.mk (below_step (by repeat (first | (with_reducible first | exact HB.out | apply below_alloc | apply pw_below_drewN | apply below_drew1 | refine below_set ?_ GE682.out) | exact HB.out)) hb); have n2_ := Aside0.mk (hbox); have n3_ := Aside0.mk ((by rw [hg]; exact (below_size (by repeat (first | (with_reducible first | exact HB.out | apply below_alloc | apply pw_below_drewN | apply below_drew1 | refine below_set ?_ GE682.out) | exact HB.out))) : w.heap.size ≤ gb684)); have n4_ := Aside0.mk ((by rw [hg]; exact (below_size (by repeat (first | (with_reducible first | exact HB.out | apply below_alloc | apply pw_below_drewN | apply below_drew1 | refine below_set ?_ GE682.out) | exact HB.out))) : w.heap.size ≤ gb684)); have n5_ := Aside0.mk ((by rw [hg]; exact Nat.ne_of_lt (blk_lt (g := gb682) (o := .cells #[.slice (some ad683) l0_0.length c0_0] 86 (0, 0)) (by (with_reducible repeat (first | refine blk_drewN ?_ _ | refine blk_drew ?_ | refine blk_alloc ?_ _)); exact BK682.out)) : gb682 ≠ gb684)); have n6_ := Aside0.mk ((by rw [hg]; exact Nat.ne_of_gt (blk_lt (g := gb682) (o := .cells #[.slice (some ad683) l0_0.length c0_0] 86 (0, 0)) (by (with_reducible repeat (first | refine blk_drewN ?_ _ | refine blk_drew ?_ | refine blk_alloc ?_ _)); exact BK682.out)) : gb684 ≠ gb682)); clear BK682; clear HB; have BK682 := n0_; have HB := n1_; have BK684 := n2_; have GW684 := n3_; have GE684 := n4_; have NB682_684 := n5_; have NB684_682 := n6_; clear n0_ n1_ n2_ n3_ n4_ n5_ n6_; clear hb hbox hg; have hnb8 := NB684_682.out; have hnc8 := NB682_684.out; have hcz9_0 : w7.cell? ⟨gb684, 0, none⟩ = some (.string (⟨#[]⟩ : ByteArray)) := (blk_cell BK684.out 0).trans rfl; have hcz9_1 : w7.cell? ⟨gb684, 1, none⟩ = some (.slice none 0 0) := (blk_cell BK684.out 1).trans rfl; have hcz9_2 : w7.cell? ⟨gb684, 2, none⟩ = some (.int .i64 0) := (blk_cell BK684.out 2).trans rfl; have hcz9_3 : w7.cell? ⟨gb684, 3, none⟩ = some (.slice none 0 0) := (blk_cell BK684.out 3).trans rfl; have hcz9_4 : w7.cell? ⟨gb684, 4, none⟩ = some (.string (⟨#[]⟩ : ByteArray)) := (blk_cell BK684.out 4).trans rfl; have hcz9_5 : w7.cell? ⟨gb684, 5, none⟩ = some (.slice none 0 0) := (blk_cell BK684.out 5).trans rfl; have hcz9_6 : w7.cell? ⟨gb684, 6, none⟩ = some (.int .i64 0) := (blk_cell BK684.out 6).trans rfl; have hcz9_7 : w7.cell? ⟨gb684, 7, none⟩ = some (.int .i64 0) := (blk_cell BK684.out 7).trans rfl; have hcz9_8 : w7.cell? ⟨gb684, 8, none⟩ = some (.int .i64 0) := (blk_cell BK684.out 8).trans rfl; have hcz9_9 : w7.cell? ⟨gb684, 9, none⟩ = some (.int .i64 0) := (blk_cell BK684.out 9).trans rfl; have hfz9_0 := blk_frozen BK684.out 0; have hfz9_1 := blk_frozen BK684.out 1; have hfz9_2 := blk_frozen BK684.out 2; have hfz9_3 := blk_frozen BK684.out 3; have hfz9_4 := blk_frozen BK684.out 4; have hfz9_5 := blk_frozen BK684.out 5; have hfz9_6 := blk_frozen BK684.out 6; have hfz9_7 := blk_frozen BK684.out 7; have hfz9_8 := blk_frozen BK684.out 8; have hfz9_9 := blk_frozen BK684.out 9))
            go_loopg [3, 18] k1 (fun kq v3 v18 w' => ∃ (x3_2 : Int) (x18_2 : Int), v3 = .int .i64 x3_2 ∧ v18 = .int .i64 x18_2 ∧ Aside0 (impl_StoreSize.l1 kq x3_2 l0_0 (l0_0.length : Int) x11_1 ((rd_T66 l0_0 x11_1).f3) (((rd_T66 l0_0 x11_1).f3).length : Int) x18_2 = some r) ∧ Aside0 (kq ≤ k1) ∧ Aside0 (w'.heap[gb682]? = some (.cells #[(.slice (some ad683) l0_0.length c0_0)] 86 (0, 0))) ∧ Aside0 (w'.heap[gb684]? = some (.cells #[.string ((rd_T66 l0_0 x11_1).f0), (.slice A683_1 ((rd_T66 l0_0 x11_1).f1).length c683_1), .int .i64 ((rd_T66 l0_0 x11_1).f2.f0), (.slice A683_3 ((rd_T66 l0_0 x11_1).f2.f1).length c683_3), .string ((rd_T66 l0_0 x11_1).f2.f2), (.slice A683_5 ((rd_T66 l0_0 x11_1).f3).length c683_5), .int .i64 ((rd_T66 l0_0 x11_1).f4), .int .i64 ((rd_T66 l0_0 x11_1).f5), .int .i64 ((rd_T66 l0_0 x11_1).f6), .int .i64 ((rd_T66 l0_0 x11_1).f7)] 66 (0, 0))) ∧ Aside0 (Below w.heap.size w w'))
            case atStart => exact ⟨(x3_1), (0), (by first | rfl | (simp; done) | (simp [*]; done)), (by first | rfl | (simp; done) | (simp [*]; done)), H', ⟨Nat.le_refl _⟩, ⟨by (with_reducible repeat (first | refine blk_drewN ?_ _ | refine blk_drew ?_ | refine blk_alloc ?_ _)); refine blk_far ?_ NB682_684.out _; (with_reducible repeat (first | refine blk_drewN ?_ _ | refine blk_drew ?_ | refine blk_alloc ?_ _)); refine blk_far ?_ NB682_684.out _; (with_reducible repeat (first | refine blk_drewN ?_ _ | refine blk_drew ?_ | refine blk_alloc ?_ _)); refine blk_far ?_ NB682_684.out _; (with_reducible repeat (first | refine blk_drewN ?_ _ | refine blk_drew ?_ | refine blk_alloc ?_ _)); refine blk_far ?_ NB682_684.out _; (with_reducible repeat (first | refine blk_drewN ?_ _ | refine blk_drew ?_ | refine blk_alloc ?_ _)); refine blk_far ?_ NB682_684.out _; (with_reducible repeat (first | refine blk_drewN ?_ _ | refine blk_drew ?_ | refine blk_alloc ?_ _)); refine blk_far ?_ NB682_684.out _; (with_reducible repeat (first | refine blk_drewN ?_ _ | refine blk_drew ?_ | refine blk_alloc ?_ _)); refine blk_far ?_ NB682_684.out _; (with_reducible repeat (first | refine blk_drewN ?_ _ | refine blk_drew ?_ | refine blk_alloc ?_ _)); refine blk_far ?_ NB682_684.out _; (with_reducible repeat (first | refine blk_drewN ?_ _ | refine blk_drew ?_ | refine blk_alloc ?_ _)); refine blk_far ?_ NB682_684.out _; (with_reducible repeat (first | refine blk_drewN ?_ _ | refine blk_drew ?_ | refine blk_alloc ?_ _)); refine blk_far ?_ NB682_684.out _; (with_reducible repeat (first | refine blk_drewN ?_ _ | refine blk_drew ?_ | refine blk_alloc ?_ _)); exact BK682.out⟩, ⟨by (with_reducible repeat (first | refine blk_drewN ?_ _ | refine blk_drew ?_ | refine blk_alloc ?_ _)); refine blk_put (cs := #[.string ((rd_T66 l0_0 x11_1).f0), .slice A683_1 ((rd_T66 l0_0 x11_1).f1).length c683_1, .int .i64 ((rd_T66 l0_0 x11_1).f2.f0), .slice A683_3 ((rd_T66 l0_0 x11_1).f2.f1).length c683_3, .string ((rd_T66 l0_0 x11_1).f2.f2), .slice A683_5 ((rd_T66 l0_0 x11_1).f3).length c683_5, .int .i64 ((rd_T66 l0_0 x11_1).f4), .int .i64 ((rd_T66 l0_0 x11_1).f5), .int .i64 ((rd_T66 l0_0 x11_1).f6), .int .i64 0]) ?_ 9 _ rfl; (with_reducible repeat (first | refine blk_drewN ?_ _ | refine blk_drew ?_ | refine blk_alloc ?_ _)); refine blk_put (cs := #[.string ((rd_T66 l0_0 x11_1).f0), .slice A683_1 ((rd_T66 l0_0 x11_1).f1).length c683_1, .int .i64 ((rd_T66 l0_0 x11_1).f2.f0), .slice A683_3 ((rd_T66 l0_0 x11_1).f2.f1).length c683_3, .string ((rd_T66 l0_0 x11_1).f2.f2), .slice A683_5 ((rd_T66 l0_0 x11_1).f3).length c683_5, .int .i64 ((rd_T66 l0_0 x11_1).f4), .int .i64 ((rd_T66 l0_0 x11_1).f5), .int .i64 0, .int .i64 0]) ?_ 8 _ rfl; (with_reducible repeat (first | refine blk_drewN ?_ _ | refine blk_drew ?_ | refine blk_alloc ?_ _)); refine blk_put (cs := #[.string ((rd_T66 l0_0 x11_1).f0), .slice A683_1 ((rd_T66 l0_0 x11_1).f1).length c683_1, .int .i64 ((rd_T66 l0_0 x11_1).f2.f0), .slice A683_3 ((rd_T66 l0_0 x11_1).f2.f1).length c683_3, .string ((rd_T66 l0_0 x11_1).f2.f2), .slice A683_5 ((rd_T66 l0_0 x11_1).f3).length c683_5, .int .i64 ((rd_T66 l0_0 x11_1).f4), .int .i64 0, .int .i64 0, .int .i64 0]) ?_ 7 _ rfl; (with_reducible repeat (first | refine blk_drewN ?_ _ | refine blk_drew ?_ | refine blk_alloc ?_ _)); refine blk_put (cs := #[.string ((rd_T66 l0_0 x11_1).f0), .slice A683_1 ((rd_T66 l0_0 x11_1).f1).length c683_1, .int .i64 ((rd_T66 l0_0 x11_1).f2.f0), .slice A683_3 ((rd_T66 l0_0 x11_1).f2.f1).length c683_3, .string ((rd_T66 l0_0 x11_1).f2.f2), .slice A683_5 ((rd_T66 l0_0 x11_1).f3).length c683_5, .int .i64 0, .int .i64 0, .int .i64 0, .int .i64 0]) ?_ 6 _ rfl; (with_reducible repeat (first | refine blk_drewN ?_ _ | refine blk_drew ?_ | refine blk_alloc ?_ _)); refine blk_put (cs := #[.string ((rd_T66 l0_0 x11_1).f0), .slice A683_1 ((rd_T66 l0_0 x11_1).f1).length c683_1, .int .i64 ((rd_T66 l0_0 x11_1).f2.f0), .slice A683_3 ((rd_T66 l0_0 x11_1).f2.f1).length c683_3, .string ((rd_T66 l0_0 x11_1).f2.f2), .slice none 0 0, .int .i64 0, .int .i64 0, .int .i64 0, .int .i64 0]) ?_ 5 _ rfl; (with_reducible repeat (first | refine blk_drewN ?_ _ | refine blk_drew ?_ | refine blk_alloc ?_ _)); refine blk_put (cs := #[.string ((rd_T66 l0_0 x11_1).f0), .slice A683_1 ((rd_T66 l0_0 x11_1).f1).length c683_1, .int .i64 ((rd_T66 l0_0 x11_1).f2.f0), .slice A683_3 ((rd_T66 l0_0 x11_1).f2.f1).length c683_3, .string (⟨#[]⟩ : ByteArray), .slice none 0 0, .int .i64 0, .int .i64 0, .int .i64 0, .int .i64 0]) ?_ 4 _ rfl; (with_reducible repeat (first | refine blk_drewN ?_ _ | refine blk_drew ?_ | refine blk_alloc ?_ _)); refine blk_put (cs := #[.string ((rd_T66 l0_0 x11_1).f0), .slice A683_1 ((rd_T66 l0_0 x11_1).f1).length c683_1, .int .i64 ((rd_T66 l0_0 x11_1).f2.f0), .slice none 0 0, .string (⟨#[]⟩ : ByteArray), .slice none 0 0, .int .i64 0, .int .i64 0, .int .i64 0, .int .i64 0]) ?_ 3 _ rfl; (with_reducible repeat (first | refine blk_drewN ?_ _ | refine blk_drew ?_ | refine blk_alloc ?_ _)); refine blk_put (cs := #[.string ((rd_T66 l0_0 x11_1).f0), .slice A683_1 ((rd_T66 l0_0 x11_1).f1).length c683_1, .int .i64 0, .slice none 0 0, .string (⟨#[]⟩ : ByteArray), .slice none 0 0, .int .i64 0, .int .i64 0, .int .i64 0, .int .i64 0]) ?_ 2 _ rfl; (with_reducible repeat (first | refine blk_drewN ?_ _ | refine blk_drew ?_ | refine blk_alloc ?_ _)); refine blk_put (cs := #[.string ((rd_T66 l0_0 x11_1).f0), .slice none 0 0, .int .i64 0, .slice none 0 0, .string (⟨#[]⟩ : ByteArray), .slice none 0 0, .int .i64 0, .int .i64 0, .int .i64 0, .int .i64 0]) ?_ 1 _ rfl; (with_reducible repeat (first | refine blk_drewN ?_ _ | refine blk_drew ?_ | refine blk_alloc ?_ _)); refine blk_put (cs := #[.string (⟨#[]⟩ : ByteArray), .slice none 0 0, .int .i64 0, .slice none 0 0, .string (⟨#[]⟩ : ByteArray), .slice none 0 0, .int .i64 0, .int .i64 0, .int .i64 0, .int .i64 0]) ?_ 0 _ rfl; (with_reducible repeat (first | refine blk_drewN ?_ _ | refine blk_drew ?_ | refine blk_alloc ?_ _)); exact BK684.out⟩, ⟨by repeat (first | (with_reducible first | exact HB.out | apply below_alloc | apply pw_below_drewN | apply below_drew1 | refine below_set ?_ GE682.out | refine below_set ?_ GE684.out) | exact HB.out)⟩⟩
            case round =>
              clear H'
              try clear p2
              try clear c4
              try clear c4b0
              try clear c5
              try clear c5b0
              try clear c6
              try clear c6b0
              try clear p6
              try clear q6
              try clear hx6
              try clear c8
              try clear hcz3_0
              try clear hcz9_0
              try clear hcz9_1
              try clear hcz9_2
              try clear hcz9_3
              try clear hcz9_4
              try clear hcz9_5
              try clear hcz9_6
              try clear hcz9_7
              try clear hcz9_8
              try clear hcz9_9
              try clear hfz3_0
              try clear hfz9_0
              try clear hfz9_1
              try clear hfz9_2
              try clear hfz9_3
              try clear hfz9_4
              try clear hfz9_5
              try clear hfz9_6
              try clear hfz9_7
              try clear hfz9_8
              try clear hfz9_9
              try clear hx683_0
              try clear hx683_1
              try clear hx683_2
              try clear hx683_3
              try clear hx683_4
              try clear hx683_5
              try clear hx683_6
              try clear hx683_7
              try clear hx683_8
              try clear hx683_9
              try clear p2
              try clear p683
              try clear q683
              obtain ⟨x3_2, x18_2, rfl, rfl, HA, HK2, BK682, BK684, HB⟩ := hrel
              cases gk with
              | zero => exact absurd HA.out (by simp [impl_StoreSize.l1])
              | succ k2 =>
                have H := HA.out
                clear HA
                simp only [impl_StoreSize.l1] at H
                by_cases c10 : x18_2 < (((rd_T66 l0_0 x11_1).f3).length : Int)
                · rw [if_pos c10] at H
                  have c10b0 : decide (x18_2 < (((rd_T66 l0_0 x11_1).f3).length : Int)) = true := decide_eq_true c10
                  clear c10
                  by_cases c11 : 0 ≤ x18_2
                  · rw [if_pos c11] at H
                    have c11b0 : decide (0 ≤ x18_2) = true := decide_eq_true c11
                    clear c11
                    by_cases c12 : x18_2 < (((rd_T66 l0_0 x11_1).f3).length : Int)
                    · rw [if_pos c12] at H
                      have c12b0 : decide (x18_2 < (((rd_T66 l0_0 x11_1).f3).length : Int)) = true := decide_eq_true c12
                      clear c12
                      have H' := Aside0.mk H
                      clear H
                      have p685 : 0 ≤ (x18_2 : Int) := of_decide_eq_true (by first | (with_reducible assumption) | assumption)
                      have q685 : x18_2 < (((rd_T66 l0_0 x11_1).f3).length : Int) := of_decide_eq_true (by first | (with_reducible assumption) | assumption)
                      obtain ⟨ad685, e685, hx685_0, hx685_1⟩ := at_T133 HR683_5.out x18_2 p685 q685
                      cases e685
                      replace hx685_0 := (HB.out.cell (World.block_lt_of_cell? w _ hx685_0)).trans hx685_0
                      replace hx685_1 := (HB.out.cell (World.block_lt_of_cell? w _ hx685_1)).trans hx685_1
                      replace p685 := eq_true p685
                      replace q685 := eq_true q685
                      go_wp2_with (first | ((with_reducible refine gate_dst (N := 7) rfl ?_); refine box_event ?hg (N := 7) ?hd (cs := #[.int .i64 0, .string (⟨#[]⟩ : ByteArray)]) (t := 133) ?hr ?_; (case hd => rfl); (case hg => rfl); (case hr => first | (go_simp; done) | (go_simp; rfl)); intro gb686 hg w13 hbox hb; have n0_ := Aside0.mk (blk_below (g := gb682) (o := .cells #[.slice (some ad683) l0_0.length c0_0] 86 (0, 0)) (by (with_reducible repeat (first | refine blk_drewN ?_ _ | refine blk_drew ?_ | refine blk_alloc ?_ _)); exact BK682.out) hb); have n1_ := Aside0.mk (blk_below (g := gb684) (o := .cells #[.string ((rd_T66 l0_0 x11_1).f0), .slice A683_1 ((rd_T66 l0_0 x11_1).f1).length c683_1, .int .i64 ((rd_T66 l0_0 x11_1).f2.f0), .slice A683_3 ((rd_T66 l0_0 x11_1).f2.f1).length c683_3, .string ((rd_T66 l0_0 x11_1).f2.f2), .slice (some ad685) ((rd_T66 l0_0 x11_1).f3).length c683_5, .int .i64 ((rd_T66 l0_0 x11_1).f4), .int .i64 ((rd_T66 l0_0 x11_1).f5), .int .i64 ((rd_T66 l0_0 x11_1).f6), .int .i64 ((rd_T66 l0_0 x11_1).f7)] 66 (0, 0)) (by (with_reducible repeat (first | refine blk_drewN ?_ _ | refine blk_drew ?_ | refine blk_alloc ?_ _)); exact BK684.out) hb); have n2_ := Aside0.mk (below_step (by repeat (first | (with_reducible first | exact HB.out | apply below_alloc | apply pw_below_drewN | apply below_drew1 | refine below_set ?_ GE682.out | refine below_set ?_ GE684.out) | exact HB.out)) hb); have n3_ := Aside0.mk (hbox); have n4_ := Aside0.mk ((by rw [hg]; exact (below_size (by repeat (first | (with_reducible first | exact HB.out | apply below_alloc | apply pw_below_drewN | apply below_drew1 | refine below_set ?_ GE682.out | refine below_set ?_ GE684.out) | exact HB.out))) : w.heap.size ≤ gb686)); have n5_ := Aside0.mk ((by rw [hg]; exact (below_size (by repeat (first | (with_reducible first | exact HB.out | apply below_alloc | apply pw_below_drewN | apply below_drew1 | refine below_set ?_ GE682.out | refine below_set ?_ GE684.out) | exact HB.out))) : w.heap.size ≤ gb686)); have n6_ := Aside0.mk ((by rw [hg]; exact Nat.ne_of_lt (blk_lt (g := gb682) (o := .cells #[.slice (some ad683) l0_0.length c0_0] 86 (0, 0)) (by (with_reducible repeat (first | refine blk_drewN ?_ _ | refine blk_drew ?_ | refine blk_alloc ?_ _)); exact BK682.out)) : gb682 ≠ gb686)); have n7_ := Aside0.mk ((by rw [hg]; exact Nat.ne_of_gt (blk_lt (g := gb682) (o := .cells #[.slice (some ad683) l0_0.length c0_0] 86 (0, 0)) (by (with_reducible repeat (first | refine blk_drewN ?_ _ | refine blk_drew ?_ | refine blk_alloc ?_ _)); exact BK682.out)) : gb686 ≠ gb682)); have n8_ := Aside0.mk ((by rw [hg]; exact Nat.ne_of_lt (blk_lt (g := gb684) (o := .cells #[.string ((rd_T66 l0_0 x11_1).f0), .slice A683_1 ((rd_T66 l0_0 x11_1).f1).length c683_1, .int .i64 ((rd_T66 l0_0 x11_1).f2.f0), .slice A683_3 ((rd_T66 l0_0 x11_1).f2.f1).length c683_3, .string ((rd_T66 l0_0 x11_1).f2.f2), .slice (some ad685) ((rd_T66 l0_0 x11_1).f3).length c683_5, .int .i64 ((rd_T66 l0_0 x11_1).f4), .int .i64 ((rd_T66 l0_0 x11_1).f5), .int .i64 ((rd_T66 l0_0 x11_1).f6), .int .i64 ((rd_T66 l0_0 x11_1).f7)] 66 (0, 0)) (by (with_reducible repeat (first | refine blk_drewN ?_ _ | refine blk_drew ?_ | refine blk_alloc ?_ _)); exact BK684.out)) : gb684 ≠ gb686)); have n9_ := Aside0.mk ((by rw [hg]; exact Nat.ne_of_gt (blk_lt (g := gb684) (o := .cells #[.string ((rd_T66 l0_0 x11_1).f0), .slice A683_1 ((rd_T66 l0_0 x11_1).f1).length c683_1, .int .i64 ((rd_T66 l0_0 x11_1).f2.f0), .slice A683_3 ((rd_T66 l0_0 x11_1).f2.f1).length c683_3, .string ((rd_T66 l0_0 x11_1).f2.f2), .slice (some ad685) ((rd_T66 l0_0 x11_1).f3).length c683_5, .int .i64 ((rd_T66 l0_0 x11_1).f4), .int .i64 ((rd_T66 l0_0 x11_1).f5), .int .i64 ((rd_T66 l0_0 x11_1).f6), .int .i64 ((rd_T66 l0_0 x11_1).f7)] 66 (0, 0)) (by (with_reducible repeat (first | refine blk_drewN ?_ _ | refine blk_drew ?_ | refine blk_alloc ?_ _)); exact BK684.out)) : gb686 ≠ gb684)); clear BK682; clear BK684; clear HB; have BK682 := n0_; have BK684 := n1_; have HB := n2_; have BK686 := n3_; have GW686 := n4_; have GE686 := n5_; have NB682_686 := n6_; have NB686_682 := n7_; have NB684_686 := n8_; have NB686_684 := n9_; clear n0_ n1_ n2_ n3_ n4_ n5_ n6_ n7_ n8_ n9_; clear hb hbox hg; have hnb14 := NB686_682.out; have hnc14 := NB682_686.out; have hnb15 := NB686_684.out; have hnc15 := NB684_686.out; have hcz16_0 : w13.cell? ⟨gb686, 0, none⟩ = some (.int .i64 0) := (blk_cell BK686.out 0).trans rfl; have hcz16_1 : w13.cell? ⟨gb686, 1, none⟩ = some (.string (⟨#[]⟩ : ByteArray)) := (blk_cell BK686.out 1).trans rfl; have hfz16_0 := blk_frozen BK686.out 0; have hfz16_1 := blk_frozen BK686.out 1))
                      go_roundg k2
                      case measure => have := HK1.out; have := HK2.out; omega
                      case rel => exact ⟨(wrap64 (x3_2 + (((rd_T133 ((rd_T66 l0_0 x11_1).f3) x18_2).f1).size : Int))), (wrap64 (x18_2 + 1)), (by first | rfl | (simp; done) | (simp [*]; done)), (by first | rfl | (simp; done) | (simp [*]; done)), H', ⟨by have := HK1.out; have := HK2.out; omega⟩, ⟨by (with_reducible repeat (first | refine blk_drewN ?_ _ | refine blk_drew ?_ | refine blk_alloc ?_ _)); refine blk_far ?_ NB682_686.out _; (with_reducible repeat (first | refine blk_drewN ?_ _ | refine blk_drew ?_ | refine blk_alloc ?_ _)); refine blk_far ?_ NB682_686.out _; (with_reducible repeat (first | refine blk_drewN ?_ _ | refine blk_drew ?_ | refine blk_alloc ?_ _)); exact BK682.out⟩, ⟨by (with_reducible repeat (first | refine blk_drewN ?_ _ | refine blk_drew ?_ | refine blk_alloc ?_ _)); refine blk_far ?_ NB684_686.out _; (with_reducible repeat (first | refine blk_drewN ?_ _ | refine blk_drew ?_ | refine blk_alloc ?_ _)); refine blk_far ?_ NB684_686.out _; (with_reducible repeat (first | refine blk_drewN ?_ _ | refine blk_drew ?_ | refine blk_alloc ?_ _)); exact BK684.out⟩, ⟨by repeat (first | (with_reducible first | exact HB.out | apply below_alloc | apply pw_below_drewN | apply below_drew1 | refine below_set ?_ GE682.out | refine below_set ?_ GE684.out | refine below_set ?_ GE686.out) | exact HB.out)⟩⟩
                    · rw [if_neg c12] at H
                      exact absurd H (by simp)
                  · rw [if_neg c11] at H
                    exact absurd H (by simp)
                · rw [if_neg c10] at H
                  have c10b0 : decide (x18_2 < (((rd_T66 l0_0 x11_1).f3).length : Int)) = false := decide_eq_false c10
                  clear c10
                  have H' := Aside0.mk H
                  clear H
                  go_wp2
                  go_roundg k2
                  case measure => have := HK1.out; have := HK2.out; omega
                  case rel => exact ⟨(x3_2), (wrap64 (x11_1 + 1)), (by first | rfl | (simp; done) | (simp [*]; done)), (by first | rfl | (simp; done) | (simp [*]; done)), H', ⟨by have := HK1.out; have := HK2.out; omega⟩, ⟨by (with_reducible repeat (first | refine blk_drewN ?_ _ | refine blk_drew ?_ | refine blk_alloc ?_ _)); exact BK682.out⟩, ⟨by repeat (first | (with_reducible first | exact HB.out | apply below_alloc | apply pw_below_drewN | apply below_drew1 | refine below_set ?_ GE682.out | refine below_set ?_ GE684.out) | exact HB.out)⟩⟩
          · rw [if_neg c6] at H
            exact absurd H (by simp)
        · rw [if_neg c5] at H
          exact absurd H (by simp)
      · rw [if_neg c4] at H
        have c4b0 : decide (x11_1 < (l0_0.length : Int)) = false := decide_eq_false c4
        clear c4
        obtain rfl := Option.some.inj H
        go_wp2
        go_ret
        exact ⟨by first | rfl | (simp [errW_none, errW_some] <;> rfl) | (simp [*, errW_none, errW_some] <;> rfl), by repeat (first | (with_reducible first | exact HB.out | apply below_alloc | apply pw_below_drewN | apply below_drew1 | refine below_set ?_ GE682.out) | exact HB.out)⟩


end Go.Proofs.Ytelmcjohkifeeaa.PA

namespace Go.Proofs.Ytelmcjohkifeeaa.PA
open Go.RowKit Go.Proofs.YtelmcjohkifeeaaW.PrintWords Go.Proofs.YtelmcjohkifeeaaW.PrintLast Go.Proofs.YtelmcjohkifeeaaW.PrintMore
attribute [local go_sem] max2_int min2_int max_two min_two max_three min_three max_four min_four   -- for this text's walks alone
set_option linter.unusedVariables false
set_option linter.unusedSimpArgs false
/-! ### laws_eqField: function 121 -/
def laws_eqField.f (a0_0 : ByteArray) (a0_1 : ByteArray) (a1_0 : ByteArray) (a1_1 : ByteArray) : Option (Bool) := if a0_0.toList = a1_0.toList then (if a0_1.toList = a1_1.toList then (some true) else (some false)) else (some false)
set_option maxHeartbeats 8000000 in
set_option maxRecDepth 100000 in
theorem laws_eqField.calls (a0_0 : ByteArray) (a0_1 : ByteArray) (a1_0 : ByteArray) (a1_1 : ByteArray) (r : Bool) (w : World) (h : laws_eqField.f a0_0 a0_1 a1_0 a1_1 = some r) :
    Calls Try.prog 121 #[.agg #[.string a0_0, .string a0_1], .agg #[.string a1_0, .string a1_1]] w fun e w' => e = .returned (.bool r) ∧ Below w.heap.size w w' := by
  have hu146 := Try.underlying146
  have HB := Aside0.mk (Below.refl w.heap.size w)
  have H : (if a0_0.toList = a1_0.toList then (if a0_1.toList = a1_1.toList then (some true) else (some false)) else (some false)) = some r := h
  clear h
  have HF3 := Aside0.mk H
  clear H
  go_enter Try.func121, Try.ntmps121
  go_upto_if 9 with (first | ((with_reducible refine gate_dst (N := 2) rfl ?_); refine box_event ?hg (N := 2) ?hd (cs := #[.string a0_0, .string a0_1]) (t := 146) ?hr ?_; (case hd => rfl); (case hg => rfl); (case hr => first | (go_simp; done) | (go_simp; rfl)); intro gb312 hg w4 hbox hb; have n0_ := Aside0.mk (below_step (by repeat (first | (with_reducible first | exact HB.out | apply below_alloc | apply pw_below_drewN | apply below_drew1) | exact HB.out)) hb); have n1_ := Aside0.mk (hbox); have n2_ := Aside0.mk ((by rw [hg]; exact (below_size (by repeat (first | (with_reducible first | exact HB.out | apply below_alloc | apply pw_below_drewN | apply below_drew1) | exact HB.out))) : w.heap.size ≤ gb312)); have n3_ := Aside0.mk ((by rw [hg]; exact (below_size (by repeat (first | (with_reducible first | exact HB.out | apply below_alloc | apply pw_below_drewN | apply below_drew1) | exact HB.out))) : w.heap.size ≤ gb312)); clear HB; have HB := n0_; have BK312 := n1_; have GW312 := n2_; have GE312 := n3_; clear n0_ n1_ n2_ n3_; clear hb hbox hg) | ((with_reducible refine gate_dst (N := 3) rfl ?_); refine box_event ?hg (N := 3) ?hd (cs := #[.string a1_0, .string a1_1]) (t := 146) ?hr ?_; (case hd => rfl); (case hg => rfl); (case hr => first | (go_simp; done) | (go_simp; rfl)); intro gb313 hg w5 hbox hb; have n0_ := Aside0.mk (blk_below (g := gb312) (o := .cells #[.string a0_0, .string a0_1] 146 (0, 0)) (by (with_reducible repeat (first | refine blk_drewN ?_ _ | refine blk_drew ?_ | refine blk_alloc ?_ _)); exact BK312.out) hb); have n1_ := Aside0.mk (below_step (by repeat (first | (with_reducible first | exact HB.out | apply below_alloc | apply pw_below_drewN | apply below_drew1 | refine below_set ?_ GE312.out) | exact HB.out)) hb); have n2_ := Aside0.mk (hbox); have n3_ := Aside0.mk ((by rw [hg]; exact (below_size (by repeat (first | (with_reducible first | exact HB.out | apply below_alloc | apply pw_below_drewN | apply below_drew1 | refine below_set ?_ GE312.out) | exact HB.out))) : w.heap.size ≤ gb313)); have n4_ := Aside0.mk ((by rw [hg]; exact (below_size (by repeat (first | (with_reducible first | exact HB.out | apply below_alloc | apply pw_below_drewN | apply below_drew1 | refine below_set ?_ GE312.out) | exact HB.out))) : w.heap.size ≤ gb313)); have n5_ := Aside0.mk ((by rw [hg]; exact Nat.ne_of_lt (blk_lt (g := gb312) (o := .cells #[.string a0_0, .string a0_1] 146 (0, 0)) (by (with_reducible repeat (first | refine blk_drewN ?_ _ | refine blk_drew ?_ | refine blk_alloc ?_ _)); exact BK312.out)) : gb312 ≠ gb313)); have n6_ := Aside0.mk ((by rw [hg]; exact Nat.ne_of_gt (blk_lt (g := gb312) (o := .cells #[.string a0_0, .string a0_1] 146 (0, 0)) (by (with_reducible repeat (first | refine blk_drewN ?_ _ | refine blk_drew ?_ | refine blk_alloc ?_ _)); exact BK312.out)) : gb313 ≠ gb312)); clear BK312; clear HB; have BK312 := n0_; have HB := n1_; have BK313 := n2_; have GW313 := n3_; have GE313 := n4_; have NB312_313 := n5_; have NB313_312 := n6_; clear n0_ n1_ n2_ n3_ n4_ n5_ n6_; clear hb hbox hg; have hnb6 := NB312_313.out; have hnc6 := NB313_312.out; have hcz7_0 : w5.cell? ⟨gb312, 0, none⟩ = some (.string a0_0) := (blk_cell BK312.out 0).trans rfl; have hcz7_1 : w5.cell? ⟨gb312, 1, none⟩ = some (.string a0_1) := (blk_cell BK312.out 1).trans rfl; have hfz7_0 := blk_frozen BK312.out 0; have hfz7_1 := blk_frozen BK312.out 1; have hcz8_0 : w5.cell? ⟨gb313, 0, none⟩ = some (.string a1_0) := (blk_cell BK313.out 0).trans rfl; have hcz8_1 : w5.cell? ⟨gb313, 1, none⟩ = some (.string a1_1) := (blk_cell BK313.out 1).trans rfl; have hfz8_0 := blk_frozen BK313.out 0; have hfz8_1 := blk_frozen BK313.out 1))
  have H := HF3.out
  clear HF3
  by_cases c9 : a0_0.toList = a1_0.toList
  · rw [if_pos c9] at H
    have c9b0 : (a0_0.toList == a1_0.toList) = true := beq_iff_eq.mpr c9
    have c9b1 : (a0_0.toList != a1_0.toList) = false := bne_eq_false_iff_eq.mpr c9
    clear c9
    (first | rw [c9b0] | (simp only [i64_w, i32_w]; rw [c9b0]) | skip)
    have HF10 := Aside0.mk H
    clear H
    have hnb11 := NB312_313.out
    have hnc11 := NB313_312.out
    have hcz12_0 : w5.cell? ⟨gb312, 0, none⟩ = some (.string a0_0) := (blk_cell BK312.out 0).trans rfl
    have hcz12_1 : w5.cell? ⟨gb312, 1, none⟩ = some (.string a0_1) := (blk_cell BK312.out 1).trans rfl
    have hfz12_0 := blk_frozen BK312.out 0
    have hfz12_1 := blk_frozen BK312.out 1
    have hcz13_0 : w5.cell? ⟨gb313, 0, none⟩ = some (.string a1_0) := (blk_cell BK313.out 0).trans rfl
    have hcz13_1 : w5.cell? ⟨gb313, 1, none⟩ = some (.string a1_1) := (blk_cell BK313.out 1).trans rfl
    have hfz13_0 := blk_frozen BK313.out 0
    have hfz13_1 := blk_frozen BK313.out 1
    go_upto_if 14 with (fail)
    have H := HF10.out
    clear HF10
    by_cases c14 : a0_1.toList = a1_1.toList
    · rw [if_pos c14] at H
      have c14b0 : (a0_1.toList == a1_1.toList) = true := beq_iff_eq.mpr c14
      have c14b1 : (a0_1.toList != a1_1.toList) = false := bne_eq_false_iff_eq.mpr c14
      clear c14
      (first | rw [c14b0] | (simp only [i64_w, i32_w]; rw [c14b0]) | skip)
      obtain rfl := Option.some.inj H
      go_wp2
      go_ret
      exact ⟨by first | rfl | (simp [errW_none, errW_some] <;> rfl) | (simp [*, errW_none, errW_some] <;> rfl), by repeat (first | (with_reducible first | exact HB.out | apply below_alloc | apply pw_below_drewN | apply below_drew1 | refine below_set ?_ GE312.out | refine below_set ?_ GE313.out) | exact HB.out)⟩
    · rw [if_neg c14] at H
      have c14b0 : (a0_1.toList == a1_1.toList) = false := beq_eq_false_iff_ne.mpr c14
      have c14b1 : (a0_1.toList != a1_1.toList) = true := bne_iff_ne.mpr c14
      (first | rw [c14b0] | (simp only [i64_w, i32_w]; rw [c14b0]) | skip)
      obtain rfl := Option.some.inj H
      go_wp2
      go_ret
      exact ⟨by first | rfl | (simp [errW_none, errW_some] <;> rfl) | (simp [*, errW_none, errW_some] <;> rfl), by repeat (first | (with_reducible first | exact HB.out | apply below_alloc | apply pw_below_drewN | apply below_drew1 | refine below_set ?_ GE312.out | refine below_set ?_ GE313.out) | exact HB.out)⟩
  · rw [if_neg c9] at H
    have c9b0 : (a0_0.toList == a1_0.toList) = false := beq_eq_false_iff_ne.mpr c9
    have c9b1 : (a0_0.toList != a1_0.toList) = true := bne_iff_ne.mpr c9
    (first | rw [c9b0] | (simp only [i64_w, i32_w]; rw [c9b0]) | skip)
    obtain rfl := Option.some.inj H
    go_wp2
    go_ret
    exact ⟨by first | rfl | (simp [errW_none, errW_some] <;> rfl) | (simp [*, errW_none, errW_some] <;> rfl), by repeat (first | (with_reducible first | exact HB.out | apply below_alloc | apply pw_below_drewN | apply below_drew1 | refine below_set ?_ GE312.out | refine below_set ?_ GE313.out) | exact HB.out)⟩


end Go.Proofs.Ytelmcjohkifeeaa.PA

namespace Go.Proofs.Ytelmcjohkifeeaa.PA
open Go.RowKit Go.Proofs.YtelmcjohkifeeaaW.PrintWords Go.Proofs.YtelmcjohkifeeaaW.PrintLast Go.Proofs.YtelmcjohkifeeaaW.PrintMore
attribute [local go_sem] max2_int min2_int max_two min_two max_three min_three max_four min_four   -- for this text's walks alone
set_option linter.unusedVariables false
set_option linter.unusedSimpArgs false
/-! ### laws_eqFieldS: function 86 -/
def laws_eqFieldS.l0 : Nat → List (S146) → List (S146) → Int → Option (Bool)
  | 0, _, _, _ => none
  | k + 1, x0, x1, x5 => if x5 < (x0.length : Int) then (if 0 ≤ x5 then (if x5 < (x1.length : Int) then ((laws_eqField.f ((rd_T146 x0 x5).f0) ((rd_T146 x0 x5).f1) ((rd_T146 x1 x5).f0) ((rd_T146 x1 x5).f1)).bind fun t316 => (if t316 = true then (laws_eqFieldS.l0 k x0 x1 (wrap64 (x5 + 1))) else (some false))) else (none)) else (none)) else (some true)
def laws_eqFieldS.f (k : Nat) (l0 : List (S146)) (l1 : List (S146)) : Option (Bool) := if (l0.length : Int) = (l1.length : Int) then (laws_eqFieldS.l0 k l0 l1 0) else (some false)
theorem laws_eqFieldS.mono_l : ∀ k, (∀ y0 y1 y2, LeO (laws_eqFieldS.l0 k y0 y1 y2) (laws_eqFieldS.l0 (k + 1) y0 y1 y2))
  | 0 => fun _ _ _ r h => by simp [laws_eqFieldS.l0] at h
  | k + 1 => by
    have ih0 := laws_eqFieldS.mono_l k
    · intro y0 y1 y2
      unfold laws_eqFieldS.l0
      repeat' first
      | (with_reducible exact ih0 _ _ _)
      | (with_reducible exact LeO.refl _)
      | (with_reducible exact LeO.none _)
      | (with_reducible refine LeO.ite ?_ ?_)
      | (with_reducible refine LeO.bind ?_ (fun _ => ?_))
      | exact ih0 _ _ _
      | exact LeO.none _
      | refine LeO.ite ?_ ?_
      | refine LeO.bind ?_ (fun _ => ?_)
theorem laws_eqFieldS.mono : ∀ a0 a1 k, LeO (laws_eqFieldS.f k a0 a1) (laws_eqFieldS.f (k + 1) a0 a1) := by
  intro a0 a1 k
  have ih0 := laws_eqFieldS.mono_l k
  unfold laws_eqFieldS.f
  repeat' first
      | (with_reducible exact ih0 _ _ _)
      | (with_reducible exact LeO.refl _)
      | (with_reducible exact LeO.none _)
      | (with_reducible refine LeO.ite ?_ ?_)
      | (with_reducible refine LeO.bind ?_ (fun _ => ?_))
      | exact ih0 _ _ _
      | exact LeO.none _
      | refine LeO.ite ?_ ?_
      | refine LeO.bind ?_ (fun _ => ?_)
def laws_eqFieldS.T6 : Bool × List (List Nat × List Nat) := (true, [([], []), ([], []), ([0, 1], [0, 1]), ([2], [2]), ([], []), ([], []), ([4, 5], [4, 5]), ([6], [6]), ([3, 7], [3, 7]), ([8], [8])])
def laws_eqFieldS.B6 : List Nat := [0, 0, 3, 7, 0, 0, 48, 112, 255, 511]
theorem laws_eqFieldS.tab6 : rtab .any (opsOf Try.f86 6) = laws_eqFieldS.T6 := by kernel_rfl
theorem laws_eqFieldS.bits6 : waitsOk laws_eqFieldS.T6.2 laws_eqFieldS.B6 = true := by kernel_rfl
set_option maxHeartbeats 8000000 in
set_option maxRecDepth 100000 in
theorem laws_eqFieldS.calls (k : Nat) (A0 : Option Addr) (c0 : Nat) (l0 : List (S146)) (A1 : Option Addr) (c1 : Nat) (l1 : List (S146)) (r : Bool) (w : World) (hr0 : Kd.C k146 w A0 l0.length l0) (hc0 : l0.length ≤ c0) (hr1 : Kd.C k146 w A1 l1.length l1) (hc1 : l1.length ≤ c1) (h : laws_eqFieldS.f k l0 l1 = some r) :
    Calls Try.prog 86 #[.slice A0 l0.length c0, .slice A1 l1.length c1] w fun e w' => e = .returned (.bool r) ∧ Below w.heap.size w w' := by
  have hu146 := Try.underlying146
  have HR0 := Aside0.mk hr0
  have HC0 := Aside0.mk hc0
  clear hr0 hc0
  have HR1 := Aside0.mk hr1
  have HC1 := Aside0.mk hc1
  clear hr1 hc1
  have HB := Aside0.mk (Below.refl w.heap.size w)
  have H : (if (l0.length : Int) = (l1.length : Int) then (laws_eqFieldS.l0 k l0 l1 0) else (some false)) = some r := h
  clear h
  by_cases c3 : (l0.length : Int) = (l1.length : Int)
  · rw [if_pos c3] at H
    have c3b0 : ((l0.length : Int) == (l1.length : Int)) = true := beq_iff_eq.mpr c3
    have c3b1 : ((l0.length : Int) != (l1.length : Int)) = false := bne_eq_false_iff_eq.mpr c3
    have c3b2 : (l0.length == l1.length) = true := by first | simpa using c3 | (simp at c3 ⊢; omega)
    clear c3
    have H' := Aside0.mk H
    clear H
    go_enter Try.func86, Try.ntmps86
    go_wp2
    go_loopg [5] k (fun kq v5 w' => ∃ (x5_1 : Int), v5 = .int .i64 x5_1 ∧ Aside0 (laws_eqFieldS.l0 kq l0 l1 x5_1 = some r) ∧ Aside0 (kq ≤ k) ∧ Aside0 (Below w.heap.size w w'))
    case atStart => exact ⟨(0), (by first | rfl | (simp; done) | (simp [*]; done)), H', ⟨Nat.le_refl _⟩, ⟨by repeat (first | (with_reducible first | exact HB.out | apply below_alloc | apply pw_below_drewN | apply below_drew1) | exact HB.out)⟩⟩
    case round =>
      clear H'
      try clear c1
      try clear p2
      try clear c3
      try clear c3b0
      try clear c3b1
      try clear c3b2
      obtain ⟨x5_1, rfl, HA, HK1, HB⟩ := hrel
      cases gk with
      | zero => exact absurd HA.out (by simp [laws_eqFieldS.l0])
      | succ k1 =>
        have H := HA.out
        clear HA
        simp only [laws_eqFieldS.l0] at H
        by_cases c4 : x5_1 < (l0.length : Int)
        · rw [if_pos c4] at H
          have c4b0 : decide (x5_1 < (l0.length : Int)) = true := decide_eq_true c4
          clear c4
          by_cases c5 : 0 ≤ x5_1
          · rw [if_pos c5] at H
            have c5b0 : decide (0 ≤ x5_1) = true := decide_eq_true c5
            clear c5
            by_cases c6 : x5_1 < (l1.length : Int)
            · rw [if_pos c6] at H
              have c6b0 : decide (x5_1 < (l1.length : Int)) = true := decide_eq_true c6
              clear c6
              replace H := Option.bind_eq_some_iff.mp H
              obtain ⟨t316, A70, H⟩ := H
              replace H : (if t316 = true then (laws_eqFieldS.l0 k1 l0 l1 (wrap64 (x5_1 + 1))) else (some false)) = some r := H
              have A7 := Aside0.mk A70
              clear A70
              have HF8 := Aside0.mk H
              clear H
              try go_wp2
              have n0_ := Aside0.mk (below_drew1 HB.out)
              clear HB
              have HB := n0_
              clear n0_
              have p314 : 0 ≤ (x5_1 : Int) := of_decide_eq_true (by first | (with_reducible assumption) | assumption)
              have q314 : x5_1 < (l0.length : Int) := of_decide_eq_true (by first | (with_reducible assumption) | assumption)
              obtain ⟨ad314, e314, hx314_0, hx314_1⟩ := at_T146 HR0.out x5_1 p314 q314
              have hw314_1 := hx314_1
              have hw314_0 := hx314_0
              cases e314
              replace hx314_0 := (HB.out.cell (World.block_lt_of_cell? w _ hx314_0)).trans hx314_0
              replace hx314_1 := (HB.out.cell (World.block_lt_of_cell? w _ hx314_1)).trans hx314_1
              replace p314 := eq_true p314
              replace q314 := eq_true q314
              have p315 : 0 ≤ (x5_1 : Int) := of_decide_eq_true (by first | (with_reducible assumption) | assumption)
              have q315 : x5_1 < (l1.length : Int) := of_decide_eq_true (by first | (with_reducible assumption) | assumption)
              obtain ⟨ad315, e315, hx315_0, hx315_1⟩ := at_T146 HR1.out x5_1 p315 q315
              have hw315_1 := hx315_1
              have hw315_0 := hx315_0
              cases e315
              replace hx315_0 := (HB.out.cell (World.block_lt_of_cell? w _ hx315_0)).trans hx315_0
              replace hx315_1 := (HB.out.cell (World.block_lt_of_cell? w _ hx315_1)).trans hx315_1
              replace p315 := eq_true p315
              replace q315 := eq_true q315
              refine start_ (n := 10) (S := fun w' => w'.cell? (ad314.add ((x5_1).toNat * 2)) = some (.string ((rd_T146 l0 x5_1).f0)) ∧ w'.cell? ⟨(ad314.add ((x5_1).toNat * 2)).block, (ad314.add ((x5_1).toNat * 2)).off + 1, none⟩ = some (.string ((rd_T146 l0 x5_1).f1)) ∧ w'.cell? (ad315.add ((x5_1).toNat * 2)) = some (.string ((rd_T146 l1 x5_1).f0)) ∧ w'.cell? ⟨(ad315.add ((x5_1).toNat * 2)).block, (ad315.add ((x5_1).toNat * 2)).off + 1, none⟩ = some (.string ((rd_T146 l1 x5_1).f1))) (ds := []) #[false, false, false, false, false, false, false, false, false, false] (by kernel_rfl) rfl rfl ⟨((HB.out.cell (World.block_lt_of_cell? w _ hw314_0)).trans hw314_0), ((HB.out.cell (World.block_lt_of_cell? w _ hw314_1)).trans hw314_1), ((HB.out.cell (World.block_lt_of_cell? w _ hw315_0)).trans hw315_0), ((HB.out.cell (World.block_lt_of_cell? w _ hw315_1)).trans hw315_1)⟩ (fun hHeld => ?_); refine with_tabW laws_eqFieldS.tab6 laws_eqFieldS.bits6 (fun HT_ HW_ => ?_)
              generalize wr.drew = w9 at HB hx314_0 hx314_1 hx315_0 hx315_1 hHeld ⊢
              refine pure_ (i := 0) (N := some 17) (v := ?_) (a' := ?_) #[true, false, false, false, false, false, false, false, false, false] rfl rfl (any_of HT_.out (by kernel_rfl)) (fun _ _ _ h => h) (Or.inl ⟨by rfl, ?_⟩) ?_ ?_
              rotate_left
              · intro w'
                go_simp
                with_reducible rfl
              rotate_left
              · simp only [Act.put, List.setIfInBounds_toArray, List.set_cons_zero, List.set_cons_succ, i64_w, i32_w]
                rfl
              refine pure_ (i := 1) (N := some 18) (v := ?_) (a' := ?_) #[true, true, false, false, false, false, false, false, false, false] rfl rfl (any_of HT_.out (by kernel_rfl)) (fun _ _ _ h => h) (Or.inl ⟨by rfl, ?_⟩) ?_ ?_
              rotate_left
              · intro w'
                go_simp
                with_reducible rfl
              rotate_left
              · simp only [Act.put, List.setIfInBounds_toArray, List.set_cons_zero, List.set_cons_succ, i64_w, i32_w]
                rfl
              refine pure_ (i := 2) (N := some 19) (v := ?_) (a' := ?_) #[true, true, true, false, false, false, false, false, false, false] rfl rfl (any_of HT_.out (by kernel_rfl)) (fun _ _ _ h => h) (Or.inl ⟨by rfl, ?_⟩) ?_ ?_
              rotate_left
              · intro w'
                go_simp
                with_reducible rfl
              rotate_left
              · simp only [Act.put, List.setIfInBounds_toArray, List.set_cons_zero, List.set_cons_succ, i64_w, i32_w]
                rfl
              refine pure_ (i := 4) (N := some 21) (v := ?_) (a' := ?_) #[true, true, true, false, true, false, false, false, false, false] rfl rfl (any_of HT_.out (by kernel_rfl)) (fun _ _ _ h => h) (Or.inl ⟨by rfl, ?_⟩) ?_ ?_
              rotate_left
              · intro w'
                go_simp
                with_reducible rfl
              rotate_left
              · simp only [Act.put, List.setIfInBounds_toArray, List.set_cons_zero, List.set_cons_succ, i64_w, i32_w]
                rfl
              refine pure_ (i := 5) (N := some 22) (v := ?_) (a' := ?_) #[true, true, true, false, true, true, false, false, false, false] rfl rfl (any_of HT_.out (by kernel_rfl)) (fun _ _ _ h => h) (Or.inl ⟨by rfl, ?_⟩) ?_ ?_
              rotate_left
              · intro w'
                go_simp
                with_reducible rfl
              rotate_left
              · simp only [Act.put, List.setIfInBounds_toArray, List.set_cons_zero, List.set_cons_succ, i64_w, i32_w]
                rfl
              refine pure_ (i := 6) (N := some 23) (v := ?_) (a' := ?_) #[true, true, true, false, true, true, true, false, false, false] rfl rfl (any_of HT_.out (by kernel_rfl)) (fun _ _ _ h => h) (Or.inl ⟨by rfl, ?_⟩) ?_ ?_
              rotate_left
              · intro w'
                go_simp
                with_reducible rfl
              rotate_left
              · simp only [Act.put, List.setIfInBounds_toArray, List.set_cons_zero, List.set_cons_succ, i64_w, i32_w]
                rfl
              refine take_ (i := 3) (N := some 20) (v := ?_) (a' := ?_) #[true, true, true, true, true, true, true, false, false, false] rfl rfl (take_ofW HT_.out HW_.out (by kernel_rfl)) (fun _ _ _ h => h) (Or.inl ⟨by rfl, ?_⟩) hHeld ?_ ?_
              rotate_left
              · rintro w' ⟨s0, s1, s2, s3⟩
                go_simp
                with_reducible rfl
              rotate_left
              · simp only [Act.put, List.setIfInBounds_toArray, List.set_cons_zero, List.set_cons_succ, i64_w, i32_w]
                rfl
              refine take_ (i := 7) (N := some 24) (v := ?_) (a' := ?_) #[true, true, true, true, true, true, true, true, false, false] rfl rfl (take_ofW HT_.out HW_.out (by kernel_rfl)) (fun _ _ _ h => h) (Or.inl ⟨by rfl, ?_⟩) hHeld ?_ ?_
              rotate_left
              · rintro w' ⟨s0, s1, s2, s3⟩
                go_simp
                with_reducible rfl
              rotate_left
              · simp only [Act.put, List.setIfInBounds_toArray, List.set_cons_zero, List.set_cons_succ, i64_w, i32_w]
                rfl
              refine one_ (i := 8) (N := some 25) #[true, true, true, true, true, true, true, true, true, false] rfl rfl (one_of HT_.out (by kernel_rfl)) (by decide) (fun K hK => ?_)
              refine goes_ Try.func121 (by kernel_rfl) rfl #[.agg #[.string ((rd_T146 l0 x5_1).f0), .string ((rd_T146 l0 x5_1).f1)], .agg #[.string ((rd_T146 l1 x5_1).f0), .string ((rd_T146 l1 x5_1).f1)]] (by rfl) rfl rfl (by (try simp only [List.map_toArray, List.map_cons, List.map_nil]); first | done | rfl | (simp only [List.length_drop, List.length_take]; rfl)) ?_
              with_reducible refine (laws_eqField.calls ((rd_T146 l0 x5_1).f0) ((rd_T146 l0 x5_1).f1) ((rd_T146 l1 x5_1).f0) ((rd_T146 l1 x5_1).f1) t316 _ A7.out).mono ?_
              rintro e w10 ⟨rfl, hb⟩
              refine ⟨_, rfl, ?_⟩
              have n0_ := Aside0.mk (below_step (by repeat (first | (with_reducible first | exact HB.out | apply below_alloc | apply pw_below_drewN | apply below_drew1) | exact HB.out)) hb)
              clear HB
              have HB := n0_
              clear n0_
              (try clear hb)
              (try clear hb2)
              (try clear hk)
              (try clear hi)
              refine hK.out _ _ ⟨((HB.out.cell (World.block_lt_of_cell? w _ hw314_0)).trans hw314_0), ((HB.out.cell (World.block_lt_of_cell? w _ hw314_1)).trans hw314_1), ((HB.out.cell (World.block_lt_of_cell? w _ hw315_0)).trans hw315_0), ((HB.out.cell (World.block_lt_of_cell? w _ hw315_1)).trans hw315_1)⟩ (fun hHeld => ?_)
              clear hK K
              refine norm_ (a' := ?_) ?_ ?_
              rotate_left
              · show Act.put _ (some 25) _ = _
                simp only [Act.put, List.setIfInBounds_toArray, List.set_cons_zero, List.set_cons_succ, i64_w, i32_w]
                rfl
              refine pure_ (i := 9) (N := some 26) (v := ?_) (a' := ?_) #[true, true, true, true, true, true, true, true, true, true] rfl rfl (any_of HT_.out (by kernel_rfl)) (fun _ _ _ h => h) (Or.inl ⟨by rfl, ?_⟩) ?_ ?_
              rotate_left
              · intro w'
                go_simp
                with_reducible rfl
              rotate_left
              · simp only [Act.put, List.setIfInBounds_toArray, List.set_cons_zero, List.set_cons_succ, i64_w, i32_w]
                rfl
              refine done_ (done_of HT_.out (by kernel_rfl)) ?_
              go_upto_if 26 with (fail)
              have H := HF8.out
              clear HF8
              by_cases c11 : t316 = true
              · subst c11
                have H1 : (laws_eqFieldS.l0 k1 l0 l1 (wrap64 (x5_1 + 1))) = some r := by rw [if_pos rfl] at H; exact H
                clear H
                have H := H1
                clear H1
                have H' := Aside0.mk H
                clear H
                go_wp2
                go_roundg k1
                case measure => have := HK1.out; omega
                case rel => exact ⟨(wrap64 (x5_1 + 1)), (by first | rfl | (simp; done) | (simp [*]; done)), H', ⟨by have := HK1.out; omega⟩, ⟨by repeat (first | (with_reducible first | exact HB.out | apply below_alloc | apply pw_below_drewN | apply below_drew1) | exact HB.out)⟩⟩
              · replace c11 := Bool.eq_false_iff.mpr c11
                subst c11
                have H1 : (some false) = some r := by rw [if_neg (show ¬ (false = true) by decide)] at H; exact H
                clear H
                have H := H1
                clear H1
                obtain rfl := Option.some.inj H
                go_wp2
                go_ret
                exact ⟨by first | rfl | (simp [errW_none, errW_some] <;> rfl) | (simp [*, errW_none, errW_some] <;> rfl), by repeat (first | (with_reducible first | exact HB.out | apply below_alloc | apply pw_below_drewN | apply below_drew1) | exact HB.out)⟩
            · rw [if_neg c6] at H
              exact absurd H (by simp)
          · rw [if_neg c5] at H
            exact absurd H (by simp)
        · rw [if_neg c4] at H
          have c4b0 : decide (x5_1 < (l0.length : Int)) = false := decide_eq_false c4
          clear c4
          obtain rfl := Option.some.inj H
          go_wp2
          go_ret
          exact ⟨by first | rfl | (simp [errW_none, errW_some] <;> rfl) | (simp [*, errW_none, errW_some] <;> rfl), by repeat (first | (with_reducible first | exact HB.out | apply below_alloc | apply pw_below_drewN | apply below_drew1) | exact HB.out)⟩
  · rw [if_neg c3] at H
    have c3b0 : ((l0.length : Int) == (l1.length : Int)) = false := beq_eq_false_iff_ne.mpr c3
    have c3b1 : ((l0.length : Int) != (l1.length : Int)) = true := bne_iff_ne.mpr c3
    have c3b2 : (l0.length == l1.length) = false := by first | simpa using c3 | (simp at c3 ⊢; omega)
    obtain rfl := Option.some.inj H
    go_enter Try.func86, Try.ntmps86
    go_wp2
    go_ret
    exact ⟨by first | rfl | (simp [errW_none, errW_some] <;> rfl) | (simp [*, errW_none, errW_some] <;> rfl), by repeat (first | (with_reducible first | exact HB.out | apply below_alloc | apply pw_below_drewN | apply below_drew1) | exact HB.out)⟩


end Go.Proofs.Ytelmcjohkifeeaa.PA

namespace Go.Proofs.Ytelmcjohkifeeaa.PA
open Go.RowKit Go.Proofs.YtelmcjohkifeeaaW.PrintWords Go.Proofs.YtelmcjohkifeeaaW.PrintLast Go.Proofs.YtelmcjohkifeeaaW.PrintMore
attribute [local go_sem] max2_int min2_int max_two min_two max_three min_three max_four min_four   -- for this text's walks alone
set_option linter.unusedVariables false
set_option linter.unusedSimpArgs false
/-! ### laws_eqResponse: function 33 -/
def laws_eqResponse.f (k : Nat) (a0_0 : Int) (l0_1 : List (S146)) (a0_2 : ByteArray) (a1_0 : Int) (l1_1 : List (S146)) (a1_2 : ByteArray) : Option (Bool) := if a0_0 = a1_0 then ((laws_eqFieldS.f k l0_1 l1_1).bind fun t319 => (if t319 = true then (if a0_2.toList = a1_2.toList then (some true) else (some false)) else (some false))) else (some false)
theorem laws_eqResponse.mono : ∀ a0 a1 a2 a3 a4 a5 k, LeO (laws_eqResponse.f k a0 a1 a2 a3 a4 a5) (laws_eqResponse.f (k + 1) a0 a1 a2 a3 a4 a5) := by
  intro a0 a1 a2 a3 a4 a5 k
  unfold laws_eqResponse.f
  repeat' first
      | (with_reducible exact laws_eqFieldS.mono _ _ _)
      | (with_reducible exact LeO.refl _)
      | (with_reducible exact LeO.none _)
      | (with_reducible refine LeO.ite ?_ ?_)
      | (with_reducible refine LeO.bind ?_ (fun _ => ?_))
      | exact laws_eqFieldS.mono _ _ _
      | exact LeO.none _
      | refine LeO.ite ?_ ?_
      | refine LeO.bind ?_ (fun _ => ?_)
set_option maxHeartbeats 8000000 in
set_option maxRecDepth 100000 in
theorem laws_eqResponse.calls (k : Nat) (a0_0 : Int) (A0_1 : Option Addr) (c0_1 : Nat) (l0_1 : List (S146)) (a0_2 : ByteArray) (a1_0 : Int) (A1_1 : Option Addr) (c1_1 : Nat) (l1_1 : List (S146)) (a1_2 : ByteArray) (r : Bool) (w : World) (hr0_1 : Kd.C k146 w A0_1 l0_1.length l0_1) (hc0_1 : l0_1.length ≤ c0_1) (hr1_1 : Kd.C k146 w A1_1 l1_1.length l1_1) (hc1_1 : l1_1.length ≤ c1_1) (h : laws_eqResponse.f k a0_0 l0_1 a0_2 a1_0 l1_1 a1_2 = some r) :
    Calls Try.prog 33 #[.agg #[.int .i64 a0_0, .slice A0_1 l0_1.length c0_1, .string a0_2], .agg #[.int .i64 a1_0, .slice A1_1 l1_1.length c1_1, .string a1_2]] w fun e w' => e = .returned (.bool r) ∧ Below w.heap.size w w' := by
  have hu51 := Try.underlying51
  have HR0_1 := Aside0.mk hr0_1
  have HC0_1 := Aside0.mk hc0_1
  clear hr0_1 hc0_1
  have HR1_1 := Aside0.mk hr1_1
  have HC1_1 := Aside0.mk hc1_1
  clear hr1_1 hc1_1
  have HB := Aside0.mk (Below.refl w.heap.size w)
  have H : (if a0_0 = a1_0 then ((laws_eqFieldS.f k l0_1 l1_1).bind fun t319 => (if t319 = true then (if a0_2.toList = a1_2.toList then (some true) else (some false)) else (some false))) else (some false)) = some r := h
  clear h
  have HF3 := Aside0.mk H
  clear H
  go_enter Try.func33, Try.ntmps33
  go_upto_if 9 with (first | ((with_reducible refine gate_dst (N := 2) rfl ?_); refine box_event ?hg (N := 2) ?hd (cs := #[.int .i64 a0_0, .slice A0_1 l0_1.length c0_1, .string a0_2]) (t := 51) ?hr ?_; (case hd => rfl); (case hg => rfl); (case hr => first | (go_simp; done) | (go_simp; rfl)); intro gb317 hg w4 hbox hb; have n0_ := Aside0.mk (below_step (by repeat (first | (with_reducible first | exact HB.out | apply below_alloc | apply pw_below_drewN | apply below_drew1) | exact HB.out)) hb); have n1_ := Aside0.mk (hbox); have n2_ := Aside0.mk ((by rw [hg]; exact (below_size (by repeat (first | (with_reducible first | exact HB.out | apply below_alloc | apply pw_below_drewN | apply below_drew1) | exact HB.out))) : w.heap.size ≤ gb317)); have n3_ := Aside0.mk ((by rw [hg]; exact (below_size (by repeat (first | (with_reducible first | exact HB.out | apply below_alloc | apply pw_below_drewN | apply below_drew1) | exact HB.out))) : w.heap.size ≤ gb317)); clear HB; have HB := n0_; have BK317 := n1_; have GW317 := n2_; have GE317 := n3_; clear n0_ n1_ n2_ n3_; clear hb hbox hg) | ((with_reducible refine gate_dst (N := 3) rfl ?_); refine box_event ?hg (N := 3) ?hd (cs := #[.int .i64 a1_0, .slice A1_1 l1_1.length c1_1, .string a1_2]) (t := 51) ?hr ?_; (case hd => rfl); (case hg => rfl); (case hr => first | (go_simp; done) | (go_simp; rfl)); intro gb318 hg w5 hbox hb; have n0_ := Aside0.mk (blk_below (g := gb317) (o := .cells #[.int .i64 a0_0, .slice A0_1 l0_1.length c0_1, .string a0_2] 51 (0, 0)) (by (with_reducible repeat (first | refine blk_drewN ?_ _ | refine blk_drew ?_ | refine blk_alloc ?_ _)); exact BK317.out) hb); have n1_ := Aside0.mk (below_step (by repeat (first | (with_reducible first | exact HB.out | apply below_alloc | apply pw_below_drewN | apply below_drew1 | refine below_set ?_ GE317.out) | exact HB.out)) hb); have n2_ := Aside0.mk (hbox); have n3_ := Aside0.mk ((by rw [hg]; exact (below_size (by repeat (first | (with_reducible first | exact HB.out | apply below_alloc | apply pw_below_drewN | apply below_drew1 | refine below_set ?_ GE317.out) | exact HB.out))) : w.heap.size ≤ gb318)); have n4_ := Aside0.mk ((by rw [hg]; exact (below_size (by repeat (first | (with_reducible first | exact HB.out | apply below_alloc | apply pw_below_drewN | apply below_drew1 | refine below_set ?_ GE317.out) | exact HB.out))) : w.heap.size ≤ gb318)); have n5_ := Aside0.mk ((by rw [hg]; exact Nat.ne_of_lt (blk_lt (g := gb317) (o := .cells #[.int .i64 a0_0, .slice A0_1 l0_1.length c0_1, .string a0_2] 51 (0, 0)) (by (with_reducible repeat (first | refine blk_drewN ?_ _ | refine blk_drew ?_ | refine blk_alloc ?_ _)); exact BK317.out)) : gb317 ≠ gb318)); have n6_ := Aside0.mk ((by rw [hg]; exact Nat.ne_of_gt (blk_lt (g := gb317) (o := .cells #[.int .i64 a0_0, .slice A0_1 l0_1.length c0_1, .string a0_2] 51 (0, 0)) (by (with_reducible repeat (first | refine blk_drewN ?_ _ | refine blk_drew ?_ | refine blk_alloc ?_ _)); exact BK317.out)) : gb318 ≠ gb317)); clear BK317; clear HB; have BK317 := n0_; have HB := n1_; have BK318 := n2_; have GW318 := n3_; have GE318 := n4_; have NB317_318 := n5_; have NB318_317 := n6_; clear n0_ n1_ n2_ n3_ n4_ n5_ n6_; clear hb hbox hg; have hnb6 := NB317_318.out; have hnc6 := NB318_317.out; have hcz7_0 : w5.cell? ⟨gb317, 0, none⟩ = some (.int .i64 a0_0) := (blk_cell BK317.out 0).trans rfl; have hcz7_1 : w5.cell? ⟨gb317, 1, none⟩ = some (.slice A0_1 l0_1.length c0_1) := (blk_cell BK317.out 1).trans rfl; have hcz7_2 : w5.cell? ⟨gb317, 2, none⟩ = some (.string a0_2) := (blk_cell BK317.out 2).trans rfl; have hfz7_0 := blk_frozen BK317.out 0; have hfz7_1 := blk_frozen BK317.out 1; have hfz7_2 := blk_frozen BK317.out 2; have hcz8_0 : w5.cell? ⟨gb318, 0, none⟩ = some (.int .i64 a1_0) := (blk_cell BK318.out 0).trans rfl; have hcz8_1 : w5.cell? ⟨gb318, 1, none⟩ = some (.slice A1_1 l1_1.length c1_1) := (blk_cell BK318.out 1).trans rfl; have hcz8_2 : w5.cell? ⟨gb318, 2, none⟩ = some (.string a1_2) := (blk_cell BK318.out 2).trans rfl; have hfz8_0 := blk_frozen BK318.out 0; have hfz8_1 := blk_frozen BK318.out 1; have hfz8_2 := blk_frozen BK318.out 2))
  have H := HF3.out
  clear HF3
  by_cases c9 : a0_0 = a1_0
  · rw [if_pos c9] at H
    have c9b0 : (a0_0 == a1_0) = true := beq_iff_eq.mpr c9
    have c9b1 : (a0_0 != a1_0) = false := bne_eq_false_iff_eq.mpr c9
    clear c9
    (first | rw [c9b0] | (simp only [i64_w, i32_w]; rw [c9b0]) | skip)
    replace H := Option.bind_eq_some_iff.mp H
    obtain ⟨t319, A100, H⟩ := H
    replace H : (if t319 = true then (if a0_2.toList = a1_2.toList then (some true) else (some false)) else (some false)) = some r := H
    have A10 := Aside0.mk A100
    clear A100
    have HF11 := Aside0.mk H
    clear H
    have hnb12 := NB317_318.out
    have hnc12 := NB318_317.out
    have hcz13_0 : w5.cell? ⟨gb317, 0, none⟩ = some (.int .i64 a0_0) := (blk_cell BK317.out 0).trans rfl
    have hcz13_1 : w5.cell? ⟨gb317, 1, none⟩ = some (.slice A0_1 l0_1.length c0_1) := (blk_cell BK317.out 1).trans rfl
    have hcz13_2 : w5.cell? ⟨gb317, 2, none⟩ = some (.string a0_2) := (blk_cell BK317.out 2).trans rfl
    have hfz13_0 := blk_frozen BK317.out 0
    have hfz13_1 := blk_frozen BK317.out 1
    have hfz13_2 := blk_frozen BK317.out 2
    have hcz14_0 : w5.cell? ⟨gb318, 0, none⟩ = some (.int .i64 a1_0) := (blk_cell BK318.out 0).trans rfl
    have hcz14_1 : w5.cell? ⟨gb318, 1, none⟩ = some (.slice A1_1 l1_1.length c1_1) := (blk_cell BK318.out 1).trans rfl
    have hcz14_2 : w5.cell? ⟨gb318, 2, none⟩ = some (.string a1_2) := (blk_cell BK318.out 2).trans rfl
    have hfz14_0 := blk_frozen BK318.out 0
    have hfz14_1 := blk_frozen BK318.out 1
    have hfz14_2 := blk_frozen BK318.out 2
    go_upto_if 15 with (first | ((with_reducible refine gate_callee (f := 86) rfl ?_); refine goesL_ (some 14) rfl rfl Try.func86 (by kernel_rfl) rfl #[.slice A0_1 l0_1.length c0_1, .slice A1_1 l1_1.length c1_1] rfl (by (try simp only [List.map_toArray, List.map_cons, List.map_nil]); first | done | rfl | (simp only [List.length_drop, List.length_take]; rfl)) ?_; (with_reducible refine (laws_eqFieldS.calls k _ _ l0_1 _ _ l1_1 t319 _ ?side1 ?side2 ?side3 ?side4 A10.out).mono ?_); (case side1 => repeat (first | exact (Kd.C_below HR0_1.out HB.out) | (with_reducible refine Kd.C_alloc ?_ _) | (with_reducible refine Kd.C_drewN ?_ _) | (with_reducible refine Kd.C_drew ?_))); (case side2 => exact HC0_1.out); (case side3 => repeat (first | exact (Kd.C_below HR1_1.out HB.out) | (with_reducible refine Kd.C_alloc ?_ _) | (with_reducible refine Kd.C_drewN ?_ _) | (with_reducible refine Kd.C_drew ?_))); (case side4 => exact HC1_1.out); rintro e w15 ⟨rfl, hb⟩; refine ⟨_, rfl, ?_⟩; have n0_ := Aside0.mk (blk_below (g := gb317) (o := .cells #[.int .i64 a0_0, .slice A0_1 l0_1.length c0_1, .string a0_2] 51 (0, 0)) (by (with_reducible repeat (first | refine blk_drewN ?_ _ | refine blk_drew ?_ | refine blk_alloc ?_ _)); exact BK317.out) hb); have n1_ := Aside0.mk (blk_below (g := gb318) (o := .cells #[.int .i64 a1_0, .slice A1_1 l1_1.length c1_1, .string a1_2] 51 (0, 0)) (by (with_reducible repeat (first | refine blk_drewN ?_ _ | refine blk_drew ?_ | refine blk_alloc ?_ _)); exact BK318.out) hb); have n2_ := Aside0.mk (below_step (by repeat (first | (with_reducible first | exact HB.out | apply below_alloc | apply pw_below_drewN | apply below_drew1 | refine below_set ?_ GE317.out | refine below_set ?_ GE318.out) | exact HB.out)) hb); clear BK317; clear BK318; clear HB; have BK317 := n0_; have BK318 := n1_; have HB := n2_; clear n0_ n1_ n2_; (try clear hb); (try clear hb2); (try clear hk); (try clear hi)))
    have H := HF11.out
    clear HF11
    by_cases c16 : t319 = true
    · subst c16
      have H1 : (if a0_2.toList = a1_2.toList then (some true) else (some false)) = some r := by rw [if_pos rfl] at H; exact H
      clear H
      have H := H1
      clear H1
      have HF17 := Aside0.mk H
      clear H
      have hnb18 := NB317_318.out
      have hnc18 := NB318_317.out
      have hcz19_0 : w15.cell? ⟨gb317, 0, none⟩ = some (.int .i64 a0_0) := (blk_cell BK317.out 0).trans rfl
      have hcz19_1 : w15.cell? ⟨gb317, 1, none⟩ = some (.slice A0_1 l0_1.length c0_1) := (blk_cell BK317.out 1).trans rfl
      have hcz19_2 : w15.cell? ⟨gb317, 2, none⟩ = some (.string a0_2) := (blk_cell BK317.out 2).trans rfl
      have hfz19_0 := blk_frozen BK317.out 0
      have hfz19_1 := blk_frozen BK317.out 1
      have hfz19_2 := blk_frozen BK317.out 2
      have hcz20_0 : w15.cell? ⟨gb318, 0, none⟩ = some (.int .i64 a1_0) := (blk_cell BK318.out 0).trans rfl
      have hcz20_1 : w15.cell? ⟨gb318, 1, none⟩ = some (.slice A1_1 l1_1.length c1_1) := (blk_cell BK318.out 1).trans rfl
      have hcz20_2 : w15.cell? ⟨gb318, 2, none⟩ = some (.string a1_2) := (blk_cell BK318.out 2).trans rfl
      have hfz20_0 := blk_frozen BK318.out 0
      have hfz20_1 := blk_frozen BK318.out 1
      have hfz20_2 := blk_frozen BK318.out 2
      go_upto_if 20 with (fail)
      have H := HF17.out
      clear HF17
      by_cases c21 : a0_2.toList = a1_2.toList
      · rw [if_pos c21] at H
        have c21b0 : (a0_2.toList == a1_2.toList) = true := beq_iff_eq.mpr c21
        have c21b1 : (a0_2.toList != a1_2.toList) = false := bne_eq_false_iff_eq.mpr c21
        clear c21
        (first | rw [c21b0] | (simp only [i64_w, i32_w]; rw [c21b0]) | skip)
        obtain rfl := Option.some.inj H
        go_wp2
        go_ret
        exact ⟨by first | rfl | (simp [errW_none, errW_some] <;> rfl) | (simp [*, errW_none, errW_some] <;> rfl), by repeat (first | (with_reducible first | exact HB.out | apply below_alloc | apply pw_below_drewN | apply below_drew1 | refine below_set ?_ GE317.out | refine below_set ?_ GE318.out) | exact HB.out)⟩
      · rw [if_neg c21] at H
        have c21b0 : (a0_2.toList == a1_2.toList) = false := beq_eq_false_iff_ne.mpr c21
        have c21b1 : (a0_2.toList != a1_2.toList) = true := bne_iff_ne.mpr c21
        (first | rw [c21b0] | (simp only [i64_w, i32_w]; rw [c21b0]) | skip)
        obtain rfl := Option.some.inj H
        go_wp2
        go_ret
        exact ⟨by first | rfl | (simp [errW_none, errW_some] <;> rfl) | (simp [*, errW_none, errW_some] <;> rfl), by repeat (first | (with_reducible first | exact HB.out | apply below_alloc | apply pw_below_drewN | apply below_drew1 | refine below_set ?_ GE317.out | refine below_set ?_ GE318.out) | exact HB.out)⟩
    · replace c16 := Bool.eq_false_iff.mpr c16
      subst c16
      have H1 : (some false) = some r := by rw [if_neg (show ¬ (false = true) by decide)] at H; exact H
      clear H
      have H := H1
      clear H1
      obtain rfl := Option.some.inj H
      go_wp2
      go_ret
      exact ⟨by first | rfl | (simp [errW_none, errW_some] <;> rfl) | (simp [*, errW_none, errW_some] <;> rfl), by repeat (first | (with_reducible first | exact HB.out | apply below_alloc | apply pw_below_drewN | apply below_drew1 | refine below_set ?_ GE317.out | refine below_set ?_ GE318.out) | exact HB.out)⟩
  · rw [if_neg c9] at H
    have c9b0 : (a0_0 == a1_0) = false := beq_eq_false_iff_ne.mpr c9
    have c9b1 : (a0_0 != a1_0) = true := bne_iff_ne.mpr c9
    (first | rw [c9b0] | (simp only [i64_w, i32_w]; rw [c9b0]) | skip)
    obtain rfl := Option.some.inj H
    go_wp2
    go_ret
    exact ⟨by first | rfl | (simp [errW_none, errW_some] <;> rfl) | (simp [*, errW_none, errW_some] <;> rfl), by repeat (first | (with_reducible first | exact HB.out | apply below_alloc | apply pw_below_drewN | apply below_drew1 | refine below_set ?_ GE317.out | refine below_set ?_ GE318.out) | exact HB.out)⟩


end Go.Proofs.Ytelmcjohkifeeaa.PA

namespace Go.Proofs.Ytelmcjohkifeeaa.PA
open Go.RowKit Go.Proofs.YtelmcjohkifeeaaW.PrintWords Go.Proofs.YtelmcjohkifeeaaW.PrintLast Go.Proofs.YtelmcjohkifeeaaW.PrintMore
attribute [local go_sem] max2_int min2_int max_two min_two max_three min_three max_four min_four   -- for this text's walks alone
set_option linter.unusedVariables false
set_option linter.unusedSimpArgs false
/-! ### laws_eqPiece: function 125 -/
def laws_eqPiece.f (a0_0 : Int) (a0_1 : ByteArray) (a1_0 : Int) (a1_1 : ByteArray) : Option (Bool) := if a0_0 = a1_0 then (if a0_1.toList = a1_1.toList then (some true) else (some false)) else (some false)
set_option maxHeartbeats 8000000 in
set_option maxRecDepth 100000 in
theorem laws_eqPiece.calls (a0_0 : Int) (a0_1 : ByteArray) (a1_0 : Int) (a1_1 : ByteArray) (r : Bool) (w : World) (h : laws_eqPiece.f a0_0 a0_1 a1_0 a1_1 = some r) :
    Calls Try.prog 125 #[.agg #[.int .i64 a0_0, .string a0_1], .agg #[.int .i64 a1_0, .string a1_1]] w fun e w' => e = .returned (.bool r) ∧ Below w.heap.size w w' := by
  have hu133 := Try.underlying133
  have HB := Aside0.mk (Below.refl w.heap.size w)
  have H : (if a0_0 = a1_0 then (if a0_1.toList = a1_1.toList then (some true) else (some false)) else (some false)) = some r := h
  clear h
  have HF3 := Aside0.mk H
  clear H
  go_enter Try.func125, Try.ntmps125
  go_upto_if 9 with (first | ((with_reducible refine gate_dst (N := 2) rfl ?_); refine box_event ?hg (N := 2) ?hd (cs := #[.int .i64 a0_0, .string a0_1]) (t := 133) ?hr ?_; (case hd => rfl); (case hg => rfl); (case hr => first | (go_simp; done) | (go_simp; rfl)); intro gb482 hg w4 hbox hb; have n0_ := Aside0.mk (below_step (by repeat (first | (with_reducible first | exact HB.out | apply below_alloc | apply pw_below_drewN | apply below_drew1) | exact HB.out)) hb); have n1_ := Aside0.mk (hbox); have n2_ := Aside0.mk ((by rw [hg]; exact (below_size (by repeat (first | (with_reducible first | exact HB.out | apply below_alloc | apply pw_below_drewN | apply below_drew1) | exact HB.out))) : w.heap.size ≤ gb482)); have n3_ := Aside0.mk ((by rw [hg]; exact (below_size (by repeat (first | (with_reducible first | exact HB.out | apply below_alloc | apply pw_below_drewN | apply below_drew1) | exact HB.out))) : w.heap.size ≤ gb482)); clear HB; have HB := n0_; have BK482 := n1_; have GW482 := n2_; have GE482 := n3_; clear n0_ n1_ n2_ n3_; clear hb hbox hg) | ((with_reducible refine gate_dst (N := 3) rfl ?_); refine box_event ?hg (N := 3) ?hd (cs := #[.int .i64 a1_0, .string a1_1]) (t := 133) ?hr ?_; (case hd => rfl); (case hg => rfl); (case hr => first | (go_simp; done) | (go_simp; rfl)); intro gb483 hg w5 hbox hb; have n0_ := Aside0.mk (blk_below (g := gb482) (o := .cells #[.int .i64 a0_0, .string a0_1] 133 (0, 0)) (by (with_reducible repeat (first | refine blk_drewN ?_ _ | refine blk_drew ?_ | refine blk_alloc ?_ _)); exact BK482.out) hb); have n1_ := Aside0.mk (below_step (by repeat (first | (with_reducible first | exact HB.out | apply below_alloc | apply pw_below_drewN | apply below_drew1 | refine below_set ?_ GE482.out) | exact HB.out)) hb); have n2_ := Aside0.mk (hbox); have n3_ := Aside0.mk ((by rw [hg]; exact (below_size (by repeat (first | (with_reducible first | exact HB.out | apply below_alloc | apply pw_below_drewN | apply below_drew1 | refine below_set ?_ GE482.out) | exact HB.out))) : w.heap.size ≤ gb483)); have n4_ := Aside0.mk ((by rw [hg]; exact (below_size (by repeat (first | (with_reducible first | exact HB.out | apply below_alloc | apply pw_below_drewN | apply below_drew1 | refine below_set ?_ GE482.out) | exact HB.out))) : w.heap.size ≤ gb483)); have n5_ := Aside0.mk ((by rw [hg]; exact Nat.ne_of_lt (blk_lt (g := gb482) (o := .cells #[.int .i64 a0_0, .string a0_1] 133 (0, 0)) (by (with_reducible repeat (first | refine blk_drewN ?_ _ | refine blk_drew ?_ | refine blk_alloc ?_ _)); exact BK482.out)) : gb482 ≠ gb483)); have n6_ := Aside0.mk ((by rw [hg]; exact Nat.ne_of_gt (blk_lt (g := gb482) (o := .cells #[.int .i64 a0_0, .string a0_1] 133 (0, 0)) (by (with_reducible repeat (first | refine blk_drewN ?_ _ | refine blk_drew ?_ | refine blk_alloc ?_ _)); exact BK482.out)) : gb483 ≠ gb482)); clear BK482; clear HB; have BK482 := n0_; have HB := n1_; have BK483 := n2_; have GW483 := n3_; have GE483 := n4_; have NB482_483 := n5_; have NB483_482 := n6_; clear n0_ n1_ n2_ n3_ n4_ n5_ n6_; clear hb hbox hg; have hnb6 := NB482_483.out; have hnc6 := NB483_482.out; have hcz7_0 : w5.cell? ⟨gb482, 0, none⟩ = some (.int .i64 a0_0) := (blk_cell BK482.out 0).trans rfl; have hcz7_1 : w5.cell? ⟨gb482, 1, none⟩ = some (.string a0_1) := (blk_cell BK482.out 1).trans rfl; have hfz7_0 := blk_frozen BK482.out 0; have hfz7_1 := blk_frozen BK482.out 1; have hcz8_0 : w5.cell? ⟨gb483, 0, none⟩ = some (.int .i64 a1_0) := (blk_cell BK483.out 0).trans rfl; have hcz8_1 : w5.cell? ⟨gb483, 1, none⟩ = some (.string a1_1) := (blk_cell BK483.out 1).trans rfl; have hfz8_0 := blk_frozen BK483.out 0; have hfz8_1 := blk_frozen BK483.out 1))
  have H := HF3.out
  clear HF3
  by_cases c9 : a0_0 = a1_0
  · rw [if_pos c9] at H
    have c9b0 : (a0_0 == a1_0) = true := beq_iff_eq.mpr c9
    have c9b1 : (a0_0 != a1_0) = false := bne_eq_false_iff_eq.mpr c9
    clear c9
    (first | rw [c9b0] | (simp only [i64_w, i32_w]; rw [c9b0]) | skip)
    have HF10 := Aside0.mk H
    clear H
    have hnb11 := NB482_483.out
    have hnc11 := NB483_482.out
    have hcz12_0 : w5.cell? ⟨gb482, 0, none⟩ = some (.int .i64 a0_0) := (blk_cell BK482.out 0).trans rfl
    have hcz12_1 : w5.cell? ⟨gb482, 1, none⟩ = some (.string a0_1) := (blk_cell BK482.out 1).trans rfl
    have hfz12_0 := blk_frozen BK482.out 0
    have hfz12_1 := blk_frozen BK482.out 1
    have hcz13_0 : w5.cell? ⟨gb483, 0, none⟩ = some (.int .i64 a1_0) := (blk_cell BK483.out 0).trans rfl
    have hcz13_1 : w5.cell? ⟨gb483, 1, none⟩ = some (.string a1_1) := (blk_cell BK483.out 1).trans rfl
    have hfz13_0 := blk_frozen BK483.out 0
    have hfz13_1 := blk_frozen BK483.out 1
    go_upto_if 14 with (fail)
    have H := HF10.out
    clear HF10
    by_cases c14 : a0_1.toList = a1_1.toList
    · rw [if_pos c14] at H
      have c14b0 : (a0_1.toList == a1_1.toList) = true := beq_iff_eq.mpr c14
      have c14b1 : (a0_1.toList != a1_1.toList) = false := bne_eq_false_iff_eq.mpr c14
      clear c14
      (first | rw [c14b0] | (simp only [i64_w, i32_w]; rw [c14b0]) | skip)
      obtain rfl := Option.some.inj H
      go_wp2
      go_ret
      exact ⟨by first | rfl | (simp [errW_none, errW_some] <;> rfl) | (simp [*, errW_none, errW_some] <;> rfl), by repeat (first | (with_reducible first | exact HB.out | apply below_alloc | apply pw_below_drewN | apply below_drew1 | refine below_set ?_ GE482.out | refine below_set ?_ GE483.out) | exact HB.out)⟩
    · rw [if_neg c14] at H
      have c14b0 : (a0_1.toList == a1_1.toList) = false := beq_eq_false_iff_ne.mpr c14
      have c14b1 : (a0_1.toList != a1_1.toList) = true := bne_iff_ne.mpr c14
      (first | rw [c14b0] | (simp only [i64_w, i32_w]; rw [c14b0]) | skip)
      obtain rfl := Option.some.inj H
      go_wp2
      go_ret
      exact ⟨by first | rfl | (simp [errW_none, errW_some] <;> rfl) | (simp [*, errW_none, errW_some] <;> rfl), by repeat (first | (with_reducible first | exact HB.out | apply below_alloc | apply pw_below_drewN | apply below_drew1 | refine below_set ?_ GE482.out | refine below_set ?_ GE483.out) | exact HB.out)⟩
  · rw [if_neg c9] at H
    have c9b0 : (a0_0 == a1_0) = false := beq_eq_false_iff_ne.mpr c9
    have c9b1 : (a0_0 != a1_0) = true := bne_iff_ne.mpr c9
    (first | rw [c9b0] | (simp only [i64_w, i32_w]; rw [c9b0]) | skip)
    obtain rfl := Option.some.inj H
    go_wp2
    go_ret
    exact ⟨by first | rfl | (simp [errW_none, errW_some] <;> rfl) | (simp [*, errW_none, errW_some] <;> rfl), by repeat (first | (with_reducible first | exact HB.out | apply below_alloc | apply pw_below_drewN | apply below_drew1 | refine below_set ?_ GE482.out | refine below_set ?_ GE483.out) | exact HB.out)⟩


end Go.Proofs.Ytelmcjohkifeeaa.PA

namespace Go.Proofs.Ytelmcjohkifeeaa.PA
open Go.RowKit Go.Proofs.YtelmcjohkifeeaaW.PrintWords Go.Proofs.YtelmcjohkifeeaaW.PrintLast Go.Proofs.YtelmcjohkifeeaaW.PrintMore
attribute [local go_sem] max2_int min2_int max_two min_two max_three min_three max_four min_four   -- for this text's walks alone
set_option linter.unusedVariables false
set_option linter.unusedSimpArgs false
/-! ### laws_eqPieceS: function 97 -/
def laws_eqPieceS.l0 : Nat → List (S133) → List (S133) → Int → Option (Bool)
  | 0, _, _, _ => none
  | k + 1, x0, x1, x5 => if x5 < (x0.length : Int) then (if 0 ≤ x5 then (if x5 < (x1.length : Int) then ((laws_eqPiece.f ((rd_T133 x0 x5).f0) ((rd_T133 x0 x5).f1) ((rd_T133 x1 x5).f0) ((rd_T133 x1 x5).f1)).bind fun t486 => (if t486 = true then (laws_eqPieceS.l0 k x0 x1 (wrap64 (x5 + 1))) else (some false))) else (none)) else (none)) else (some true)
def laws_eqPieceS.f (k : Nat) (l0 : List (S133)) (l1 : List (S133)) : Option (Bool) := if (l0.length : Int) = (l1.length : Int) then (laws_eqPieceS.l0 k l0 l1 0) else (some false)
theorem laws_eqPieceS.mono_l : ∀ k, (∀ y0 y1 y2, LeO (laws_eqPieceS.l0 k y0 y1 y2) (laws_eqPieceS.l0 (k + 1) y0 y1 y2))
  | 0 => fun _ _ _ r h => by simp [laws_eqPieceS.l0] at h
  | k + 1 => by
    have ih0 := laws_eqPieceS.mono_l k
    · intro y0 y1 y2
      unfold laws_eqPieceS.l0
      repeat' first
      | (with_reducible exact ih0 _ _ _)
      | (with_reducible exact LeO.refl _)
      | (with_reducible exact LeO.none _)
      | (with_reducible refine LeO.ite ?_ ?_)
      | (with_reducible refine LeO.bind ?_ (fun _ => ?_))
      | exact ih0 _ _ _
      | exact LeO.none _
      | refine LeO.ite ?_ ?_
      | refine LeO.bind ?_ (fun _ => ?_)
theorem laws_eqPieceS.mono : ∀ a0 a1 k, LeO (laws_eqPieceS.f k a0 a1) (laws_eqPieceS.f (k + 1) a0 a1) := by
  intro a0 a1 k
  have ih0 := laws_eqPieceS.mono_l k
  unfold laws_eqPieceS.f
  repeat' first
      | (with_reducible exact ih0 _ _ _)
      | (with_reducible exact LeO.refl _)
      | (with_reducible exact LeO.none _)
      | (with_reducible refine LeO.ite ?_ ?_)
      | (with_reducible refine LeO.bind ?_ (fun _ => ?_))
      | exact ih0 _ _ _
      | exact LeO.none _
      | refine LeO.ite ?_ ?_
      | refine LeO.bind ?_ (fun _ => ?_)
def laws_eqPieceS.T6 : Bool × List (List Nat × List Nat) := (true, [([], []), ([], []), ([0, 1], [0, 1]), ([2], [2]), ([], []), ([], []), ([4, 5], [4, 5]), ([6], [6]), ([3, 7], [3, 7]), ([8], [8])])
def laws_eqPieceS.B6 : List Nat := [0, 0, 3, 7, 0, 0, 48, 112, 255, 511]
theorem laws_eqPieceS.tab6 : rtab .any (opsOf Try.f97 6) = laws_eqPieceS.T6 := by kernel_rfl
theorem laws_eqPieceS.bits6 : waitsOk laws_eqPieceS.T6.2 laws_eqPieceS.B6 = true := by kernel_rfl
set_option maxHeartbeats 8000000 in
set_option maxRecDepth 100000 in
theorem laws_eqPieceS.calls (k : Nat) (A0 : Option Addr) (c0 : Nat) (l0 : List (S133)) (A1 : Option Addr) (c1 : Nat) (l1 : List (S133)) (r : Bool) (w : World) (hr0 : Kd.C k133 w A0 l0.length l0) (hc0 : l0.length ≤ c0) (hr1 : Kd.C k133 w A1 l1.length l1) (hc1 : l1.length ≤ c1) (h : laws_eqPieceS.f k l0 l1 = some r) :
    Calls Try.prog 97 #[.slice A0 l0.length c0, .slice A1 l1.length c1] w fun e w' => e = .returned (.bool r) ∧ Below w.heap.size w w' := by
  have hu133 := Try.underlying133
  have HR0 := Aside0.mk hr0
  have HC0 := Aside0.mk hc0
  clear hr0 hc0
  have HR1 := Aside0.mk hr1
  have HC1 := Aside0.mk hc1
  clear hr1 hc1
  have HB := Aside0.mk (Below.refl w.heap.size w)
  have H : (if (l0.length : Int) = (l1.length : Int) then (laws_eqPieceS.l0 k l0 l1 0) else (some false)) = some r := h
  clear h
  by_cases c3 : (l0.length : Int) = (l1.length : Int)
  · rw [if_pos c3] at H
    have c3b0 : ((l0.length : Int) == (l1.length : Int)) = true := beq_iff_eq.mpr c3
    have c3b1 : ((l0.length : Int) != (l1.length : Int)) = false := bne_eq_false_iff_eq.mpr c3
    have c3b2 : (l0.length == l1.length) = true := by first | simpa using c3 | (simp at c3 ⊢; omega)
    clear c3
    have H' := Aside0.mk H
    clear H
    go_enter Try.func97, Try.ntmps97
    go_wp2
    go_loopg [5] k (fun kq v5 w' => ∃ (x5_1 : Int), v5 = .int .i64 x5_1 ∧ Aside0 (laws_eqPieceS.l0 kq l0 l1 x5_1 = some r) ∧ Aside0 (kq ≤ k) ∧ Aside0 (Below w.heap.size w w'))
    case atStart => exact ⟨(0), (by first | rfl | (simp; done) | (simp [*]; done)), H', ⟨Nat.le_refl _⟩, ⟨by repeat (first | (with_reducible first | exact HB.out | apply below_alloc | apply pw_below_drewN | apply below_drew1) | exact HB.out)⟩⟩
    case round =>
      clear H'
      try clear c1
      try clear p2
      try clear c3
      try clear c3b0
      try clear c3b1
      try clear c3b2
      obtain ⟨x5_1, rfl, HA, HK1, HB⟩ := hrel
      cases gk with
      | zero => exact absurd HA.out (by simp [laws_eqPieceS.l0])
      | succ k1 =>
        have H := HA.out
        clear HA
        simp only [laws_eqPieceS.l0] at H
        by_cases c4 : x5_1 < (l0.length : Int)
        · rw [if_pos c4] at H
          have c4b0 : decide (x5_1 < (l0.length : Int)) = true := decide_eq_true c4
          clear c4
          by_cases c5 : 0 ≤ x5_1
          · rw [if_pos c5] at H
            have c5b0 : decide (0 ≤ x5_1) = true := decide_eq_true c5
            clear c5
            by_cases c6 : x5_1 < (l1.length : Int)
            · rw [if_pos c6] at H
              have c6b0 : decide (x5_1 < (l1.length : Int)) = true := decide_eq_true c6
              clear c6
              replace H := Option.bind_eq_some_iff.mp H
              obtain ⟨t486, A70, H⟩ := H
              replace H : (if t486 = true then (laws_eqPieceS.l0 k1 l0 l1 (wrap64 (x5_1 + 1))) else (some false)) = some r := H
              have A7 := Aside0.mk A70
              clear A70
              have HF8 := Aside0.mk H
              clear H
              try go_wp2
              have n0_ := Aside0.mk (below_drew1 HB.out)
              clear HB
              have HB := n0_
              clear n0_
              have p484 : 0 ≤ (x5_1 : Int) := of_decide_eq_true (by first | (with_reducible assumption) | assumption)
              have q484 : x5_1 < (l0.length : Int) := of_decide_eq_true (by first | (with_reducible assumption) | assumption)
              obtain ⟨ad484, e484, hx484_0, hx484_1⟩ := at_T133 HR0.out x5_1 p484 q484
              have hw484_1 := hx484_1
              have hw484_0 := hx484_0
              cases e484
              replace hx484_0 := (HB.out.cell (World.block_lt_of_cell? w _ hx484_0)).trans hx484_0
              replace hx484_1 := (HB.out.cell (World.block_lt_of_cell? w _ hx484_1)).trans hx484_1
              replace p484 := eq_true p484
              replace q484 := eq_true q484
              have p485 : 0 ≤ (x5_1 : Int) := of_decide_eq_true (by first | (with_reducible assumption) | assumption)
              have q485 : x5_1 < (l1.length : Int) := of_decide_eq_true (by first | (with_reducible assumption) | assumption)
              obtain ⟨ad485, e485, hx485_0, hx485_1⟩ := at_T133 HR1.out x5_1 p485 q485
              have hw485_1 := hx485_1
              have hw485_0 := hx485_0
              cases e485
              replace hx485_0 := (HB.out.cell (World.block_lt_of_cell? w _ hx485_0)).trans hx485_0
              replace hx485_1 := (HB.out.cell (World.block_lt_of_cell? w _ hx485_1)).trans hx485_1
              replace p485 := eq_true p485
              replace q485 := eq_true q485
              refine start_ (n := 10) (S := fun w' => w'.cell? (ad484.add ((x5_1).toNat * 2)) = some (.int .i64 ((rd_T133 l0 x5_1).f0)) ∧ w'.cell? ⟨(ad484.add ((x5_1).toNat * 2)).block, (ad484.add ((x5_1).toNat * 2)).off + 1, none⟩ = some (.string ((rd_T133 l0 x5_1).f1)) ∧ w'.cell? (ad485.add ((x5_1).toNat * 2)) = some (.int .i64 ((rd_T133 l1 x5_1).f0)) ∧ w'.cell? ⟨(ad485.add ((x5_1).toNat * 2)).block, (ad485.add ((x5_1).toNat * 2)).off + 1, none⟩ = some (.string ((rd_T133 l1 x5_1).f1))) (ds := []) #[false, false, false, false, false, false, false, false, false, false] (by kernel_rfl) rfl rfl ⟨((HB.out.cell (World.block_lt_of_cell? w _ hw484_0)).trans hw484_0), ((HB.out.cell (World.block_lt_of_cell? w _ hw484_1)).trans hw484_1), ((HB.out.cell (World.block_lt_of_cell? w _ hw485_0)).trans hw485_0), ((HB.out.cell (World.block_lt_of_cell? w _ hw485_1)).trans hw485_1)⟩ (fun hHeld => ?_); refine with_tabW laws_eqPieceS.tab6 laws_eqPieceS.bits6 (fun HT_ HW_ => ?_)
              generalize wr.drew = w9 at HB hx484_0 hx484_1 hx485_0 hx485_1 hHeld ⊢
              refine pure_ (i := 0) (N := some 17) (v := ?_) (a' := ?_) #[true, false, false, false, false, false, false, false, false, false] rfl rfl (any_of HT_.out (by kernel_rfl)) (fun _ _ _ h => h) (Or.inl ⟨by rfl, ?_⟩) ?_ ?_
              rotate_left
              · intro w'
                go_simp
                with_reducible rfl
              rotate_left
              · simp only [Act.put, List.setIfInBounds_toArray, List.set_cons_zero, List.set_cons_succ, i64_w, i32_w]
                rfl
              refine pure_ (i := 1) (N := some 18) (v := ?_) (a' := ?_) #[true, true, false, false, false, false, false, false, false, false] rfl rfl (any_of HT_.out (by kernel_rfl)) (fun _ _ _ h => h) (Or.inl ⟨by rfl, ?_⟩) ?_ ?_
              rotate_left
              · intro w'
                go_simp
                with_reducible rfl
              rotate_left
              · simp only [Act.put, List.setIfInBounds_toArray, List.set_cons_zero, List.set_cons_succ, i64_w, i32_w]
                rfl
              refine pure_ (i := 2) (N := some 19) (v := ?_) (a' := ?_) #[true, true, true, false, false, false, false, false, false, false] rfl rfl (any_of HT_.out (by kernel_rfl)) (fun _ _ _ h => h) (Or.inl ⟨by rfl, ?_⟩) ?_ ?_
              rotate_left
              · intro w'
                go_simp
                with_reducible rfl
              rotate_left
              · simp only [Act.put, List.setIfInBounds_toArray, List.set_cons_zero, List.set_cons_succ, i64_w, i32_w]
                rfl
              refine pure_ (i := 4) (N := some 21) (v := ?_) (a' := ?_) #[true, true, true, false, true, false, false, false, false, false] rfl rfl (any_of HT_.out (by kernel_rfl)) (fun _ _ _ h => h) (Or.inl ⟨by rfl, ?_⟩) ?_ ?_
              rotate_left
              · intro w'
                go_simp
                with_reducible rfl
              rotate_left
              · simp only [Act.put, List.setIfInBounds_toArray, List.set_cons_zero, List.set_cons_succ, i64_w, i32_w]
                rfl
              refine pure_ (i := 5) (N := some 22) (v := ?_) (a' := ?_) #[true, true, true, false, true, true, false, false, false, false] rfl rfl (any_of HT_.out (by kernel_rfl)) (fun _ _ _ h => h) (Or.inl ⟨by rfl, ?_⟩) ?_ ?_
              rotate_left
              · intro w'
                go_simp
                with_reducible rfl
              rotate_left
              · simp only [Act.put, List.setIfInBounds_toArray, List.set_cons_zero, List.set_cons_succ, i64_w, i32_w]
                rfl
              refine pure_ (i := 6) (N := some 23) (v := ?_) (a' := ?_) #[true, true, true, false, true, true, true, false, false, false] rfl rfl (any_of HT_.out (by kernel_rfl)) (fun _ _ _ h => h) (Or.inl ⟨by rfl, ?_⟩) ?_ ?_
              rotate_left
              · intro w'
                go_simp
                with_reducible rfl
              rotate_left
              · simp only [Act.put, List.setIfInBounds_toArray, List.set_cons_zero, List.set_cons_succ, i64_w, i32_w]
                rfl
              refine take_ (i := 3) (N := some 20) (v := ?_) (a' := ?_) #[true, true, true, true, true, true, true, false, false, false] rfl rfl (take_ofW HT_.out HW_.out (by kernel_rfl)) (fun _ _ _ h => h) (Or.inl ⟨by rfl, ?_⟩) hHeld ?_ ?_
              rotate_left
              · rintro w' ⟨s0, s1, s2, s3⟩
                go_simp
                with_reducible rfl
              rotate_left
              · simp only [Act.put, List.setIfInBounds_toArray, List.set_cons_zero, List.set_cons_succ, i64_w, i32_w]
                rfl
              refine take_ (i := 7) (N := some 24) (v := ?_) (a' := ?_) #[true, true, true, true, true, true, true, true, false, false] rfl rfl (take_ofW HT_.out HW_.out (by kernel_rfl)) (fun _ _ _ h => h) (Or.inl ⟨by rfl, ?_⟩) hHeld ?_ ?_
              rotate_left
              · rintro w' ⟨s0, s1, s2, s3⟩
                go_simp
                with_reducible rfl
              rotate_left
              · simp only [Act.put, List.setIfInBounds_toArray, List.set_cons_zero, List.set_cons_succ, i64_w, i32_w]
                rfl
              refine one_ (i := 8) (N := some 25) #[true, true, true, true, true, true, true, true, true, false] rfl rfl (one_of HT_.out (by kernel_rfl)) (by decide) (fun K hK => ?_)
              refine goes_ Try.func125 (by kernel_rfl) rfl #[.agg #[.int .i64 ((rd_T133 l0 x5_1).f0), .string ((rd_T133 l0 x5_1).f1)], .agg #[.int .i64 ((rd_T133 l1 x5_1).f0), .string ((rd_T133 l1 x5_1).f1)]] (by rfl) rfl rfl (by (try simp only [List.map_toArray, List.map_cons, List.map_nil]); first | done | rfl | (simp only [List.length_drop, List.length_take]; rfl)) ?_
              with_reducible refine (laws_eqPiece.calls ((rd_T133 l0 x5_1).f0) ((rd_T133 l0 x5_1).f1) ((rd_T133 l1 x5_1).f0) ((rd_T133 l1 x5_1).f1) t486 _ A7.out).mono ?_
              rintro e w10 ⟨rfl, hb⟩
              refine ⟨_, rfl, ?_⟩
              have n0_ := Aside0.mk (below_step (by repeat (first | (with_reducible first | exact HB.out | apply below_alloc | apply pw_below_drewN | apply below_drew1) | exact HB.out)) hb)
              clear HB
              have HB := n0_
              clear n0_
              (try clear hb)
              (try clear hb2)
              (try clear hk)
              (try clear hi)
              refine hK.out _ _ ⟨((HB.out.cell (World.block_lt_of_cell? w _ hw484_0)).trans hw484_0), ((HB.out.cell (World.block_lt_of_cell? w _ hw484_1)).trans hw484_1), ((HB.out.cell (World.block_lt_of_cell? w _ hw485_0)).trans hw485_0), ((HB.out.cell (World.block_lt_of_cell? w _ hw485_1)).trans hw485_1)⟩ (fun hHeld => ?_)
              clear hK K
              refine norm_ (a' := ?_) ?_ ?_
              rotate_left
              · show Act.put _ (some 25) _ = _
                simp only [Act.put, List.setIfInBounds_toArray, List.set_cons_zero, List.set_cons_succ, i64_w, i32_w]
                rfl
              refine pure_ (i := 9) (N := some 26) (v := ?_) (a' := ?_) #[true, true, true, true, true, true, true, true, true, true] rfl rfl (any_of HT_.out (by kernel_rfl)) (fun _ _ _ h => h) (Or.inl ⟨by rfl, ?_⟩) ?_ ?_
              rotate_left
              · intro w'
                go_simp
                with_reducible rfl
              rotate_left
              · simp only [Act.put, List.setIfInBounds_toArray, List.set_cons_zero, List.set_cons_succ, i64_w, i32_w]
                rfl
              refine done_ (done_of HT_.out (by kernel_rfl)) ?_
              go_upto_if 26 with (fail)
              have H := HF8.out
              clear HF8
              by_cases c11 : t486 = true
              · subst c11
                have H1 : (laws_eqPieceS.l0 k1 l0 l1 (wrap64 (x5_1 + 1))) = some r := by rw [if_pos rfl] at H; exact H
                clear H
                have H := H1
                clear H1
                have H' := Aside0.mk H
                clear H
                go_wp2
                go_roundg k1
                case measure => have := HK1.out; omega
                case rel => exact ⟨(wrap64 (x5_1 + 1)), (by first | rfl | (simp; done) | (simp [*]; done)), H', ⟨by have := HK1.out; omega⟩, ⟨by repeat (first | (with_reducible first | exact HB.out | apply below_alloc | apply pw_below_drewN | apply below_drew1) | exact HB.out)⟩⟩
              · replace c11 := Bool.eq_false_iff.mpr c11
                subst c11
                have H1 : (some false) = some r := by rw [if_neg (show ¬ (false = true) by decide)] at H; exact H
                clear H
                have H := H1
                clear H1
                obtain rfl := Option.some.inj H
                go_wp2
                go_ret
                exact ⟨by first | rfl | (simp [errW_none, errW_some] <;> rfl) | (simp [*, errW_none, errW_some] <;> rfl), by repeat (first | (with_reducible first | exact HB.out | apply below_alloc | apply pw_below_drewN | apply below_drew1) | exact HB.out)⟩
            · rw [if_neg c6] at H
              exact absurd H (by simp)
          · rw [if_neg c5] at H
            exact absurd H (by simp)
        · rw [if_neg c4] at H
          have c4b0 : decide (x5_1 < (l0.length : Int)) = false := decide_eq_false c4
          clear c4
          obtain rfl := Option.some.inj H
          go_wp2
          go_ret
          exact ⟨by first | rfl | (simp [errW_none, errW_some] <;> rfl) | (simp [*, errW_none, errW_some] <;> rfl), by repeat (first | (with_reducible first | exact HB.out | apply below_alloc | apply pw_below_drewN | apply below_drew1) | exact HB.out)⟩
  · rw [if_neg c3] at H
    have c3b0 : ((l0.length : Int) == (l1.length : Int)) = false := beq_eq_false_iff_ne.mpr c3
    have c3b1 : ((l0.length : Int) != (l1.length : Int)) = true := bne_iff_ne.mpr c3
    have c3b2 : (l0.length == l1.length) = false := by first | simpa using c3 | (simp at c3 ⊢; omega)
    obtain rfl := Option.some.inj H
    go_enter Try.func97, Try.ntmps97
    go_wp2
    go_ret
    exact ⟨by first | rfl | (simp [errW_none, errW_some] <;> rfl) | (simp [*, errW_none, errW_some] <;> rfl), by repeat (first | (with_reducible first | exact HB.out | apply below_alloc | apply pw_below_drewN | apply below_drew1) | exact HB.out)⟩


end Go.Proofs.Ytelmcjohkifeeaa.PA

namespace Go.Proofs.Ytelmcjohkifeeaa.PA
open Go.RowKit Go.Proofs.YtelmcjohkifeeaaW.PrintWords Go.Proofs.YtelmcjohkifeeaaW.PrintLast Go.Proofs.YtelmcjohkifeeaaW.PrintMore
attribute [local go_sem] max2_int min2_int max_two min_two max_three min_three max_four min_four   -- for this text's walks alone
set_option linter.unusedVariables false
set_option linter.unusedSimpArgs false
/-! ### laws_eqEntry: function 44 -/
def laws_eqEntry.f (k : Nat) (a0_0 : ByteArray) (l0_1 : List (S146)) (a0_2 : Int) (l0_3 : List (S146)) (a0_4 : ByteArray) (l0_5 : List (S133)) (a0_6 : Int) (a0_7 : Int) (a0_8 : Int) (a0_9 : Int) (a1_0 : ByteArray) (l1_1 : List (S146)) (a1_2 : Int) (l1_3 : List (S146)) (a1_4 : ByteArray) (l1_5 : List (S133)) (a1_6 : Int) (a1_7 : Int) (a1_8 : Int) (a1_9 : Int) : Option (Bool) := if a0_0.toList = a1_0.toList then ((laws_eqFieldS.f k l0_1 l1_1).bind fun t489 => (if t489 = true then ((laws_eqResponse.f k a0_2 l0_3 a0_4 a1_2 l1_3 a1_4).bind fun t490 => (if t490 = true then ((laws_eqPieceS.f k l0_5 l1_5).bind fun t491 => (if t491 = true then (if a0_6 = a1_6 then (if a0_7 = a1_7 then (if a0_8 = a1_8 then (if a0_9 = a1_9 then (some true) else (some false)) else (some false)) else (some false)) else (some false)) else (some false))) else (some false))) else (some false))) else (some false)
theorem laws_eqEntry.mono : ∀ a0 a1 a2 a3 a4 a5 a6 a7 a8 a9 a10 a11 a12 a13 a14 a15 a16 a17 a18 a19 k, LeO (laws_eqEntry.f k a0 a1 a2 a3 a4 a5 a6 a7 a8 a9 a10 a11 a12 a13 a14 a15 a16 a17 a18 a19) (laws_eqEntry.f (k + 1) a0 a1 a2 a3 a4 a5 a6 a7 a8 a9 a10 a11 a12 a13 a14 a15 a16 a17 a18 a19) := by
  intro a0 a1 a2 a3 a4 a5 a6 a7 a8 a9 a10 a11 a12 a13 a14 a15 a16 a17 a18 a19 k
  unfold laws_eqEntry.f
  repeat' first
      | (with_reducible exact laws_eqFieldS.mono _ _ _)
      | (with_reducible exact laws_eqPieceS.mono _ _ _)
      | (with_reducible exact laws_eqResponse.mono _ _ _ _ _ _ _)
      | (with_reducible exact LeO.refl _)
      | (with_reducible exact LeO.none _)
      | (with_reducible refine LeO.ite ?_ ?_)
      | (with_reducible refine LeO.bind ?_ (fun _ => ?_))
      | exact laws_eqFieldS.mono _ _ _
      | exact laws_eqPieceS.mono _ _ _
      | exact laws_eqResponse.mono _ _ _ _ _ _ _
      | exact LeO.none _
      | refine LeO.ite ?_ ?_
      | refine LeO.bind ?_ (fun _ => ?_)
set_option maxHeartbeats 8000000 in
set_option maxRecDepth 100000 in
theorem laws_eqEntry.calls (k : Nat) (a0_0 : ByteArray) (A0_1 : Option Addr) (c0_1 : Nat) (l0_1 : List (S146)) (a0_2 : Int) (A0_3 : Option Addr) (c0_3 : Nat) (l0_3 : List (S146)) (a0_4 : ByteArray) (A0_5 : Option Addr) (c0_5 : Nat) (l0_5 : List (S133)) (a0_6 : Int) (a0_7 : Int) (a0_8 : Int) (a0_9 : Int) (a1_0 : ByteArray) (A1_1 : Option Addr) (c1_1 : Nat) (l1_1 : List (S146)) (a1_2 : Int) (A1_3 : Option Addr) (c1_3 : Nat) (l1_3 : List (S146)) (a1_4 : ByteArray) (A1_5 : Option Addr) (c1_5 : Nat) (l1_5 : List (S133)) (a1_6 : Int) (a1_7 : Int) (a1_8 : Int) (a1_9 : Int) (r : Bool) (w : World) (hr0_1 : Kd.C k146 w A0_1 l0_1.length l0_1) (hc0_1 : l0_1.length ≤ c0_1) (hr0_3 : Kd.C k146 w A0_3 l0_3.length l0_3) (hc0_3 : l0_3.length ≤ c0_3) (hr0_5 : Kd.C k133 w A0_5 l0_5.length l0_5) (hc0_5 : l0_5.length ≤ c0_5) (hr1_1 : Kd.C k146 w A1_1 l1_1.length l1_1) (hc1_1 : l1_1.length ≤ c1_1) (hr1_3 : Kd.C k146 w A1_3 l1_3.length l1_3) (hc1_3 : l1_3.length ≤ c1_3) (hr1_5 : Kd.C k133 w A1_5 l1_5.length l1_5) (hc1_5 : l1_5.length ≤ c1_5) (h : laws_eqEntry.f k a0_0 l0_1 a0_2 l0_3 a0_4 l0_5 a0_6 a0_7 a0_8 a0_9 a1_0 l1_1 a1_2 l1_3 a1_4 l1_5 a1_6 a1_7 a1_8 a1_9 = some r) :
    Calls Try.prog 44 #[.agg #[.string a0_0, .slice A0_1 l0_1.length c0_1, .int .i64 a0_2, .slice A0_3 l0_3.length c0_3, .string a0_4, .slice A0_5 l0_5.length c0_5, .int .i64 a0_6, .int .i64 a0_7, .int .i64 a0_8, .int .i64 a0_9], .agg #[.string a1_0, .slice A1_1 l1_1.length c1_1, .int .i64 a1_2, .slice A1_3 l1_3.length c1_3, .string a1_4, .slice A1_5 l1_5.length c1_5, .int .i64 a1_6, .int .i64 a1_7, .int .i64 a1_8, .int .i64 a1_9]] w fun e w' => e = .returned (.bool r) ∧ Below w.heap.size w w' := by
  have hu66 := Try.underlying66
  have hu51 := Try.underlying51
  have HR0_1 := Aside0.mk hr0_1
  have HC0_1 := Aside0.mk hc0_1
  clear hr0_1 hc0_1
  have HR0_3 := Aside0.mk hr0_3
  have HC0_3 := Aside0.mk hc0_3
  clear hr0_3 hc0_3
  have HR0_5 := Aside0.mk hr0_5
  have HC0_5 := Aside0.mk hc0_5
  clear hr0_5 hc0_5
  have HR1_1 := Aside0.mk hr1_1
  have HC1_1 := Aside0.mk hc1_1
  clear hr1_1 hc1_1
  have HR1_3 := Aside0.mk hr1_3
  have HC1_3 := Aside0.mk hc1_3
  clear hr1_3 hc1_3
  have HR1_5 := Aside0.mk hr1_5
  have HC1_5 := Aside0.mk hc1_5
  clear hr1_5 hc1_5
  have HB := Aside0.mk (Below.refl w.heap.size w)
  have H : (if a0_0.toList = a1_0.toList then ((laws_eqFieldS.f k l0_1 l1_1).bind fun t489 => (if t489 = true then ((laws_eqResponse.f k a0_2 l0_3 a0_4 a1_2 l1_3 a1_4).bind fun t490 => (if t490 = true then ((laws_eqPieceS.f k l0_5 l1_5).bind fun t491 => (if t491 = true then (if a0_6 = a1_6 then (if a0_7 = a1_7 then (if a0_8 = a1_8 then (if a0_9 = a1_9 then (some true) else (some false)) else (some false)) else (some false)) else (some false)) else (some false))) else (some false))) else (some false))) else (some false)) = some r := h
  clear h
  have HF3 := Aside0.mk H
  clear H
  go_enter Try.func44, Try.ntmps44
  go_upto_if 9 with (first | ((with_reducible refine gate_dst (N := 2) rfl ?_); refine box_event ?hg (N := 2) ?hd (cs := #[.string a0_0, .slice A0_1 l0_1.length c0_1, .int .i64 a0_2, .slice A0_3 l0_3.length c0_3, .string a0_4, .slice A0_5 l0_5.length c0_5, .int .i64 a0_6, .int .i64 a0_7, .int .i64 a0_8, .int .i64 a0_9]) (t := 66) ?hr ?_; (case hd => rfl); (case hg => rfl); (case hr => first | (go_simp; done) | (go_simp; rfl)); intro gb487 hg w4 hbox hb; have n0_ := Aside0.mk (below_step (by repeat (first | (with_reducible first | exact HB.out | apply below_alloc | apply pw_below_drewN | apply below_drew1) | exact HB.out)) hb); have n1_ := Aside0.mk (hbox); have n2_ := Aside0.mk ((by rw [hg]; exact (below_size (by repeat (first | (with_reducible first | exact HB.out | apply below_alloc | apply pw_below_drewN | apply below_drew1) | exact HB.out))) : w.heap.size ≤ gb487)); have n3_ := Aside0.mk ((by rw [hg]; exact (below_size (by repeat (first | (with_reducible first | exact HB.out | apply below_alloc | apply pw_below_drewN | apply below_drew1) | exact HB.out))) : w.heap.size ≤ gb487)); clear HB; have HB := n0_; have BK487 := n1_; have GW487 := n2_; have GE487 := n3_; clear n0_ n1_ n2_ n3_; clear hb hbox hg) | ((with_reducible refine gate_dst (N := 3) rfl ?_); refine box_event ?hg (N := 3) ?hd (cs := #[.string a1_0, .slice A1_1 l1_1.length c1_1, .int .i64 a1_2, .slice A1_3 l1_3.length c1_3, .string a1_4, .slice A1_5 l1_5.length c1_5, .int .i64 a1_6, .int .i64 a1_7, .int .i64 a1_8, .int .i64 a1_9]) (t := 66) ?hr ?_; (case hd => rfl); (case hg => rfl); (case hr => first | (go_simp; done) | (go_simp; rfl)); intro gb488 hg w5 hbox hb; have n0_ := Aside0.mk (blk_below (g := gb487) (o := .cells #[.string a0_0, .slice A0_1 l0_1.length c0_1, .int .i64 a0_2, .slice A0_3 l0_3.length c0_3, .string a0_4, .slice A0_5 l0_5.length c0_5, .int .i64 a0_6, .int .i64 a0_7, .int .i64 a0_8, .int .i64 a0_9] 66 (0, 0)) (by (with_reducible repeat (first | refine blk_drewN ?_ _ | refine blk_drew ?_ | refine blk_alloc ?_ _)); exact BK487.out) hb); have n1_ := Aside0.mk (below_step (by repeat (first | (with_reducible first | exact HB.out | apply below_alloc | apply pw_below_drewN | apply below_drew1 | refine below_set ?_ GE487.out) | exact HB.out)) hb); have n2_ := Aside0.mk (hbox); have n3_ := Aside0.mk ((by rw [hg]; exact (below_size (by repeat (first | (with_reducible first | exact HB.out | apply below_alloc | apply pw_below_drewN | apply below_drew1 | refine below_set ?_ GE487.out) | exact HB.out))) : w.heap.size ≤ gb488)); have n4_ := Aside0.mk ((by rw [hg]; exact (below_size (by repeat (first | (with_reducible first | exact HB.out | apply below_alloc | apply pw_below_drewN | apply below_drew1 | refine below_set ?_ GE487.out) | exact HB.out))) : w.heap.size ≤ gb488)); have n5_ := Aside0.mk ((by rw [hg]; exact Nat.ne_of_lt (blk_lt (g := gb487) (o := .cells #[.string a0_0, .slice A0_1 l0_1.length c0_1, .int .i64 a0_2, .slice A0_3 l0_3.length c0_3, .string a0_4, .slice A0_5 l0_5.length c0_5, .int .i64 a0_6, .int .i64 a0_7, .int .i64 a0_8, .int .i64 a0_9] 66 (0, 0)) (by (with_reducible repeat (first | refine blk_drewN ?_ _ | refine blk_drew ?_ | refine blk_alloc ?_ _)); exact BK487.out)) : gb487 ≠ gb488)); have n6_ := Aside0.mk ((by rw [hg]; exact Nat.ne_of_gt (blk_lt (g := gb487) (o := .cells #[.string a0_0, .slice A0_1 l0_1.length c0_1, .int .i64 a0_2, .slice A0_3 l0_3.length c0_3, .string a0_4, .slice A0_5 l0_5.length c0_5, .int .i64 a0_6, .int .i64 a0_7, .int .i64 a0_8, .int .i64 a0_9] 66 (0, 0)) (by (with_reducible repeat (first | refine blk_drewN ?_ _ | refine blk_drew ?_ | refine blk_alloc ?_ _)); exact BK487.out)) : gb488 ≠ gb487)); clear BK487; clear HB; have BK487 := n0_; have HB := n1_; have BK488 := n2_; have GW488 := n3_; have GE488 := n4_; have NB487_488 := n5_; have NB488_487 := n6_; clear n0_ n1_ n2_ n3_ n4_ n5_ n6_; clear hb hbox hg; have hnb6 := NB487_488.out; have hnc6 := NB488_487.out; have hcz7_0 : w5.cell? ⟨gb487, 0, none⟩ = some (.string a0_0) := (blk_cell BK487.out 0).trans rfl; have hcz7_1 : w5.cell? ⟨gb487, 1, none⟩ = some (.slice A0_1 l0_1.length c0_1) := (blk_cell BK487.out 1).trans rfl; have hcz7_2 : w5.cell? ⟨gb487, 2, none⟩ = some (.int .i64 a0_2) := (blk_cell BK487.out 2).trans rfl; have hcz7_3 : w5.cell? ⟨gb487, 3, none⟩ = some (.slice A0_3 l0_3.length c0_3) := (blk_cell BK487.out 3).trans rfl; have hcz7_4 : w5.cell? ⟨gb487, 4, none⟩ = some (.string a0_4) := (blk_cell BK487.out 4).trans rfl; have hcz7_5 : w5.cell? ⟨gb487, 5, none⟩ = some (.slice A0_5 l0_5.length c0_5) := (blk_cell BK487.out 5).trans rfl; have hcz7_6 : w5.cell? ⟨gb487, 6, none⟩ = some (.int .i64 a0_6) := (blk_cell BK487.out 6).trans rfl; have hcz7_7 : w5.cell? ⟨gb487, 7, none⟩ = some (.int .i64 a0_7) := (blk_cell BK487.out 7).trans rfl; have hcz7_8 : w5.cell? ⟨gb487, 8, none⟩ = some (.int .i64 a0_8) := (blk_cell BK487.out 8).trans rfl; have hcz7_9 : w5.cell? ⟨gb487, 9, none⟩ = some (.int .i64 a0_9) := (blk_cell BK487.out 9).trans rfl; have hfz7_0 := blk_frozen BK487.out 0; have hfz7_1 := blk_frozen BK487.out 1; have hfz7_2 := blk_frozen BK487.out 2; have hfz7_3 := blk_frozen BK487.out 3; have hfz7_4 := blk_frozen BK487.out 4; have hfz7_5 := blk_frozen BK487.out 5; have hfz7_6 := blk_frozen BK487.out 6; have hfz7_7 := blk_frozen BK487.out 7; have hfz7_8 := blk_frozen BK487.out 8; have hfz7_9 := blk_frozen BK487.out 9; have hcz8_0 : w5.cell? ⟨gb488, 0, none⟩ = some (.string a1_0) := (blk_cell BK488.out 0).trans rfl; have hcz8_1 : w5.cell? ⟨gb488, 1, none⟩ = some (.slice A1_1 l1_1.length c1_1) := (blk_cell BK488.out 1).trans rfl; have hcz8_2 : w5.cell? ⟨gb488, 2, none⟩ = some (.int .i64 a1_2) := (blk_cell BK488.out 2).trans rfl; have hcz8_3 : w5.cell? ⟨gb488, 3, none⟩ = some (.slice A1_3 l1_3.length c1_3) := (blk_cell BK488.out 3).trans rfl; have hcz8_4 : w5.cell? ⟨gb488, 4, none⟩ = some (.string a1_4) := (blk_cell BK488.out 4).trans rfl; have hcz8_5 : w5.cell? ⟨gb488, 5, none⟩ = some (.slice A1_5 l1_5.length c1_5) := (blk_cell BK488.out 5).trans rfl; have hcz8_6 : w5.cell? ⟨gb488, 6, none⟩ = some (.int .i64 a1_6) := (blk_cell BK488.out 6).trans rfl; have hcz8_7 : w5.cell? ⟨gb488, 7, none⟩ = some (.int .i64 a1_7) := (blk_cell BK488.out 7).trans rfl; have hcz8_8 : w5.cell? ⟨gb488, 8, none⟩ = some (.int .i64 a1_8) := (blk_cell BK488.out 8).trans rfl; have hcz8_9 : w5.cell? ⟨gb488, 9, none⟩ = some (.int .i64 a1_9) := (blk_cell BK488.out 9).trans rfl; have hfz8_0 := blk_frozen BK488.out 0; have hfz8_1 := blk_frozen BK488.out 1; have hfz8_2 := blk_frozen BK488.out 2; have hfz8_3 := blk_frozen BK488.out 3; have hfz8_4 := blk_frozen BK488.out 4; have hfz8_5 := blk_frozen BK488.out 5; have hfz8_6 := blk_frozen BK488.out 6; have hfz8_7 := blk_frozen BK488.out 7; have hfz8_8 := blk_frozen BK488.out 8; have hfz8_9 := blk_frozen BK488.out 9))
  have H := HF3.out
  clear HF3
  by_cases c9 : a0_0.toList = a1_0.toList
  · rw [if_pos c9] at H
    have c9b0 : (a0_0.toList == a1_0.toList) = true := beq_iff_eq.mpr c9
    have c9b1 : (a0_0.toList != a1_0.toList) = false := bne_eq_false_iff_eq.mpr c9
    clear c9
    (first | rw [c9b0] | (simp only [i64_w, i32_w]; rw [c9b0]) | skip)
    replace H := Option.bind_eq_some_iff.mp H
    obtain ⟨t489, A100, H⟩ := H
    replace H : (if t489 = true then ((laws_eqResponse.f k a0_2 l0_3 a0_4 a1_2 l1_3 a1_4).bind fun t490 => (if t490 = true then ((laws_eqPieceS.f k l0_5 l1_5).bind fun t491 => (if t491 = true then (if a0_6 = a1_6 then (if a0_7 = a1_7 then (if a0_8 = a1_8 then (if a0_9 = a1_9 then (some true) else (some false)) else (some false)) else (some false)) else (some false)) else (some false))) else (some false))) else (some false)) = some r := H
    have A10 := Aside0.mk A100
    clear A100
    have HF11 := Aside0.mk H
    clear H
    have hnb12 := NB487_488.out
    have hnc12 := NB488_487.out
    have hcz13_0 : w5.cell? ⟨gb487, 0, none⟩ = some (.string a0_0) := (blk_cell BK487.out 0).trans rfl
    have hcz13_1 : w5.cell? ⟨gb487, 1, none⟩ = some (.slice A0_1 l0_1.length c0_1) := (blk_cell BK487.out 1).trans rfl
    have hcz13_2 : w5.cell? ⟨gb487, 2, none⟩ = some (.int .i64 a0_2) := (blk_cell BK487.out 2).trans rfl
    have hcz13_3 : w5.cell? ⟨gb487, 3, none⟩ = some (.slice A0_3 l0_3.length c0_3) := (blk_cell BK487.out 3).trans rfl
    have hcz13_4 : w5.cell? ⟨gb487, 4, none⟩ = some (.string a0_4) := (blk_cell BK487.out 4).trans rfl
    have hcz13_5 : w5.cell? ⟨gb487, 5, none⟩ = some (.slice A0_5 l0_5.length c0_5) := (blk_cell BK487.out 5).trans rfl
    have hcz13_6 : w5.cell? ⟨gb487, 6, none⟩ = some (.int .i64 a0_6) := (blk_cell BK487.out 6).trans rfl
    have hcz13_7 : w5.cell? ⟨gb487, 7, none⟩ = some (.int .i64 a0_7) := (blk_cell BK487.out 7).trans rfl
    have hcz13_8 : w5.cell? ⟨gb487, 8, none⟩ = some (.int .i64 a0_8) := (blk_cell BK487.out 8).trans rfl
    have hcz13_9 : w5.cell? ⟨gb487, 9, none⟩ = some (.int .i64 a0_9) := (blk_cell BK487.out 9).trans rfl
    have hfz13_0 := blk_frozen BK487.out 0
    have hfz13_1 := blk_frozen BK487.out 1
    have hfz13_2 := blk_frozen BK487.out 2
    have hfz13_3 := blk_frozen BK487.out 3
    have hfz13_4 := blk_frozen BK487.out 4
    have hfz13_5 := blk_frozen BK487.out 5
    have hfz13_6 := blk_frozen BK487.out 6
    have hfz13_7 := blk_frozen BK487.out 7
    have hfz13_8 := blk_frozen BK487.out 8
    have hfz13_9 := blk_frozen BK487.out 9
    have hcz14_0 : w5.cell? ⟨gb488, 0, none⟩ = some (.string a1_0) := (blk_cell BK488.out 0).trans rfl
    have hcz14_1 : w5.cell? ⟨gb488, 1, none⟩ = some (.slice A1_1 l1_1.length c1_1) := (blk_cell BK488.out 1).trans rfl
    have hcz14_2 : w5.cell? ⟨gb488, 2, none⟩ = some (.int .i64 a1_2) := (blk_cell BK488.out 2).trans rfl
    have hcz14_3 : w5.cell? ⟨gb488, 3, none⟩ = some (.slice A1_3 l1_3.length c1_3) := (blk_cell BK488.out 3).trans rfl
    have hcz14_4 : w5.cell? ⟨gb488, 4, none⟩ = some (.string a1_4) := (blk_cell BK488.out 4).trans rfl
    have hcz14_5 : w5.cell? ⟨gb488, 5, none⟩ = some (.slice A1_5 l1_5.length c1_5) := (blk_cell BK488.out 5).trans rfl
    have hcz14_6 : w5.cell? ⟨gb488, 6, none⟩ = some (.int .i64 a1_6) := (blk_cell BK488.out 6).trans rfl
    have hcz14_7 : w5.cell? ⟨gb488, 7, none⟩ = some (.int .i64 a1_7) := (blk_cell BK488.out 7).trans rfl
    have hcz14_8 : w5.cell? ⟨gb488, 8, none⟩ = some (.int .i64 a1_8) := (blk_cell BK488.out 8).trans rfl
    have hcz14_9 : w5.cell? ⟨gb488, 9, none⟩ = some (.int .i64 a1_9) := (blk_cell BK488.out 9).trans rfl
    have hfz14_0 := blk_frozen BK488.out 0
    have hfz14_1 := blk_frozen BK488.out 1
    have hfz14_2 := blk_frozen BK488.out 2
    have hfz14_3 := blk_frozen BK488.out 3
    have hfz14_4 := blk_frozen BK488.out 4
    have hfz14_5 := blk_frozen BK488.out 5
    have hfz14_6 := blk_frozen BK488.out 6
    have hfz14_7 := blk_frozen BK488.out 7
    have hfz14_8 := blk_frozen BK488.out 8
    have hfz14_9 := blk_frozen BK488.out 9
    go_upto_if 15 with (first | ((with_reducible refine gate_callee (f := 86) rfl ?_); refine goesL_ (some 14) rfl rfl Try.func86 (by kernel_rfl) rfl #[.slice A0_1 l0_1.length c0_1, .slice A1_1 l1_1.length c1_1] rfl (by (try simp only [List.map_toArray, List.map_cons, List.map_nil]); first | done | rfl | (simp only [List.length_drop, List.length_take]; rfl)) ?_; (with_reducible refine (laws_eqFieldS.calls k _ _ l0_1 _ _ l1_1 t489 _ ?side1 ?side2 ?side3 ?side4 A10.out).mono ?_); (case side1 => repeat (first | exact (Kd.C_below HR0_1.out HB.out) | (with_reducible refine Kd.C_alloc ?_ _) | (with_reducible refine Kd.C_drewN ?_ _) | (with_reducible refine Kd.C_drew ?_))); (case side2 => exact HC0_1.out); (case side3 => repeat (first | exact (Kd.C_below HR1_1.out HB.out) | (with_reducible refine Kd.C_alloc ?_ _) | (with_reducible refine Kd.C_drewN ?_ _) | (with_reducible refine Kd.C_drew ?_))); (case side4 => exact HC1_1.out); rintro e w15 ⟨rfl, hb⟩; refine ⟨_, rfl, ?_⟩; have n0_ := Aside0.mk (blk_below (g := gb487) (o := .cells #[.string a0_0, .slice A0_1 l0_1.length c0_1, .int .i64 a0_2, .slice A0_3 l0_3.length c0_3, .string a0_4, .slice A0_5 l0_5.length c0_5, .int .i64 a0_6, .int .i64 a0_7, .int .i64 a0_8, .int .i64 a0_9] 66 (0, 0)) (by (with_reducible repeat (first | refine blk_drewN ?_ _ | refine blk_drew ?_ | refine blk_alloc ?_ _)); exact BK487.out) hb); have n1_ := Aside0.mk (blk_below (g := gb488) (o := .cells #[.string a1_0, .slice A1_1 l1_1.length c1_1, .int .i64 a1_2, .slice A1_3 l1_3.length c1_3, .string a1_4, .slice A1_5 l1_5.length c1_5, .int .i64 a1_6, .int .i64 a1_7, .int .i64 a1_8, .int .i64 a1_9] 66 (0, 0)) (by (with_reducible repeat (first | refine blk_drewN ?_ _ | refine blk_drew ?_ | refine blk_alloc ?_ _)); exact BK488.out) hb); have n2_ := Aside0.mk (below_step (by repeat (first | (with_reducible first | exact HB.out | apply below_alloc | apply pw_below_drewN | apply below_drew1 | refine below_set ?_ GE487.out | refine below_set ?_ GE488.out) | exact HB.out)) hb); clear BK487; clear BK488; clear HB; have BK487 := n0_; have BK488 := n1_; have HB := n2_; clear n0_ n1_ n2_; (try clear hb); (try clear hb2); (try clear hk); (try clear hi)))
    have H := HF11.out
    clear HF11
    by_cases c16 : t489 = true
    · subst c16
      have H1 : ((laws_eqResponse.f k a0_2 l0_3 a0_4 a1_2 l1_3 a1_4).bind fun t490 => (if t490 = true then ((laws_eqPieceS.f k l0_5 l1_5).bind fun t491 => (if t491 = true then (if a0_6 = a1_6 then (if a0_7 = a1_7 then (if a0_8 = a1_8 then (if a0_9 = a1_9 then (some true) else (some false)) else (some false)) else (some false)) else (some false)) else (some false))) else (some false))) = some r := by rw [if_pos rfl] at H; exact H
      clear H
      have H := H1
      clear H1
      replace H := Option.bind_eq_some_iff.mp H
      obtain ⟨t490, A170, H⟩ := H
      replace H : (if t490 = true then ((laws_eqPieceS.f k l0_5 l1_5).bind fun t491 => (if t491 = true then (if a0_6 = a1_6 then (if a0_7 = a1_7 then (if a0_8 = a1_8 then (if a0_9 = a1_9 then (some true) else (some false)) else (some false)) else (some false)) else (some false)) else (some false))) else (some false)) = some r := H
      have A17 := Aside0.mk A170
      clear A170
      have HF18 := Aside0.mk H
      clear H
      have hnb19 := NB487_488.out
      have hnc19 := NB488_487.out
      have hcz20_0 : w15.cell? ⟨gb487, 0, none⟩ = some (.string a0_0) := (blk_cell BK487.out 0).trans rfl
      have hcz20_1 : w15.cell? ⟨gb487, 1, none⟩ = some (.slice A0_1 l0_1.length c0_1) := (blk_cell BK487.out 1).trans rfl
      have hcz20_2 : w15.cell? ⟨gb487, 2, none⟩ = some (.int .i64 a0_2) := (blk_cell BK487.out 2).trans rfl
      have hcz20_3 : w15.cell? ⟨gb487, 3, none⟩ = some (.slice A0_3 l0_3.length c0_3) := (blk_cell BK487.out 3).trans rfl
      have hcz20_4 : w15.cell? ⟨gb487, 4, none⟩ = some (.string a0_4) := (blk_cell BK487.out 4).trans rfl
      have hcz20_5 : w15.cell? ⟨gb487, 5, none⟩ = some (.slice A0_5 l0_5.length c0_5) := (blk_cell BK487.out 5).trans rfl
      have hcz20_6 : w15.cell? ⟨gb487, 6, none⟩ = some (.int .i64 a0_6) := (blk_cell BK487.out 6).trans rfl
      have hcz20_7 : w15.cell? ⟨gb487, 7, none⟩ = some (.int .i64 a0_7) := (blk_cell BK487.out 7).trans rfl
      have hcz20_8 : w15.cell? ⟨gb487, 8, none⟩ = some (.int .i64 a0_8) := (blk_cell BK487.out 8).trans rfl
      have hcz20_9 : w15.cell? ⟨gb487, 9, none⟩ = some (.int .i64 a0_9) := (blk_cell BK487.out 9).trans rfl
      have hfz20_0 := blk_frozen BK487.out 0
      have hfz20_1 := blk_frozen BK487.out 1
      have hfz20_2 := blk_frozen BK487.out 2
      have hfz20_3 := blk_frozen BK487.out 3
      have hfz20_4 := blk_frozen BK487.out 4
      have hfz20_5 := blk_frozen BK487.out 5
      have hfz20_6 := blk_frozen BK487.out 6
      have hfz20_7 := blk_frozen BK487.out 7
      have hfz20_8 := blk_frozen BK487.out 8
      have hfz20_9 := blk_frozen BK487.out 9
      have hcz21_0 : w15.cell? ⟨gb488, 0, none⟩ = some (.string a1_0) := (blk_cell BK488.out 0).trans rfl
      have hcz21_1 : w15.cell? ⟨gb488, 1, none⟩ = some (.slice A1_1 l1_1.length c1_1) := (blk_cell BK488.out 1).trans rfl
      have hcz21_2 : w15.cell? ⟨gb488, 2, none⟩ = some (.int .i64 a1_2) := (blk_cell BK488.out 2).trans rfl
      have hcz21_3 : w15.cell? ⟨gb488, 3, none⟩ = some (.slice A1_3 l1_3.length c1_3) := (blk_cell BK488.out 3).trans rfl
      have hcz21_4 : w15.cell? ⟨gb488, 4, none⟩ = some (.string a1_4) := (blk_cell BK488.out 4).trans rfl
      have hcz21_5 : w15.cell? ⟨gb488, 5, none⟩ = some (.slice A1_5 l1_5.length c1_5) := (blk_cell BK488.out 5).trans rfl
      have hcz21_6 : w15.cell? ⟨gb488, 6, none⟩ = some (.int .i64 a1_6) := (blk_cell BK488.out 6).trans rfl
      have hcz21_7 : w15.cell? ⟨gb488, 7, none⟩ = some (.int .i64 a1_7) := (blk_cell BK488.out 7).trans rfl
      have hcz21_8 : w15.cell? ⟨gb488, 8, none⟩ = some (.int .i64 a1_8) := (blk_cell BK488.out 8).trans rfl
      have hcz21_9 : w15.cell? ⟨gb488, 9, none⟩ = some (.int .i64 a1_9) := (blk_cell BK488.out 9).trans rfl
      have hfz21_0 := blk_frozen BK488.out 0
      have hfz21_1 := blk_frozen BK488.out 1
      have hfz21_2 := blk_frozen BK488.out 2
      have hfz21_3 := blk_frozen BK488.out 3
      have hfz21_4 := blk_frozen BK488.out 4
      have hfz21_5 := blk_frozen BK488.out 5
      have hfz21_6 := blk_frozen BK488.out 6
      have hfz21_7 := blk_frozen BK488.out 7
      have hfz21_8 := blk_frozen BK488.out 8
      have hfz21_9 := blk_frozen BK488.out 9
      go_upto_if 21 with (first | ((with_reducible refine gate_callee (f := 33) rfl ?_); refine goesL_ (some 20) rfl rfl Try.func33 (by kernel_rfl) rfl #[.agg #[.int .i64 a0_2, .slice A0_3 l0_3.length c0_3, .string a0_4], .agg #[.int .i64 a1_2, .slice A1_3 l1_3.length c1_3, .string a1_4]] rfl (by (try simp only [List.map_toArray, List.map_cons, List.map_nil]); first | done | rfl | (simp only [List.length_drop, List.length_take]; rfl)) ?_; (with_reducible refine (laws_eqResponse.calls k a0_2 _ _ l0_3 a0_4 a1_2 _ _ l1_3 a1_4 t490 _ ?side1 ?side2 ?side3 ?side4 A17.out).mono ?_); (case side1 => repeat (first | exact (Kd.C_below HR0_3.out HB.out) | (with_reducible refine Kd.C_alloc ?_ _) | (with_reducible refine Kd.C_drewN ?_ _) | (with_reducible refine Kd.C_drew ?_))); (case side2 => exact HC0_3.out); (case side3 => repeat (first | exact (Kd.C_below HR1_3.out HB.out) | (with_reducible refine Kd.C_alloc ?_ _) | (with_reducible refine Kd.C_drewN ?_ _) | (with_reducible refine Kd.C_drew ?_))); (case side4 => exact HC1_3.out); rintro e w22 ⟨rfl, hb⟩; refine ⟨_, rfl, ?_⟩; have n0_ := Aside0.mk (blk_below (g := gb487) (o := .cells #[.string a0_0, .slice A0_1 l0_1.length c0_1, .int .i64 a0_2, .slice A0_3 l0_3.length c0_3, .string a0_4, .slice A0_5 l0_5.length c0_5, .int .i64 a0_6, .int .i64 a0_7, .int .i64 a0_8, .int .i64 a0_9] 66 (0, 0)) (by (with_reducible repeat (first | refine blk_drewN ?_ _ | refine blk_drew ?_ | refine blk_alloc ?_ _)); exact BK487.out) hb); have n1_ := Aside0.mk (blk_below (g := gb488) (o := .cells #[.string a1_0, .slice A1_1 l1_1.length c1_1, .int .i64 a1_2, .slice A1_3 l1_3.length c1_3, .string a1_4, .slice A1_5 l1_5.length c1_5, .int .i64 a1_6, .int .i64 a1_7, .int .i64 a1_8, .int .i64 a1_9] 66 (0, 0)) (by (with_reducible repeat (first | refine blk_drewN ?_ _ | refine blk_drew ?_ | refine blk_alloc ?_ _)); exact BK488.out) hb); have n2_ := Aside0.mk (below_step (by repeat (first | (with_reducible first | exact HB.out | apply below_alloc | apply pw_below_drewN | apply below_drew1 | refine below_set ?_ GE487.out | refine below_set ?_ GE488.out) | exact HB.out)) hb); clear BK487; clear BK488; clear HB; have BK487 := n0_; have BK488 := n1_; have HB := n2_; clear n0_ n1_ n2_; (try clear hb); (try clear hb2); (try clear hk); (try clear hi)))
      have H := HF18.out
      clear HF18
      by_cases c23 : t490 = true
      · subst c23
        have H1 : ((laws_eqPieceS.f k l0_5 l1_5).bind fun t491 => (if t491 = true then (if a0_6 = a1_6 then (if a0_7 = a1_7 then (if a0_8 = a1_8 then (if a0_9 = a1_9 then (some true) else (some false)) else (some false)) else (some false)) else (some false)) else (some false))) = some r := by rw [if_pos rfl] at H; exact H
        clear H
        have H := H1
        clear H1
        replace H := Option.bind_eq_some_iff.mp H
        obtain ⟨t491, A240, H⟩ := H
        replace H : (if t491 = true then (if a0_6 = a1_6 then (if a0_7 = a1_7 then (if a0_8 = a1_8 then (if a0_9 = a1_9 then (some true) else (some false)) else (some false)) else (some false)) else (some false)) else (some false)) = some r := H
        have A24 := Aside0.mk A240
        clear A240
        have HF25 := Aside0.mk H
        clear H
        have hnb26 := NB487_488.out
        have hnc26 := NB488_487.out
        have hcz27_0 : w22.cell? ⟨gb487, 0, none⟩ = some (.string a0_0) := (blk_cell BK487.out 0).trans rfl
        have hcz27_1 : w22.cell? ⟨gb487, 1, none⟩ = some (.slice A0_1 l0_1.length c0_1) := (blk_cell BK487.out 1).trans rfl
        have hcz27_2 : w22.cell? ⟨gb487, 2, none⟩ = some (.int .i64 a0_2) := (blk_cell BK487.out 2).trans rfl
        have hcz27_3 : w22.cell? ⟨gb487, 3, none⟩ = some (.slice A0_3 l0_3.length c0_3) := (blk_cell BK487.out 3).trans rfl
        have hcz27_4 : w22.cell? ⟨gb487, 4, none⟩ = some (.string a0_4) := (blk_cell BK487.out 4).trans rfl
        have hcz27_5 : w22.cell? ⟨gb487, 5, none⟩ = some (.slice A0_5 l0_5.length c0_5) := (blk_cell BK487.out 5).trans rfl
        have hcz27_6 : w22.cell? ⟨gb487, 6, none⟩ = some (.int .i64 a0_6) := (blk_cell BK487.out 6).trans rfl
        have hcz27_7 : w22.cell? ⟨gb487, 7, none⟩ = some (.int .i64 a0_7) := (blk_cell BK487.out 7).trans rfl
        have hcz27_8 : w22.cell? ⟨gb487, 8, none⟩ = some (.int .i64 a0_8) := (blk_cell BK487.out 8).trans rfl
        have hcz27_9 : w22.cell? ⟨gb487, 9, none⟩ = some (.int .i64 a0_9) := (blk_cell BK487.out 9).trans rfl
        have hfz27_0 := blk_frozen BK487.out 0
        have hfz27_1 := blk_frozen BK487.out 1
        have hfz27_2 := blk_frozen BK487.out 2
        have hfz27_3 := blk_frozen BK487.out 3
        have hfz27_4 := blk_frozen BK487.out 4
        have hfz27_5 := blk_frozen BK487.out 5
        have hfz27_6 := blk_frozen BK487.out 6
        have hfz27_7 := blk_frozen BK487.out 7
        have hfz27_8 := blk_frozen BK487.out 8
        have hfz27_9 := blk_frozen BK487.out 9
        have hcz28_0 : w22.cell? ⟨gb488, 0, none⟩ = some (.string a1_0) := (blk_cell BK488.out 0).trans rfl
        have hcz28_1 : w22.cell? ⟨gb488, 1, none⟩ = some (.slice A1_1 l1_1.length c1_1) := (blk_cell BK488.out 1).trans rfl
        have hcz28_2 : w22.cell? ⟨gb488, 2, none⟩ = some (.int .i64 a1_2) := (blk_cell BK488.out 2).trans rfl
        have hcz28_3 : w22.cell? ⟨gb488, 3, none⟩ = some (.slice A1_3 l1_3.length c1_3) := (blk_cell BK488.out 3).trans rfl
        have hcz28_4 : w22.cell? ⟨gb488, 4, none⟩ = some (.string a1_4) := (blk_cell BK488.out 4).trans rfl
        have hcz28_5 : w22.cell? ⟨gb488, 5, none⟩ = some (.slice A1_5 l1_5.length c1_5) := (blk_cell BK488.out 5).trans rfl
        have hcz28_6 : w22.cell? ⟨gb488, 6, none⟩ = some (.int .i64 a1_6) := (blk_cell BK488.out 6).trans rfl
        have hcz28_7 : w22.cell? ⟨gb488, 7, none⟩ = some (.int .i64 a1_7) := (blk_cell BK488.out 7).trans rfl
        have hcz28_8 : w22.cell? ⟨gb488, 8, none⟩ = some (.int .i64 a1_8) := (blk_cell BK488.out 8).trans rfl
        have hcz28_9 : w22.cell? ⟨gb488, 9, none⟩ = some (.int .i64 a1_9) := (blk_cell BK488.out 9).trans rfl
        have hfz28_0 := blk_frozen BK488.out 0
        have hfz28_1 := blk_frozen BK488.out 1
        have hfz28_2 := blk_frozen BK488.out 2
        have hfz28_3 := blk_frozen BK488.out 3
        have hfz28_4 := blk_frozen BK488.out 4
        have hfz28_5 := blk_frozen BK488.out 5
        have hfz28_6 := blk_frozen BK488.out 6
        have hfz28_7 := blk_frozen BK488.out 7
        have hfz28_8 := blk_frozen BK488.out 8
        have hfz28_9 := blk_frozen BK488.out 9
        go_upto_if 27 with (first | ((with_reducible refine gate_callee (f := 97) rfl ?_); refine goesL_ (some 26) rfl rfl Try.func97 (by kernel_rfl) rfl #[.slice A0_5 l0_5.length c0_5, .slice A1_5 l1_5.length c1_5] rfl (by (try simp only [List.map_toArray, List.map_cons, List.map_nil]); first | done | rfl | (simp only [List.length_drop, List.length_take]; rfl)) ?_; (with_reducible refine (laws_eqPieceS.calls k _ _ l0_5 _ _ l1_5 t491 _ ?side1 ?side2 ?side3 ?side4 A24.out).mono ?_); (case side1 => repeat (first | exact (Kd.C_below HR0_5.out HB.out) | (with_reducible refine Kd.C_alloc ?_ _) | (with_reducible refine Kd.C_drewN ?_ _) | (with_reducible refine Kd.C_drew ?_))); (case side2 => exact HC0_5.out); (case side3 => repeat (first | exact (Kd.C_below HR1_5.out HB.out) | (with_reducible refine Kd.C_alloc ?_ _) | (with_reducible refine Kd.C_drewN ?_ _) | (with_reducible refine Kd.C_drew ?_))); (case side4 => exact HC1_5.out); rintro e w29 ⟨rfl, hb⟩; refine ⟨_, rfl, ?_⟩; have n0_ := Aside0.mk (blk_below (g := gb487) (o := .cells #[.string a0_0, .slice A0_1 l0_1.length c0_1, .int .i64 a0_2, .slice A0_3 l0_3.length c0_3, .string a0_4, .slice A0_5 l0_5.length c0_5, .int .i64 a0_6, .int .i64 a0_7, .int .i64 a0_8, .int .i64 a0_9] 66 (0, 0)) (by (with_reducible repeat (first | refine blk_drewN ?_ _ | refine blk_drew ?_ | refine blk_alloc ?_ _)); exact BK487.out) hb); have n1_ := Aside0.mk (blk_below (g := gb488) (o := .cells #[.string a1_0, .slice A1_1 l1_1.length c1_1, .int .i64 a1_2, .slice A1_3 l1_3.length c1_3, .string a1_4, .slice A1_5 l1_5.length c1_5, .int .i64 a1_6, .int .i64 a1_7, .int .i64 a1_8, .int .i64 a1_9] 66 (0, 0)) (by (with_reducible repeat (first | refine blk_drewN ?_ _ | refine blk_drew ?_ | refine blk_alloc ?_ _)); exact BK488.out) hb); have n2_ := Aside0.mk (below_step (by repeat (first | (with_reducible first | exact HB.out | apply below_alloc | apply pw_below_drewN | apply below_drew1 | refine below_set ?_ GE487.out | refine below_set ?_ GE488.out) | exact HB.out)) hb); clear BK487; clear BK488; clear HB; have BK487 := n0_; have BK488 := n1_; have HB := n2_; clear n0_ n1_ n2_; (try clear hb); (try clear hb2); (try clear hk); (try clear hi)))
        have H := HF25.out
        clear HF25
        by_cases c30 : t491 = true
        · subst c30
          have H1 : (if a0_6 = a1_6 then (if a0_7 = a1_7 then (if a0_8 = a1_8 then (if a0_9 = a1_9 then (some true) else (some false)) else (some false)) else (some false)) else (some false)) = some r := by rw [if_pos rfl] at H; exact H
          clear H
          have H := H1
          clear H1
          have HF31 := Aside0.mk H
          clear H
          have hnb32 := NB487_488.out
          have hnc32 := NB488_487.out
          have hcz33_0 : w29.cell? ⟨gb487, 0, none⟩ = some (.string a0_0) := (blk_cell BK487.out 0).trans rfl
          have hcz33_1 : w29.cell? ⟨gb487, 1, none⟩ = some (.slice A0_1 l0_1.length c0_1) := (blk_cell BK487.out 1).trans rfl
          have hcz33_2 : w29.cell? ⟨gb487, 2, none⟩ = some (.int .i64 a0_2) := (blk_cell BK487.out 2).trans rfl
          have hcz33_3 : w29.cell? ⟨gb487, 3, none⟩ = some (.slice A0_3 l0_3.length c0_3) := (blk_cell BK487.out 3).trans rfl
          have hcz33_4 : w29.cell? ⟨gb487, 4, none⟩ = some (.string a0_4) := (blk_cell BK487.out 4).trans rfl
          have hcz33_5 : w29.cell? ⟨gb487, 5, none⟩ = some (.slice A0_5 l0_5.length c0_5) := (blk_cell BK487.out 5).trans rfl
          have hcz33_6 : w29.cell? ⟨gb487, 6, none⟩ = some (.int .i64 a0_6) := (blk_cell BK487.out 6).trans rfl
          have hcz33_7 : w29.cell? ⟨gb487, 7, none⟩ = some (.int .i64 a0_7) := (blk_cell BK487.out 7).trans rfl
          have hcz33_8 : w29.cell? ⟨gb487, 8, none⟩ = some (.int .i64 a0_8) := (blk_cell BK487.out 8).trans rfl
          have hcz33_9 : w29.cell? ⟨gb487, 9, none⟩ = some (.int .i64 a0_9) := (blk_cell BK487.out 9).trans rfl
          have hfz33_0 := blk_frozen BK487.out 0
          have hfz33_1 := blk_frozen BK487.out 1
          have hfz33_2 := blk_frozen BK487.out 2
          have hfz33_3 := blk_frozen BK487.out 3
          have hfz33_4 := blk_frozen BK487.out 4
          have hfz33_5 := blk_frozen BK487.out 5
          have hfz33_6 := blk_frozen BK487.out 6
          have hfz33_7 := blk_frozen BK487.out 7
          have hfz33_8 := blk_frozen BK487.out 8
          have hfz33_9 := blk_frozen BK487.out 9
          have hcz34_0 : w29.cell? ⟨gb488, 0, none⟩ = some (.string a1_0) := (blk_cell BK488.out 0).trans rfl
          have hcz34_1 : w29.cell? ⟨gb488, 1, none⟩ = some (.slice A1_1 l1_1.length c1_1) := (blk_cell BK488.out 1).trans rfl
          have hcz34_2 : w29.cell? ⟨gb488, 2, none⟩ = some (.int .i64 a1_2) := (blk_cell BK488.out 2).trans rfl
          have hcz34_3 : w29.cell? ⟨gb488, 3, none⟩ = some (.slice A1_3 l1_3.length c1_3) := (blk_cell BK488.out 3).trans rfl
          have hcz34_4 : w29.cell? ⟨gb488, 4, none⟩ = some (.string a1_4) := (blk_cell BK488.out 4).trans rfl
          have hcz34_5 : w29.cell? ⟨gb488, 5, none⟩ = some (.slice A1_5 l1_5.length c1_5) := (blk_cell BK488.out 5).trans rfl
          have hcz34_6 : w29.cell? ⟨gb488, 6, none⟩ = some (.int .i64 a1_6) := (blk_cell BK488.out 6).trans rfl
          have hcz34_7 : w29.cell? ⟨gb488, 7, none⟩ = some (.int .i64 a1_7) := (blk_cell BK488.out 7).trans rfl
          have hcz34_8 : w29.cell? ⟨gb488, 8, none⟩ = some (.int .i64 a1_8) := (blk_cell BK488.out 8).trans rfl
          have hcz34_9 : w29.cell? ⟨gb488, 9, none⟩ = some (.int .i64 a1_9) := (blk_cell BK488.out 9).trans rfl
          have hfz34_0 := blk_frozen BK488.out 0
          have hfz34_1 := blk_frozen BK488.out 1
          have hfz34_2 := blk_frozen BK488.out 2
          have hfz34_3 := blk_frozen BK488.out 3
          have hfz34_4 := blk_frozen BK488.out 4
          have hfz34_5 := blk_frozen BK488.out 5
          have hfz34_6 := blk_frozen BK488.out 6
          have hfz34_7 := blk_frozen BK488.out 7
          have hfz34_8 := blk_frozen BK488.out 8
          have hfz34_9 := blk_frozen BK488.out 9
          go_upto_if 32 with (fail)
          have H := HF31.out
          clear HF31
          by_cases c35 : a0_6 = a1_6
          · rw [if_pos c35] at H
            have c35b0 : (a0_6 == a1_6) = true := beq_iff_eq.mpr c35
            have c35b1 : (a0_6 != a1_6) = false := bne_eq_false_iff_eq.mpr c35
            clear c35
            (first | rw [c35b0] | (simp only [i64_w, i32_w]; rw [c35b0]) | skip)
            have HF36 := Aside0.mk H
            clear H
            have hnb37 := NB487_488.out
            have hnc37 := NB488_487.out
            have hcz38_0 : w29.cell? ⟨gb487, 0, none⟩ = some (.string a0_0) := (blk_cell BK487.out 0).trans rfl
            have hcz38_1 : w29.cell? ⟨gb487, 1, none⟩ = some (.slice A0_1 l0_1.length c0_1) := (blk_cell BK487.out 1).trans rfl
            have hcz38_2 : w29.cell? ⟨gb487, 2, none⟩ = some (.int .i64 a0_2) := (blk_cell BK487.out 2).trans rfl
            have hcz38_3 : w29.cell? ⟨gb487, 3, none⟩ = some (.slice A0_3 l0_3.length c0_3) := (blk_cell BK487.out 3).trans rfl
            have hcz38_4 : w29.cell? ⟨gb487, 4, none⟩ = some (.string a0_4) := (blk_cell BK487.out 4).trans rfl
            have hcz38_5 : w29.cell? ⟨gb487, 5, none⟩ = some (.slice A0_5 l0_5.length c0_5) := (blk_cell BK487.out 5).trans rfl
            have hcz38_6 : w29.cell? ⟨gb487, 6, none⟩ = some (.int .i64 a0_6) := (blk_cell BK487.out 6).trans rfl
            have hcz38_7 : w29.cell? ⟨gb487, 7, none⟩ = some (.int .i64 a0_7) := (blk_cell BK487.out 7).trans rfl
            have hcz38_8 : w29.cell? ⟨gb487, 8, none⟩ = some (.int .i64 a0_8) := (blk_cell BK487.out 8).trans rfl
            have hcz38_9 : w29.cell? ⟨gb487, 9, none⟩ = some (.int .i64 a0_9) := (blk_cell BK487.out 9).trans rfl
            have hfz38_0 := blk_frozen BK487.out 0
            have hfz38_1 := blk_frozen BK487.out 1
            have hfz38_2 := blk_frozen BK487.out 2
            have hfz38_3 := blk_frozen BK487.out 3
            have hfz38_4 := blk_frozen BK487.out 4
            have hfz38_5 := blk_frozen BK487.out 5
            have hfz38_6 := blk_frozen BK487.out 6
            have hfz38_7 := blk_frozen BK487.out 7
            have hfz38_8 := blk_frozen BK487.out 8
            have hfz38_9 := blk_frozen BK487.out 9
            have hcz39_0 : w29.cell? ⟨gb488, 0, none⟩ = some (.string a1_0) := (blk_cell BK488.out 0).trans rfl
            have hcz39_1 : w29.cell? ⟨gb488, 1, none⟩ = some (.slice A1_1 l1_1.length c1_1) := (blk_cell BK488.out 1).trans rfl
            have hcz39_2 : w29.cell? ⟨gb488, 2, none⟩ = some (.int .i64 a1_2) := (blk_cell BK488.out 2).trans rfl
            have hcz39_3 : w29.cell? ⟨gb488, 3, none⟩ = some (.slice A1_3 l1_3.length c1_3) := (blk_cell BK488.out 3).trans rfl
            have hcz39_4 : w29.cell? ⟨gb488, 4, none⟩ = some (.string a1_4) := (blk_cell BK488.out 4).trans rfl
            have hcz39_5 : w29.cell? ⟨gb488, 5, none⟩ = some (.slice A1_5 l1_5.length c1_5) := (blk_cell BK488.out 5).trans rfl
            have hcz39_6 : w29.cell? ⟨gb488, 6, none⟩ = some (.int .i64 a1_6) := (blk_cell BK488.out 6).trans rfl
            have hcz39_7 : w29.cell? ⟨gb488, 7, none⟩ = some (.int .i64 a1_7) := (blk_cell BK488.out 7).trans rfl
            have hcz39_8 : w29.cell? ⟨gb488, 8, none⟩ = some (.int .i64 a1_8) := (blk_cell BK488.out 8).trans rfl
            have hcz39_9 : w29.cell? ⟨gb488, 9, none⟩ = some (.int .i64 a1_9) := (blk_cell BK488.out 9).trans rfl
            have hfz39_0 := blk_frozen BK488.out 0
            have hfz39_1 := blk_frozen BK488.out 1
            have hfz39_2 := blk_frozen BK488.out 2
            have hfz39_3 := blk_frozen BK488.out 3
            have hfz39_4 := blk_frozen BK488.out 4
            have hfz39_5 := blk_frozen BK488.out 5
            have hfz39_6 := blk_frozen BK488.out 6
            have hfz39_7 := blk_frozen BK488.out 7
            have hfz39_8 := blk_frozen BK488.out 8
            have hfz39_9 := blk_frozen BK488.out 9
            go_upto_if 37 with (fail)
            have H := HF36.out
            clear HF36
            by_cases c40 : a0_7 = a1_7
            · rw [if_pos c40] at H
              have c40b0 : (a0_7 == a1_7) = true := beq_iff_eq.mpr c40
              have c40b1 : (a0_7 != a1_7) = false := bne_eq_false_iff_eq.mpr c40
              clear c40
              (first | rw [c40b0] | (simp only [i64_w, i32_w]; rw [c40b0]) | skip)
              have HF41 := Aside0.mk H
              clear H
              have hnb42 := NB487_488.out
              have hnc42 := NB488_487.out
              have hcz43_0 : w29.cell? ⟨gb487, 0, none⟩ = some (.string a0_0) := (blk_cell BK487.out 0).trans rfl
              have hcz43_1 : w29.cell? ⟨gb487, 1, none⟩ = some (.slice A0_1 l0_1.length c0_1) := (blk_cell BK487.out 1).trans rfl
              have hcz43_2 : w29.cell? ⟨gb487, 2, none⟩ = some (.int .i64 a0_2) := (blk_cell BK487.out 2).trans rfl
              have hcz43_3 : w29.cell? ⟨gb487, 3, none⟩ = some (.slice A0_3 l0_3.length c0_3) := (blk_cell BK487.out 3).trans rfl
              have hcz43_4 : w29.cell? ⟨gb487, 4, none⟩ = some (.string a0_4) := (blk_cell BK487.out 4).trans rfl
              have hcz43_5 : w29.cell? ⟨gb487, 5, none⟩ = some (.slice A0_5 l0_5.length c0_5) := (blk_cell BK487.out 5).trans rfl
              have hcz43_6 : w29.cell? ⟨gb487, 6, none⟩ = some (.int .i64 a0_6) := (blk_cell BK487.out 6).trans rfl
              have hcz43_7 : w29.cell? ⟨gb487, 7, none⟩ = some (.int .i64 a0_7) := (blk_cell BK487.out 7).trans rfl
              have hcz43_8 : w29.cell? ⟨gb487, 8, none⟩ = some (.int .i64 a0_8) := (blk_cell BK487.out 8).trans rfl
              have hcz43_9 : w29.cell? ⟨gb487, 9, none⟩ = some (.int .i64 a0_9) := (blk_cell BK487.out 9).trans rfl
              have hfz43_0 := blk_frozen BK487.out 0
              have hfz43_1 := blk_frozen BK487.out 1
              have hfz43_2 := blk_frozen BK487.out 2
              have hfz43_3 := blk_frozen BK487.out 3
              have hfz43_4 := blk_frozen BK487.out 4
              have hfz43_5 := blk_frozen BK487.out 5
              have hfz43_6 := blk_frozen BK487.out 6
              have hfz43_7 := blk_frozen BK487.out 7
              have hfz43_8 := blk_frozen BK487.out 8
              have hfz43_9 := blk_frozen BK487.out 9
              have hcz44_0 : w29.cell? ⟨gb488, 0, none⟩ = some (.string a1_0) := (blk_cell BK488.out 0).trans rfl
              have hcz44_1 : w29.cell? ⟨gb488, 1, none⟩ = some (.slice A1_1 l1_1.length c1_1) := (blk_cell BK488.out 1).trans rfl
              have hcz44_2 : w29.cell? ⟨gb488, 2, none⟩ = some (.int .i64 a1_2) := (blk_cell BK488.out 2).trans rfl
              have hcz44_3 : w29.cell? ⟨gb488, 3, none⟩ = some (.slice A1_3 l1_3.length c1_3) := (blk_cell BK488.out 3).trans rfl
              have hcz44_4 : w29.cell? ⟨gb488, 4, none⟩ = some (.string a1_4) := (blk_cell BK488.out 4).trans rfl
              have hcz44_5 : w29.cell? ⟨gb488, 5, none⟩ = some (.slice A1_5 l1_5.length c1_5) := (blk_cell BK488.out 5).trans rfl
              have hcz44_6 : w29.cell? ⟨gb488, 6, none⟩ = some (.int .i64 a1_6) := (blk_cell BK488.out 6).trans rfl
              have hcz44_7 : w29.cell? ⟨gb488, 7, none⟩ = some (.int .i64 a1_7) := (blk_cell BK488.out 7).trans rfl
              have hcz44_8 : w29.cell? ⟨gb488, 8, none⟩ = some (.int .i64 a1_8) := (blk_cell BK488.out 8).trans rfl
              have hcz44_9 : w29.cell? ⟨gb488, 9, none⟩ = some (.int .i64 a1_9) := (blk_cell BK488.out 9).trans rfl
              have hfz44_0 := blk_frozen BK488.out 0
              have hfz44_1 := blk_frozen BK488.out 1
              have hfz44_2 := blk_frozen BK488.out 2
              have hfz44_3 := blk_frozen BK488.out 3
              have hfz44_4 := blk_frozen BK488.out 4
              have hfz44_5 := blk_frozen BK488.out 5
              have hfz44_6 := blk_frozen BK488.out 6
              have hfz44_7 := blk_frozen BK488.out 7
              have hfz44_8 := blk_frozen BK488.out 8
              have hfz44_9 := blk_frozen BK488.out 9
              go_upto_if 42 with (fail)
              have H := HF41.out
              clear HF41
              by_cases c45 : a0_8 = a1_8
              · rw [if_pos c45] at H
                have c45b0 : (a0_8 == a1_8) = true := beq_iff_eq.mpr c45
                have c45b1 : (a0_8 != a1_8) = false := bne_eq_false_iff_eq.mpr c45
                clear c45
                (first | rw [c45b0] | (simp only [i64_w, i32_w]; rw [c45b0]) | skip)
                have HF46 := Aside0.mk H
                clear H
                have hnb47 := NB487_488.out
                have hnc47 := NB488_487.out
                have hcz48_0 : w29.cell? ⟨gb487, 0, none⟩ = some (.string a0_0) := (blk_cell BK487.out 0).trans rfl
                have hcz48_1 : w29.cell? ⟨gb487, 1, none⟩ = some (.slice A0_1 l0_1.length c0_1) := (blk_cell BK487.out 1).trans rfl
                have hcz48_2 : w29.cell? ⟨gb487, 2, none⟩ = some (.int .i64 a0_2) := (blk_cell BK487.out 2).trans rfl
                have hcz48_3 : w29.cell? ⟨gb487, 3, none⟩ = some (.slice A0_3 l0_3.length c0_3) := (blk_cell BK487.out 3).trans rfl
                have hcz48_4 : w29.cell? ⟨gb487, 4, none⟩ = some (.string a0_4) := (blk_cell BK487.out 4).trans rfl
                have hcz48_5 : w29.cell? ⟨gb487, 5, none⟩ = some (.slice A0_5 l0_5.length c0_5) := (blk_cell BK487.out 5).trans rfl
                have hcz48_6 : w29.cell? ⟨gb487, 6, none⟩ = some (.int .i64 a0_6) := (blk_cell BK487.out 6).trans rfl
                have hcz48_7 : w29.cell? ⟨gb487, 7, none⟩ = some (.int .i64 a0_7) := (blk_cell BK487.out 7).trans rfl
                have hcz48_8 : w29.cell? ⟨gb487, 8, none⟩ = some (.int .i64 a0_8) := (blk_cell BK487.out 8).trans rfl
                have hcz48_9 : w29.cell? ⟨gb487, 9, none⟩ = some (.int .i64 a0_9) := (blk_cell BK487.out 9).trans rfl
                have hfz48_0 := blk_frozen BK487.out 0
                have hfz48_1 := blk_frozen BK487.out 1
                have hfz48_2 := blk_frozen BK487.out 2
                have hfz48_3 := blk_frozen BK487.out 3
                have hfz48_4 := blk_frozen BK487.out 4
                have hfz48_5 := blk_frozen BK487.out 5
                have hfz48_6 := blk_frozen BK487.out 6
                have hfz48_7 := blk_frozen BK487.out 7
                have hfz48_8 := blk_frozen BK487.out 8
                have hfz48_9 := blk_frozen BK487.out 9
                have hcz49_0 : w29.cell? ⟨gb488, 0, none⟩ = some (.string a1_0) := (blk_cell BK488.out 0).trans rfl
                have hcz49_1 : w29.cell? ⟨gb488, 1, none⟩ = some (.slice A1_1 l1_1.length c1_1) := (blk_cell BK488.out 1).trans rfl
                have hcz49_2 : w29.cell? ⟨gb488, 2, none⟩ = some (.int .i64 a1_2) := (blk_cell BK488.out 2).trans rfl
                have hcz49_3 : w29.cell? ⟨gb488, 3, none⟩ = some (.slice A1_3 l1_3.length c1_3) := (blk_cell BK488.out 3).trans rfl
                have hcz49_4 : w29.cell? ⟨gb488, 4, none⟩ = some (.string a1_4) := (blk_cell BK488.out 4).trans rfl
                have hcz49_5 : w29.cell? ⟨gb488, 5, none⟩ = some (.slice A1_5 l1_5.length c1_5) := (blk_cell BK488.out 5).trans rfl
                have hcz49_6 : w29.cell? ⟨gb488, 6, none⟩ = some (.int .i64 a1_6) := (blk_cell BK488.out 6).trans rfl
                have hcz49_7 : w29.cell? ⟨gb488, 7, none⟩ = some (.int .i64 a1_7) := (blk_cell BK488.out 7).trans rfl
                have hcz49_8 : w29.cell? ⟨gb488, 8, none⟩ = some (.int .i64 a1_8) := (blk_cell BK488.out 8).trans rfl
                have hcz49_9 : w29.cell? ⟨gb488, 9, none⟩ = some (.int .i64 a1_9) := (blk_cell BK488.out 9).trans rfl
                have hfz49_0 := blk_frozen BK488.out 0
                have hfz49_1 := blk_frozen BK488.out 1
                have hfz49_2 := blk_frozen BK488.out 2
                have hfz49_3 := blk_frozen BK488.out 3
                have hfz49_4 := blk_frozen BK488.out 4
                have hfz49_5 := blk_frozen BK488.out 5
                have hfz49_6 := blk_frozen BK488.out 6
                have hfz49_7 := blk_frozen BK488.out 7
                have hfz49_8 := blk_frozen BK488.out 8
                have hfz49_9 := blk_frozen BK488.out 9
                go_upto_if 47 with (fail)
                have H := HF46.out
                clear HF46
                by_cases c50 : a0_9 = a1_9
                · rw [if_pos c50] at H
                  have c50b0 : (a0_9 == a1_9) = true := beq_iff_eq.mpr c50
                  have c50b1 : (a0_9 != a1_9) = false := bne_eq_false_iff_eq.mpr c50
                  clear c50
                  (first | rw [c50b0] | (simp only [i64_w, i32_w]; rw [c50b0]) | skip)
                  obtain rfl := Option.some.inj H
                  go_wp2
                  go_ret
                  exact ⟨by first | rfl | (simp [errW_none, errW_some] <;> rfl) | (simp [*, errW_none, errW_some] <;> rfl), by repeat (first | (with_reducible first | exact HB.out | apply below_alloc | apply pw_below_drewN | apply below_drew1 | refine below_set ?_ GE487.out | refine below_set ?_ GE488.out) | exact HB.out)⟩
                · rw [if_neg c50] at H
                  have c50b0 : (a0_9 == a1_9) = false := beq_eq_false_iff_ne.mpr c50
                  have c50b1 : (a0_9 != a1_9) = true := bne_iff_ne.mpr c50
                  (first | rw [c50b0] | (simp only [i64_w, i32_w]; rw [c50b0]) | skip)
                  obtain rfl := Option.some.inj H
                  go_wp2
                  go_ret
                  exact ⟨by first | rfl | (simp [errW_none, errW_some] <;> rfl) | (simp [*, errW_none, errW_some] <;> rfl), by repeat (first | (with_reducible first | exact HB.out | apply below_alloc | apply pw_below_drewN | apply below_drew1 | refine below_set ?_ GE487.out | refine below_set ?_ GE488.out) | exact HB.out)⟩
              · rw [if_neg c45] at H
                have c45b0 : (a0_8 == a1_8) = false := beq_eq_false_iff_ne.mpr c45
                have c45b1 : (a0_8 != a1_8) = true := bne_iff_ne.mpr c45
                (first | rw [c45b0] | (simp only [i64_w, i32_w]; rw [c45b0]) | skip)
                obtain rfl := Option.some.inj H
                go_wp2
                go_ret
                exact ⟨by first | rfl | (simp [errW_none, errW_some] <;> rfl) | (simp [*, errW_none, errW_some] <;> rfl), by repeat (first | (with_reducible first | exact HB.out | apply below_alloc | apply pw_below_drewN | apply below_drew1 | refine below_set ?_ GE487.out | refine below_set ?_ GE488.out) | exact HB.out)⟩
            · rw [if_neg c40] at H
              have c40b0 : (a0_7 == a1_7) = false := beq_eq_false_iff_ne.mpr c40
              have c40b1 : (a0_7 != a1_7) = true := bne_iff_ne.mpr c40
              (first | rw [c40b0] | (simp only [i64_w, i32_w]; rw [c40b0]) | skip)
              obtain rfl := Option.some.inj H
              go_wp2
              go_ret
              exact ⟨by first | rfl | (simp [errW_none, errW_some] <;> rfl) | (simp [*, errW_none, errW_some] <;> rfl), by repeat (first | (with_reducible first | exact HB.out | apply below_alloc | apply pw_below_drewN | apply below_drew1 | refine below_set ?_ GE487.out | refine below_set ?_ GE488.out) | exact HB.out)⟩
          · rw [if_neg c35] at H
            have c35b0 : (a0_6 == a1_6) = false := beq_eq_false_iff_ne.mpr c35
            have c35b1 : (a0_6 != a1_6) = true := bne_iff_ne.mpr c35
            (first | rw [c35b0] | (simp only [i64_w, i32_w]; rw [c35b0]) | skip)
            obtain rfl := Option.some.inj H
            go_wp2
            go_ret
            exact ⟨by first | rfl | (simp [errW_none, errW_some] <;> rfl) | (simp [*, errW_none, errW_some] <;> rfl), by repeat (first | (with_reducible first | exact HB.out | apply below_alloc | apply pw_below_drewN | apply below_drew1 | refine below_set ?_ GE487.out | refine below_set ?_ GE488.out) | exact HB.out)⟩
        · replace c30 := Bool.eq_false_iff.mpr c30
          subst c30
          have H1 : (some false) = some r := by rw [if_neg (show ¬ (false = true) by decide)] at H; exact H
          clear H
          have H := H1
          clear H1
          obtain rfl := Option.some.inj H
          go_wp2
          go_ret
          exact ⟨by first | rfl | (simp [errW_none, errW_some] <;> rfl) | (simp [*, errW_none, errW_some] <;> rfl), by repeat (first | (with_reducible first | exact HB.out | apply below_alloc | apply pw_below_drewN | apply below_drew1 | refine below_set ?_ GE487.out | refine below_set ?_ GE488.out) | exact HB.out)⟩
      · replace c23 := Bool.eq_false_iff.mpr c23
        subst c23
        have H1 : (some false) = some r := by rw [if_neg (show ¬ (false = true) by decide)] at H; exact H
        clear H
        have H := H1
        clear H1
        obtain rfl := Option.some.inj H
        go_wp2
        go_ret
        exact ⟨by first | rfl | (simp [errW_none, errW_some] <;> rfl) | (simp [*, errW_none, errW_some] <;> rfl), by repeat (first | (with_reducible first | exact HB.out | apply below_alloc | apply pw_below_drewN | apply below_drew1 | refine below_set ?_ GE487.out | refine below_set ?_ GE488.out) | exact HB.out)⟩
    · replace c16 := Bool.eq_false_iff.mpr c16
      subst c16
      have H1 : (some false) = some r := by rw [if_neg (show ¬ (false = true) by decide)] at H; exact H
      clear H
      have H := H1
      clear H1
      obtain rfl := Option.some.inj H
      go_wp2
      go_ret
      exact ⟨by first | rfl | (simp [errW_none, errW_some] <;> rfl) | (simp [*, errW_none, errW_some] <;> rfl), by repeat (first | (with_reducible first | exact HB.out | apply below_alloc | apply pw_below_drewN | apply below_drew1 | refine below_set ?_ GE487.out | refine below_set ?_ GE488.out) | exact HB.out)⟩
  · rw [if_neg c9] at H
    have c9b0 : (a0_0.toList == a1_0.toList) = false := beq_eq_false_iff_ne.mpr c9
    have c9b1 : (a0_0.toList != a1_0.toList) = true := bne_iff_ne.mpr c9
    (first | rw [c9b0] | (simp only [i64_w, i32_w]; rw [c9b0]) | skip)
    obtain rfl := Option.some.inj H
    go_wp2
    go_ret
    exact ⟨by first | rfl | (simp [errW_none, errW_some] <;> rfl) | (simp [*, errW_none, errW_some] <;> rfl), by repeat (first | (with_reducible first | exact HB.out | apply below_alloc | apply pw_below_drewN | apply below_drew1 | refine below_set ?_ GE487.out | refine below_set ?_ GE488.out) | exact HB.out)⟩


end Go.Proofs.Ytelmcjohkifeeaa.PA

namespace Go.Proofs.Ytelmcjohkifeeaa.PA
open Go.RowKit Go.Proofs.YtelmcjohkifeeaaW.PrintWords Go.Proofs.YtelmcjohkifeeaaW.PrintLast Go.Proofs.YtelmcjohkifeeaaW.PrintMore
attribute [local go_sem] max2_int min2_int max_two min_two max_three min_three max_four min_four   -- for this text's walks alone
set_option linter.unusedVariables false
set_option linter.unusedSimpArgs false
/-! ### laws_eqEntryS: function 105 -/
def laws_eqEntryS.l0 : Nat → List (S66) → List (S66) → Int → Option (Bool)
  | 0, _, _, _ => none
  | k + 1, x0, x1, x5 => if x5 < (x0.length : Int) then (if 0 ≤ x5 then (if x5 < (x1.length : Int) then ((laws_eqEntry.f k ((rd_T66 x0 x5).f0) ((rd_T66 x0 x5).f1) ((rd_T66 x0 x5).f2.f0) ((rd_T66 x0 x5).f2.f1) ((rd_T66 x0 x5).f2.f2) ((rd_T66 x0 x5).f3) ((rd_T66 x0 x5).f4) ((rd_T66 x0 x5).f5) ((rd_T66 x0 x5).f6) ((rd_T66 x0 x5).f7) ((rd_T66 x1 x5).f0) ((rd_T66 x1 x5).f1) ((rd_T66 x1 x5).f2.f0) ((rd_T66 x1 x5).f2.f1) ((rd_T66 x1 x5).f2.f2) ((rd_T66 x1 x5).f3) ((rd_T66 x1 x5).f4) ((rd_T66 x1 x5).f5) ((rd_T66 x1 x5).f6) ((rd_T66 x1 x5).f7)).bind fun t689 => (if t689 = true then (laws_eqEntryS.l0 k x0 x1 (wrap64 (x5 + 1))) else (some false))) else (none)) else (none)) else (some true)
def laws_eqEntryS.f (k : Nat) (l0 : List (S66)) (l1 : List (S66)) : Option (Bool) := if (l0.length : Int) = (l1.length : Int) then (laws_eqEntryS.l0 k l0 l1 0) else (some false)
theorem laws_eqEntryS.mono_l : ∀ k, (∀ y0 y1 y2, LeO (laws_eqEntryS.l0 k y0 y1 y2) (laws_eqEntryS.l0 (k + 1) y0 y1 y2))
  | 0 => fun _ _ _ r h => by simp [laws_eqEntryS.l0] at h
  | k + 1 => by
    have ih0 := laws_eqEntryS.mono_l k
    · intro y0 y1 y2
      unfold laws_eqEntryS.l0
      repeat' first
      | (with_reducible exact ih0 _ _ _)
      | (with_reducible exact laws_eqEntry.mono _ _ _ _ _ _ _ _ _ _ _ _ _ _ _ _ _ _ _ _ _)
      | (with_reducible exact LeO.refl _)
      | (with_reducible exact LeO.none _)
      | (with_reducible refine LeO.ite ?_ ?_)
      | (with_reducible refine LeO.bind ?_ (fun _ => ?_))
      | exact ih0 _ _ _
      | exact laws_eqEntry.mono _ _ _ _ _ _ _ _ _ _ _ _ _ _ _ _ _ _ _ _ _
      | exact LeO.none _
      | refine LeO.ite ?_ ?_
      | refine LeO.bind ?_ (fun _ => ?_)
theorem laws_eqEntryS.mono : ∀ a0 a1 k, LeO (laws_eqEntryS.f k a0 a1) (laws_eqEntryS.f (k + 1) a0 a1) := by
  intro a0 a1 k
  have ih0 := laws_eqEntryS.mono_l k
  unfold laws_eqEntryS.f
  repeat' first
      | (with_reducible exact ih0 _ _ _)
      | (with_reducible exact laws_eqEntry.mono _ _ _ _ _ _ _ _ _ _ _ _ _ _ _ _ _ _ _ _ _)
      | (with_reducible exact LeO.refl _)
      | (with_reducible exact LeO.none _)
      | (with_reducible refine LeO.ite ?_ ?_)
      | (with_reducible refine LeO.bind ?_ (fun _ => ?_))
      | exact ih0 _ _ _
      | exact laws_eqEntry.mono _ _ _ _ _ _ _ _ _ _ _ _ _ _ _ _ _ _ _ _ _
      | exact LeO.none _
      | refine LeO.ite ?_ ?_
      | refine LeO.bind ?_ (fun _ => ?_)
def laws_eqEntryS.T6 : Bool × List (List Nat × List Nat) := (true, [([], []), ([], []), ([0, 1], [0, 1]), ([2], [2]), ([], []), ([], []), ([4, 5], [4, 5]), ([6], [6]), ([3, 7], [3, 7]), ([8], [8])])
def laws_eqEntryS.B6 : List Nat := [0, 0, 3, 7, 0, 0, 48, 112, 255, 511]
theorem laws_eqEntryS.tab6 : rtab .any (opsOf Try.f105 6) = laws_eqEntryS.T6 := by kernel_rfl
theorem laws_eqEntryS.bits6 : waitsOk laws_eqEntryS.T6.2 laws_eqEntryS.B6 = true := by kernel_rfl
set_option maxHeartbeats 8000000 in
set_option maxRecDepth 100000 in
theorem laws_eqEntryS.calls (k : Nat) (A0 : Option Addr) (c0 : Nat) (l0 : List (S66)) (A1 : Option Addr) (c1 : Nat) (l1 : List (S66)) (r : Bool) (w : World) (hr0 : Kd.C k66 w A0 l0.length l0) (hc0 : l0.length ≤ c0) (hr1 : Kd.C k66 w A1 l1.length l1) (hc1 : l1.length ≤ c1) (h : laws_eqEntryS.f k l0 l1 = some r) :
    Calls Try.prog 105 #[.slice A0 l0.length c0, .slice A1 l1.length c1] w fun e w' => e = .returned (.bool r) ∧ Below w.heap.size w w' := by
  have hu66 := Try.underlying66
  have HR0 := Aside0.mk hr0
  have HC0 := Aside0.mk hc0
  clear hr0 hc0
  have HR1 := Aside0.mk hr1
  have HC1 := Aside0.mk hc1
  clear hr1 hc1
  have HB := Aside0.mk (Below.refl w.heap.size w)
  have H : (if (l0.length : Int) = (l1.length : Int) then (laws_eqEntryS.l0 k l0 l1 0) else (some false)) = some r := h
  clear h
  by_cases c3 : (l0.length : Int) = (l1.length : Int)
  · rw [if_pos c3] at H
    have c3b0 : ((l0.length : Int) == (l1.length : Int)) = true := beq_iff_eq.mpr c3
    have c3b1 : ((l0.length : Int) != (l1.length : Int)) = false := bne_eq_false_iff_eq.mpr c3
    have c3b2 : (l0.length == l1.length) = true := by first | simpa using c3 | (simp at c3 ⊢; omega)
    clear c3
    have H' := Aside0.mk H
    clear H
    go_enter Try.func105, Try.ntmps105
    go_wp2
    go_loopg [5] k (fun kq v5 w' => ∃ (x5_1 : Int), v5 = .int .i64 x5_1 ∧ Aside0 (laws_eqEntryS.l0 kq l0 l1 x5_1 = some r) ∧ Aside0 (kq ≤ k) ∧ Aside0 (Below w.heap.size w w'))
    case atStart => exact ⟨(0), (by first | rfl | (simp; done) | (simp [*]; done)), H', ⟨Nat.le_refl _⟩, ⟨by repeat (first | (with_reducible first | exact HB.out | apply below_alloc | apply pw_below_drewN | apply below_drew1) | exact HB.out)⟩⟩
    case round =>
      clear H'
      try clear c1
      try clear p2
      try clear c3
      try clear c3b0
      try clear c3b1
      try clear c3b2
      obtain ⟨x5_1, rfl, HA, HK1, HB⟩ := hrel
      cases gk with
      | zero => exact absurd HA.out (by simp [laws_eqEntryS.l0])
      | succ k1 =>
        have H := HA.out
        clear HA
        simp only [laws_eqEntryS.l0] at H
        by_cases c4 : x5_1 < (l0.length : Int)
        · rw [if_pos c4] at H
          have c4b0 : decide (x5_1 < (l0.length : Int)) = true := decide_eq_true c4
          clear c4
          by_cases c5 : 0 ≤ x5_1
          · rw [if_pos c5] at H
            have c5b0 : decide (0 ≤ x5_1) = true := decide_eq_true c5
            clear c5
            by_cases c6 : x5_1 < (l1.length : Int)
            · rw [if_pos c6] at H
              have c6b0 : decide (x5_1 < (l1.length : Int)) = true := decide_eq_true c6
              clear c6
              replace H := Option.bind_eq_some_iff.mp H
              obtain ⟨t689, A70, H⟩ := H
              replace H : (if t689 = true then (laws_eqEntryS.l0 k1 l0 l1 (wrap64 (x5_1 + 1))) else (some false)) = some r := H
              have A7 := Aside0.mk A70
              clear A70
              have HF8 := Aside0.mk H
              clear H
              try go_wp2
              have n0_ := Aside0.mk (below_drew1 HB.out)
              clear HB
              have HB := n0_
              clear n0_
              have p687 : 0 ≤ (x5_1 : Int) := of_decide_eq_true (by first | (with_reducible assumption) | assumption)
              have q687 : x5_1 < (l0.length : Int) := of_decide_eq_true (by first | (with_reducible assumption) | assumption)
              obtain ⟨ad687, A687_1, c687_1, A687_3, c687_3, A687_5, c687_5, e687, hx687_0, hx687_1, hx687_2, hx687_3, hx687_4, hx687_5, hx687_6, hx687_7, hx687_8, hx687_9, hl687_1, hi687_1, hl687_3, hi687_3, hl687_5, hi687_5⟩ := at_T66 HR0.out x5_1 p687 q687
              have hw687_9 := hx687_9
              have hw687_8 := hx687_8
              have hw687_7 := hx687_7
              have hw687_6 := hx687_6
              have hw687_5 := hx687_5
              have hw687_4 := hx687_4
              have hw687_3 := hx687_3
              have hw687_2 := hx687_2
              have hw687_1 := hx687_1
              have hw687_0 := hx687_0
              cases e687
              replace hx687_0 := (HB.out.cell (World.block_lt_of_cell? w _ hx687_0)).trans hx687_0
              replace hx687_1 := (HB.out.cell (World.block_lt_of_cell? w _ hx687_1)).trans hx687_1
              replace hx687_2 := (HB.out.cell (World.block_lt_of_cell? w _ hx687_2)).trans hx687_2
              replace hx687_3 := (HB.out.cell (World.block_lt_of_cell? w _ hx687_3)).trans hx687_3
              replace hx687_4 := (HB.out.cell (World.block_lt_of_cell? w _ hx687_4)).trans hx687_4
              replace hx687_5 := (HB.out.cell (World.block_lt_of_cell? w _ hx687_5)).trans hx687_5
              replace hx687_6 := (HB.out.cell (World.block_lt_of_cell? w _ hx687_6)).trans hx687_6
              replace hx687_7 := (HB.out.cell (World.block_lt_of_cell? w _ hx687_7)).trans hx687_7
              replace hx687_8 := (HB.out.cell (World.block_lt_of_cell? w _ hx687_8)).trans hx687_8
              replace hx687_9 := (HB.out.cell (World.block_lt_of_cell? w _ hx687_9)).trans hx687_9
              have HR687_1 := Aside0.mk hi687_1
              have HC687_1 := Aside0.mk hl687_1
              clear hi687_1 hl687_1
              have HR687_3 := Aside0.mk hi687_3
              have HC687_3 := Aside0.mk hl687_3
              clear hi687_3 hl687_3
              have HR687_5 := Aside0.mk hi687_5
              have HC687_5 := Aside0.mk hl687_5
              clear hi687_5 hl687_5
              replace p687 := eq_true p687
              replace q687 := eq_true q687
              have p688 : 0 ≤ (x5_1 : Int) := of_decide_eq_true (by first | (with_reducible assumption) | assumption)
              have q688 : x5_1 < (l1.length : Int) := of_decide_eq_true (by first | (with_reducible assumption) | assumption)
              obtain ⟨ad688, A688_1, c688_1, A688_3, c688_3, A688_5, c688_5, e688, hx688_0, hx688_1, hx688_2, hx688_3, hx688_4, hx688_5, hx688_6, hx688_7, hx688_8, hx688_9, hl688_1, hi688_1, hl688_3, hi688_3, hl688_5, hi688_5⟩ := at_T66 HR1.out x5_1 p688 q688
              have hw688_9 := hx688_9
              have hw688_8 := hx688_8
              have hw688_7 := hx688_7
              have hw688_6 := hx688_6
              have hw688_5 := hx688_5
              have hw688_4 := hx688_4
              have hw688_3 := hx688_3
              have hw688_2 := hx688_2
              have hw688_1 := hx688_1
              have hw688_0 := hx688_0
              cases e688
              replace hx688_0 := (HB.out.cell (World.block_lt_of_cell? w _ hx688_0)).trans hx688_0
              replace hx688_1 := (HB.out.cell (World.block_lt_of_cell? w _ hx688_1)).trans hx688_1
              replace hx688_2 := (HB.out.cell (World.block_lt_of_cell? w _ hx688_2)).trans hx688_2
              replace hx688_3 := (HB.out.cell (World.block_lt_of_cell? w _ hx688_3)).trans hx688_3
              replace hx688_4 := (HB.out.cell (World.block_lt_of_cell? w _ hx688_4)).trans hx688_4
              replace hx688_5 := (HB.out.cell (World.block_lt_of_cell? w _ hx688_5)).trans hx688_5
              replace hx688_6 := (HB.out.cell (World.block_lt_of_cell? w _ hx688_6)).trans hx688_6
              replace hx688_7 := (HB.out.cell (World.block_lt_of_cell? w _ hx688_7)).trans hx688_7
              replace hx688_8 := (HB.out.cell (World.block_lt_of_cell? w _ hx688_8)).trans hx688_8
              replace hx688_9 := (HB.out.cell (World.block_lt_of_cell? w _ hx688_9)).trans hx688_9
              have HR688_1 := Aside0.mk hi688_1
              have HC688_1 := Aside0.mk hl688_1
              clear hi688_1 hl688_1
              have HR688_3 := Aside0.mk hi688_3
              have HC688_3 := Aside0.mk hl688_3
              clear hi688_3 hl688_3
              have HR688_5 := Aside0.mk hi688_5
              have HC688_5 := Aside0.mk hl688_5
              clear hi688_5 hl688_5
              replace p688 := eq_true p688
              replace q688 := eq_true q688
              refine start_ (n := 10) (S := fun w' => w'.cell? (ad687.add ((x5_1).toNat * 10)) = some (.string ((rd_T66 l0 x5_1).f0)) ∧ w'.cell? ⟨(ad687.add ((x5_1).toNat * 10)).block, (ad687.add ((x5_1).toNat * 10)).off + 1, none⟩ = some (.slice A687_1 ((rd_T66 l0 x5_1).f1).length c687_1) ∧ w'.cell? ⟨(ad687.add ((x5_1).toNat * 10)).block, (ad687.add ((x5_1).toNat * 10)).off + 2, none⟩ = some (.int .i64 ((rd_T66 l0 x5_1).f2.f0)) ∧ w'.cell? ⟨(ad687.add ((x5_1).toNat * 10)).block, (ad687.add ((x5_1).toNat * 10)).off + 3, none⟩ = some (.slice A687_3 ((rd_T66 l0 x5_1).f2.f1).length c687_3) ∧ w'.cell? ⟨(ad687.add ((x5_1).toNat * 10)).block, (ad687.add ((x5_1).toNat * 10)).off + 4, none⟩ = some (.string ((rd_T66 l0 x5_1).f2.f2)) ∧ w'.cell? ⟨(ad687.add ((x5_1).toNat * 10)).block, (ad687.add ((x5_1).toNat * 10)).off + 5, none⟩ = some (.slice A687_5 ((rd_T66 l0 x5_1).f3).length c687_5) ∧ w'.cell? ⟨(ad687.add ((x5_1).toNat * 10)).block, (ad687.add ((x5_1).toNat * 10)).off + 6, none⟩ = some (.int .i64 ((rd_T66 l0 x5_1).f4)) ∧ w'.cell? ⟨(ad687.add ((x5_1).toNat * 10)).block, (ad687.add ((x5_1).toNat * 10)).off + 7, none⟩ = some (.int .i64 ((rd_T66 l0 x5_1).f5)) ∧ w'.cell? ⟨(ad687.add ((x5_1).toNat * 10)).block, (ad687.add ((x5_1).toNat * 10)).off + 8, none⟩ = some (.int .i64 ((rd_T66 l0 x5_1).f6)) ∧ w'.cell? ⟨(ad687.add ((x5_1).toNat * 10)).block, (ad687.add ((x5_1).toNat * 10)).off + 9, none⟩ = some (.int .i64 ((rd_T66 l0 x5_1).f7)) ∧ w'.cell? (ad688.add ((x5_1).toNat * 10)) = some (.string ((rd_T66 l1 x5_1).f0)) ∧ w'.cell? ⟨(ad688.add ((x5_1).toNat * 10)).block, (ad688.add ((x5_1).toNat * 10)).off + 1, none⟩ = some (.slice A688_1 ((rd_T66 l1 x5_1).f1).length c688_1) ∧ w'.cell? ⟨(ad688.add ((x5_1).toNat * 10)).block, (ad688.add ((x5_1).toNat * 10)).off + 2, none⟩ = some (.int .i64 ((rd_T66 l1 x5_1).f2.f0)) ∧ w'.cell? ⟨(ad688.add ((x5_1).toNat * 10)).block, (ad688.add ((x5_1).toNat * 10)).off + 3, none⟩ = some (.slice A688_3 ((rd_T66 l1 x5_1).f2.f1).length c688_3) ∧ w'.cell? ⟨(ad688.add ((x5_1).toNat * 10)).block, (ad688.add ((x5_1).toNat * 10)).off + 4, none⟩ = some (.string ((rd_T66 l1 x5_1).f2.f2)) ∧ w'.cell? ⟨(ad688.add ((x5_1).toNat * 10)).block, (ad688.add ((x5_1).toNat * 10)).off + 5, none⟩ = some (.slice A688_5 ((rd_T66 l1 x5_1).f3).length c688_5) ∧ w'.cell? ⟨(ad688.add ((x5_1).toNat * 10)).block, (ad688.add ((x5_1).toNat * 10)).off + 6, none⟩ = some (.int .i64 ((rd_T66 l1 x5_1).f4)) ∧ w'.cell? ⟨(ad688.add ((x5_1).toNat * 10)).block, (ad688.add ((x5_1).toNat * 10)).off + 7, none⟩ = some (.int .i64 ((rd_T66 l1 x5_1).f5)) ∧ w'.cell? ⟨(ad688.add ((x5_1).toNat * 10)).block, (ad688.add ((x5_1).toNat * 10)).off + 8, none⟩ = some (.int .i64 ((rd_T66 l1 x5_1).f6)) ∧ w'.cell? ⟨(ad688.add ((x5_1).toNat * 10)).block, (ad688.add ((x5_1).toNat * 10)).off + 9, none⟩ = some (.int .i64 ((rd_T66 l1 x5_1).f7))) (ds := []) #[false, false, false, false, false, false, false, false, false, false] (by kernel_rfl) rfl rfl ⟨((HB.out.cell (World.block_lt_of_cell? w _ hw687_0)).trans hw687_0), ((HB.out.cell (World.block_lt_of_cell? w _ hw687_1)).trans hw687_1), ((HB.out.cell (World.block_lt_of_cell? w _ hw687_2)).trans hw687_2), ((HB.out.cell (World.block_lt_of_cell? w _ hw687_3)).trans hw687_3), ((HB.out.cell (World.block_lt_of_cell? w _ hw687_4)).trans hw687_4), ((HB.out.cell (World.block_lt_of_cell? w _ hw687_5)).trans hw687_5), ((HB.out.cell (World.block_lt_of_cell? w _ hw687_6)).trans hw687_6), ((HB.out.cell (World.block_lt_of_cell? w _ hw687_7)).trans hw687_7), ((HB.out.cell (World.block_lt_of_cell? w _ hw687_8)).trans hw687_8), ((HB.out.cell (World.block_lt_of_cell? w _ hw687_9)).trans hw687_9), ((HB.out.cell (World.block_lt_of_cell? w _ hw688_0)).trans hw688_0), ((HB.out.cell (World.block_lt_of_cell? w _ hw688_1)).trans hw688_1), ((HB.out.cell (World.block_lt_of_cell? w _ hw688_2)).trans hw688_2), ((HB.out.cell (World.block_lt_of_cell? w _ hw688_3)).trans hw688_3), ((HB.out.cell (World.block_lt_of_cell? w _ hw688_4)).trans hw688_4), ((HB.out.cell (World.block_lt_of_cell? w _ hw688_5)).trans hw688_5), ((HB.out.cell (World.block_lt_of_cell? w _ hw688_6)).trans hw688_6), ((HB.out.cell (World.block_lt_of_cell? w _ hw688_7)).trans hw688_7), ((HB.out.cell (World.block_lt_of_cell? w _ hw688_8)).trans hw688_8), ((HB.out.cell (World.block_lt_of_cell? w _ hw688_9)).trans hw688_9)⟩ (fun hHeld => ?_); refine with_tabW laws_eqEntryS.tab6 laws_eqEntryS.bits6 (fun HT_ HW_ => ?_)
              generalize wr.drew = w9 at HB HR687_1 HR687_3 HR687_5 HR688_1 HR688_3 HR688_5 hx687_0 hx687_1 hx687_2 hx687_3 hx687_4 hx687_5 hx687_6 hx687_7 hx687_8 hx687_9 hx688_0 hx688_1 hx688_2 hx688_3 hx688_4 hx688_5 hx688_6 hx688_7 hx688_8 hx688_9 hHeld ⊢
              refine pure_ (i := 0) (N := some 17) (v := ?_) (a' := ?_) #[true, false, false, false, false, false, false, false, false, false] rfl rfl (any_of HT_.out (by kernel_rfl)) (fun _ _ _ h => h) (Or.inl ⟨by rfl, ?_⟩) ?_ ?_
              rotate_left
              · intro w'
                go_simp
                with_reducible rfl
              rotate_left
              · simp only [Act.put, List.setIfInBounds_toArray, List.set_cons_zero, List.set_cons_succ, i64_w, i32_w]
                rfl
              refine pure_ (i := 1) (N := some 18) (v := ?_) (a' := ?_) #[true, true, false, false, false, false, false, false, false, false] rfl rfl (any_of HT_.out (by kernel_rfl)) (fun _ _ _ h => h) (Or.inl ⟨by rfl, ?_⟩) ?_ ?_
              rotate_left
              · intro w'
                go_simp
                with_reducible rfl
              rotate_left
              · simp only [Act.put, List.setIfInBounds_toArray, List.set_cons_zero, List.set_cons_succ, i64_w, i32_w]
                rfl
              refine pure_ (i := 2) (N := some 19) (v := ?_) (a' := ?_) #[true, true, true, false, false, false, false, false, false, false] rfl rfl (any_of HT_.out (by kernel_rfl)) (fun _ _ _ h => h) (Or.inl ⟨by rfl, ?_⟩) ?_ ?_
              rotate_left
              · intro w'
                go_simp
                with_reducible rfl
              rotate_left
              · simp only [Act.put, List.setIfInBounds_toArray, List.set_cons_zero, List.set_cons_succ, i64_w, i32_w]
                rfl
              refine pure_ (i := 4) (N := some 21) (v := ?_) (a' := ?_) #[true, true, true, false, true, false, false, false, false, false] rfl rfl (any_of HT_.out (by kernel_rfl)) (fun _ _ _ h => h) (Or.inl ⟨by rfl, ?_⟩) ?_ ?_
              rotate_left
              · intro w'
                go_simp
                with_reducible rfl
              rotate_left
              · simp only [Act.put, List.setIfInBounds_toArray, List.set_cons_zero, List.set_cons_succ, i64_w, i32_w]
                rfl
              refine pure_ (i := 5) (N := some 22) (v := ?_) (a' := ?_) #[true, true, true, false, true, true, false, false, false, false] rfl rfl (any_of HT_.out (by kernel_rfl)) (fun _ _ _ h => h) (Or.inl ⟨by rfl, ?_⟩) ?_ ?_
              rotate_left
              · intro w'
                go_simp
                with_reducible rfl
              rotate_left
              · simp only [Act.put, List.setIfInBounds_toArray, List.set_cons_zero, List.set_cons_succ, i64_w, i32_w]
                rfl
              refine pure_ (i := 6) (N := some 23) (v := ?_) (a' := ?_) #[true, true, true, false, true, true, true, false, false, false] rfl rfl (any_of HT_.out (by kernel_rfl)) (fun _ _ _ h => h) (Or.inl ⟨by rfl, ?_⟩) ?_ ?_
              rotate_left
              · intro w'
                go_simp
                with_reducible rfl
              rotate_left
              · simp only [Act.put, List.setIfInBounds_toArray, List.set_cons_zero, List.set_cons_succ, i64_w, i32_w]
                rfl
              refine take_ (i := 3) (N := some 20) (v := ?_) (a' := ?_) #[true, true, true, true, true, true, true, false, false, false] rfl rfl (take_ofW HT_.out HW_.out (by kernel_rfl)) (fun _ _ _ h => h) (Or.inl ⟨by rfl, ?_⟩) hHeld ?_ ?_
              rotate_left
              · rintro w' ⟨s0, s1, s2, s3, s4, s5, s6, s7, s8, s9, s10, s11, s12, s13, s14, s15, s16, s17, s18, s19⟩
                go_simp
                with_reducible rfl
              rotate_left
              · simp only [Act.put, List.setIfInBounds_toArray, List.set_cons_zero, List.set_cons_succ, i64_w, i32_w]
                rfl
              refine take_ (i := 7) (N := some 24) (v := ?_) (a' := ?_) #[true, true, true, true, true, true, true, true, false, false] rfl rfl (take_ofW HT_.out HW_.out (by kernel_rfl)) (fun _ _ _ h => h) (Or.inl ⟨by rfl, ?_⟩) hHeld ?_ ?_
              rotate_left
              · rintro w' ⟨s0, s1, s2, s3, s4, s5, s6, s7, s8, s9, s10, s11, s12, s13, s14, s15, s16, s17, s18, s19⟩
                go_simp
                with_reducible rfl
              rotate_left
              · simp only [Act.put, List.setIfInBounds_toArray, List.set_cons_zero, List.set_cons_succ, i64_w, i32_w]
                rfl
              refine one_ (i := 8) (N := some 25) #[true, true, true, true, true, true, true, true, true, false] rfl rfl (one_of HT_.out (by kernel_rfl)) (by decide) (fun K hK => ?_)
              refine goes_ Try.func44 (by kernel_rfl) rfl #[.agg #[.string ((rd_T66 l0 x5_1).f0), .slice A687_1 ((rd_T66 l0 x5_1).f1).length c687_1, .int .i64 ((rd_T66 l0 x5_1).f2.f0), .slice A687_3 ((rd_T66 l0 x5_1).f2.f1).length c687_3, .string ((rd_T66 l0 x5_1).f2.f2), .slice A687_5 ((rd_T66 l0 x5_1).f3).length c687_5, .int .i64 ((rd_T66 l0 x5_1).f4), .int .i64 ((rd_T66 l0 x5_1).f5), .int .i64 ((rd_T66 l0 x5_1).f6), .int .i64 ((rd_T66 l0 x5_1).f7)], .agg #[.string ((rd_T66 l1 x5_1).f0), .slice A688_1 ((rd_T66 l1 x5_1).f1).length c688_1, .int .i64 ((rd_T66 l1 x5_1).f2.f0), .slice A688_3 ((rd_T66 l1 x5_1).f2.f1).length c688_3, .string ((rd_T66 l1 x5_1).f2.f2), .slice A688_5 ((rd_T66 l1 x5_1).f3).length c688_5, .int .i64 ((rd_T66 l1 x5_1).f4), .int .i64 ((rd_T66 l1 x5_1).f5), .int .i64 ((rd_T66 l1 x5_1).f6), .int .i64 ((rd_T66 l1 x5_1).f7)]] (by rfl) rfl rfl (by (try simp only [List.map_toArray, List.map_cons, List.map_nil]); first | done | rfl | (simp only [List.length_drop, List.length_take]; rfl)) ?_
              with_reducible refine (laws_eqEntry.calls k1 ((rd_T66 l0 x5_1).f0) _ _ ((rd_T66 l0 x5_1).f1) ((rd_T66 l0 x5_1).f2.f0) _ _ ((rd_T66 l0 x5_1).f2.f1) ((rd_T66 l0 x5_1).f2.f2) _ _ ((rd_T66 l0 x5_1).f3) ((rd_T66 l0 x5_1).f4) ((rd_T66 l0 x5_1).f5) ((rd_T66 l0 x5_1).f6) ((rd_T66 l0 x5_1).f7) ((rd_T66 l1 x5_1).f0) _ _ ((rd_T66 l1 x5_1).f1) ((rd_T66 l1 x5_1).f2.f0) _ _ ((rd_T66 l1 x5_1).f2.f1) ((rd_T66 l1 x5_1).f2.f2) _ _ ((rd_T66 l1 x5_1).f3) ((rd_T66 l1 x5_1).f4) ((rd_T66 l1 x5_1).f5) ((rd_T66 l1 x5_1).f6) ((rd_T66 l1 x5_1).f7) t689 _ ?side1 ?side2 ?side3 ?side4 ?side5 ?side6 ?side7 ?side8 ?side9 ?side10 ?side11 ?side12 A7.out).mono ?_
              (case side1 => repeat (first | exact (Kd.C_below HR687_1.out HB.out) | (with_reducible refine Kd.C_alloc ?_ _) | (with_reducible refine Kd.C_drewN ?_ _) | (with_reducible refine Kd.C_drew ?_)))
              (case side2 => exact HC687_1.out)
              (case side3 => repeat (first | exact (Kd.C_below HR687_3.out HB.out) | (with_reducible refine Kd.C_alloc ?_ _) | (with_reducible refine Kd.C_drewN ?_ _) | (with_reducible refine Kd.C_drew ?_)))
              (case side4 => exact HC687_3.out)
              (case side5 => repeat (first | exact (Kd.C_below HR687_5.out HB.out) | (with_reducible refine Kd.C_alloc ?_ _) | (with_reducible refine Kd.C_drewN ?_ _) | (with_reducible refine Kd.C_drew ?_)))
              (case side6 => exact HC687_5.out)
              (case side7 => repeat (first | exact (Kd.C_below HR688_1.out HB.out) | (with_reducible refine Kd.C_alloc ?_ _) | (with_reducible refine Kd.C_drewN ?_ _) | (with_reducible refine Kd.C_drew ?_)))
              (case side8 => exact HC688_1.out)
              (case side9 => repeat (first | exact (Kd.C_below HR688_3.out HB.out) | (with_reducible refine Kd.C_alloc ?_ _) | (with_reducible refine Kd.C_drewN ?_ _) | (with_reducible refine Kd.C_drew ?_)))
              (case side10 => exact HC688_3.out)
              (case side11 => repeat (first | exact (Kd.C_below HR688_5.out HB.out) | (with_reducible refine Kd.C_alloc ?_ _) | (with_reducible refine Kd.C_drewN ?_ _) | (with_reducible refine Kd.C_drew ?_)))
              (case side12 => exact HC688_5.out)
              rintro e w10 ⟨rfl, hb⟩
              refine ⟨_, rfl, ?_⟩
              have n0_ := Aside0.mk (below_step (by repeat (first | (with_reducible first | exact HB.out | apply below_alloc | apply pw_below_drewN | apply below_drew1) | exact HB.out)) hb)
              clear HB
              have HB := n0_
              clear n0_
              (try clear hb)
              (try clear hb2)
              (try clear hk)
              (try clear hi)
              refine hK.out _ _ ⟨((HB.out.cell (World.block_lt_of_cell? w _ hw687_0)).trans hw687_0), ((HB.out.cell (World.block_lt_of_cell? w _ hw687_1)).trans hw687_1), ((HB.out.cell (World.block_lt_of_cell? w _ hw687_2)).trans hw687_2), ((HB.out.cell (World.block_lt_of_cell? w _ hw687_3)).trans hw687_3), ((HB.out.cell (World.block_lt_of_cell? w _ hw687_4)).trans hw687_4), ((HB.out.cell (World.block_lt_of_cell? w _ hw687_5)).trans hw687_5), ((HB.out.cell (World.block_lt_of_cell? w _ hw687_6)).trans hw687_6), ((HB.out.cell (World.block_lt_of_cell? w _ hw687_7)).trans hw687_7), ((HB.out.cell (World.block_lt_of_cell? w _ hw687_8)).trans hw687_8), ((HB.out.cell (World.block_lt_of_cell? w _ hw687_9)).trans hw687_9), ((HB.out.cell (World.block_lt_of_cell? w _ hw688_0)).trans hw688_0), ((HB.out.cell (World.block_lt_of_cell? w _ hw688_1)).trans hw688_1), ((HB.out.cell (World.block_lt_of_cell? w _ hw688_2)).trans hw688_2), ((HB.out.cell (World.block_lt_of_cell? w _ hw688_3)).trans hw688_3), ((HB.out.cell (World.block_lt_of_cell? w _ hw688_4)).trans hw688_4), ((HB.out.cell (World.block_lt_of_cell? w _ hw688_5)).trans hw688_5), ((HB.out.cell (World.block_lt_of_cell? w _ hw688_6)).trans hw688_6), ((HB.out.cell (World.block_lt_of_cell? w _ hw688_7)).trans hw688_7), ((HB.out.cell (World.block_lt_of_cell? w _ hw688_8)).trans hw688_8), ((HB.out.cell (World.block_lt_of_cell? w _ hw688_9)).trans hw688_9)⟩ (fun hHeld => ?_)
              clear hK K
              refine norm_ (a' := ?_) ?_ ?_
              rotate_left
              · show Act.put _ (some 25) _ = _
                simp only [Act.put, List.setIfInBounds_toArray, List.set_cons_zero, List.set_cons_succ, i64_w, i32_w]
                rfl
              refine pure_ (i := 9) (N := some 26) (v := ?_) (a' := ?_) #[true, true, true, true, true, true, true, true, true, true] rfl rfl (any_of HT_.out (by kernel_rfl)) (fun _ _ _ h => h) (Or.inl ⟨by rfl, ?_⟩) ?_ ?_
              rotate_left
              · intro w'
                go_simp
                with_reducible rfl
              rotate_left
              · simp only [Act.put, List.setIfInBounds_toArray, List.set_cons_zero, List.set_cons_succ, i64_w, i32_w]
                rfl
              refine done_ (done_of HT_.out (by kernel_rfl)) ?_
              go_upto_if 26 with (fail)
              have H := HF8.out
              clear HF8
              by_cases c11 : t689 = true
              · subst c11
                have H1 : (laws_eqEntryS.l0 k1 l0 l1 (wrap64 (x5_1 + 1))) = some r := by rw [if_pos rfl] at H; exact H
                clear H
                have H := H1
                clear H1
                have H' := Aside0.mk H
                clear H
                go_wp2
                go_roundg k1
                case measure => have := HK1.out; omega
                case rel => exact ⟨(wrap64 (x5_1 + 1)), (by first | rfl | (simp; done) | (simp [*]; done)), H', ⟨by have := HK1.out; omega⟩, ⟨by repeat (first | (with_reducible first | exact HB.out | apply below_alloc | apply pw_below_drewN | apply below_drew1) | exact HB.out)⟩⟩
              · replace c11 := Bool.eq_false_iff.mpr c11
                subst c11
                have H1 : (some false) = some r := by rw [if_neg (show ¬ (false = true) by decide)] at H; exact H
                clear H
                have H := H1
                clear H1
                obtain rfl := Option.some.inj H
                go_wp2
                go_ret
                exact ⟨by first | rfl | (simp [errW_none, errW_some] <;> rfl) | (simp [*, errW_none, errW_some] <;> rfl), by repeat (first | (with_reducible first | exact HB.out | apply below_alloc | apply pw_below_drewN | apply below_drew1) | exact HB.out)⟩
            · rw [if_neg c6] at H
              exact absurd H (by simp)
          · rw [if_neg c5] at H
            exact absurd H (by simp)
        · rw [if_neg c4] at H
          have c4b0 : decide (x5_1 < (l0.length : Int)) = false := decide_eq_false c4
          clear c4
          obtain rfl := Option.some.inj H
          go_wp2
          go_ret
          exact ⟨by first | rfl | (simp [errW_none, errW_some] <;> rfl) | (simp [*, errW_none, errW_some] <;> rfl), by repeat (first | (with_reducible first | exact HB.out | apply below_alloc | apply pw_below_drewN | apply below_drew1) | exact HB.out)⟩
  · rw [if_neg c3] at H
    have c3b0 : ((l0.length : Int) == (l1.length : Int)) = false := beq_eq_false_iff_ne.mpr c3
    have c3b1 : ((l0.length : Int) != (l1.length : Int)) = true := bne_iff_ne.mpr c3
    have c3b2 : (l0.length == l1.length) = false := by first | simpa using c3 | (simp at c3 ⊢; omega)
    obtain rfl := Option.some.inj H
    go_enter Try.func105, Try.ntmps105
    go_wp2
    go_ret
    exact ⟨by first | rfl | (simp [errW_none, errW_some] <;> rfl) | (simp [*, errW_none, errW_some] <;> rfl), by repeat (first | (with_reducible first | exact HB.out | apply below_alloc | apply pw_below_drewN | apply below_drew1) | exact HB.out)⟩


end Go.Proofs.Ytelmcjohkifeeaa.PA

namespace Go.Proofs.Ytelmcjohkifeeaa.PA
open Go.RowKit Go.Proofs.YtelmcjohkifeeaaW.PrintWords Go.Proofs.YtelmcjohkifeeaaW.PrintLast Go.Proofs.YtelmcjohkifeeaaW.PrintMore
attribute [local go_sem] max2_int min2_int max_two min_two max_three min_three max_four min_four   -- for this text's walks alone
set_option linter.unusedVariables false
set_option linter.unusedSimpArgs false
/-! ### laws_eqStore: function 55 -/
def laws_eqStore.f (k : Nat) (l0_0 : List (S66)) (l1_0 : List (S66)) : Option (Bool) := (laws_eqEntryS.f k l0_0 l1_0).bind fun t692 => (if t692 = true then (some true) else (some false))
theorem laws_eqStore.mono : ∀ a0 a1 k, LeO (laws_eqStore.f k a0 a1) (laws_eqStore.f (k + 1) a0 a1) := by
  intro a0 a1 k
  unfold laws_eqStore.f
  repeat' first
      | (with_reducible exact laws_eqEntryS.mono _ _ _)
      | (with_reducible exact LeO.refl _)
      | (with_reducible exact LeO.none _)
      | (with_reducible refine LeO.ite ?_ ?_)
      | (with_reducible refine LeO.bind ?_ (fun _ => ?_))
      | exact laws_eqEntryS.mono _ _ _
      | exact LeO.none _
      | refine LeO.ite ?_ ?_
      | refine LeO.bind ?_ (fun _ => ?_)
set_option maxHeartbeats 8000000 in
set_option maxRecDepth 100000 in
theorem laws_eqStore.calls (k : Nat) (A0_0 : Option Addr) (c0_0 : Nat) (l0_0 : List (S66)) (A1_0 : Option Addr) (c1_0 : Nat) (l1_0 : List (S66)) (r : Bool) (w : World) (hr0_0 : Kd.C k66 w A0_0 l0_0.length l0_0) (hc0_0 : l0_0.length ≤ c0_0) (hr1_0 : Kd.C k66 w A1_0 l1_0.length l1_0) (hc1_0 : l1_0.length ≤ c1_0) (h : laws_eqStore.f k l0_0 l1_0 = some r) :
    Calls Try.prog 55 #[.agg #[.slice A0_0 l0_0.length c0_0], .agg #[.slice A1_0 l1_0.length c1_0]] w fun e w' => e = .returned (.bool r) ∧ Below w.heap.size w w' := by
  have hu86 := Try.underlying86
  have HR0_0 := Aside0.mk hr0_0
  have HC0_0 := Aside0.mk hc0_0
  clear hr0_0 hc0_0
  have HR1_0 := Aside0.mk hr1_0
  have HC1_0 := Aside0.mk hc1_0
  clear hr1_0 hc1_0
  have HB := Aside0.mk (Below.refl w.heap.size w)
  have H : ((laws_eqEntryS.f k l0_0 l1_0).bind fun t692 => (if t692 = true then (some true) else (some false))) = some r := h
  clear h
  replace H := Option.bind_eq_some_iff.mp H
  obtain ⟨t692, A30, H⟩ := H
  replace H : (if t692 = true then (some true) else (some false)) = some r := H
  have A3 := Aside0.mk A30
  clear A30
  have HF4 := Aside0.mk H
  clear H
  go_enter Try.func55, Try.ntmps55
  go_upto_if 10 with (first | ((with_reducible refine gate_dst (N := 2) rfl ?_); refine box_event ?hg (N := 2) ?hd (cs := #[.slice A0_0 l0_0.length c0_0]) (t := 86) ?hr ?_; (case hd => rfl); (case hg => rfl); (case hr => first | (go_simp; done) | (go_simp; rfl)); intro gb690 hg w5 hbox hb; have n0_ := Aside0.mk (below_step (by repeat (first | (with_reducible first | exact HB.out | apply below_alloc | apply pw_below_drewN | apply below_drew1) | exact HB.out)) hb); have n1_ := Aside0.mk (hbox); have n2_ := Aside0.mk ((by rw [hg]; exact (below_size (by repeat (first | (with_reducible first | exact HB.out | apply below_alloc | apply pw_below_drewN | apply below_drew1) | exact HB.out))) : w.heap.size ≤ gb690)); have n3_ := Aside0.mk ((by rw [hg]; exact (below_size (by repeat (first | (with_reducible first | exact HB.out | apply below_alloc | apply pw_below_drewN | apply below_drew1) | exact HB.out))) : w.heap.size ≤ gb690)); clear HB; have HB := n0_; have BK690 := n1_; have GW690 := n2_; have GE690 := n3_; clear n0_ n1_ n2_ n3_; clear hb hbox hg) | ((with_reducible refine gate_dst (N := 3) rfl ?_); refine box_event ?hg (N := 3) ?hd (cs := #[.slice A1_0 l1_0.length c1_0]) (t := 86) ?hr ?_; (case hd => rfl); (case hg => rfl); (case hr => first | (go_simp; done) | (go_simp; rfl)); intro gb691 hg w6 hbox hb; have n0_ := Aside0.mk (blk_below (g := gb690) (o := .cells #[.slice A0_0 l0_0.length c0_0] 86 (0, 0)) (by (with_reducible repeat (first | refine blk_drewN ?_ _ | refine blk_drew ?_ | refine blk_alloc ?_ _)); exact BK690.out) hb); have n1_ := Aside0.mk (below_step (by repeat (first | (with_reducible first | exact HB.out | apply below_alloc | apply pw_below_drewN | apply below_drew1 | refine below_set ?_ GE690.out) | exact HB.out)) hb); have n2_ := Aside0.mk (hbox); have n3_ := Aside0.mk ((by rw [hg]; exact (below_size (by repeat (first | (with_reducible first | exact HB.out | apply below_alloc | apply pw_below_drewN | apply below_drew1 | refine below_set ?_ GE690.out) | exact HB.out))) : w.heap.size ≤ gb691)); have n4_ := Aside0.mk ((by rw [hg]; exact (below_size (by repeat (first | (with_reducible first | exact HB.out | apply below_alloc | apply pw_below_drewN | apply below_drew1 | refine below_set ?_ GE690.out) | exact HB.out))) : w.heap.size ≤ gb691)); have n5_ := Aside0.mk ((by rw [hg]; exact Nat.ne_of_lt (blk_lt (g := gb690) (o := .cells #[.slice A0_0 l0_0.length c0_0] 86 (0, 0)) (by (with_reducible repeat (first | refine blk_drewN ?_ _ | refine blk_drew ?_ | refine blk_alloc ?_ _)); exact BK690.out)) : gb690 ≠ gb691)); have n6_ := Aside0.mk ((by rw [hg]; exact Nat.ne_of_gt (blk_lt (g := gb690) (o := .cells #[.slice A0_0 l0_0.length c0_0] 86 (0, 0)) (by (with_reducible repeat (first | refine blk_drewN ?_ _ | refine blk_drew ?_ | refine blk_alloc ?_ _)); exact BK690.out)) : gb691 ≠ gb690)); clear BK690; clear HB; have BK690 := n0_; have HB := n1_; have BK691 := n2_; have GW691 := n3_; have GE691 := n4_; have NB690_691 := n5_; have NB691_690 := n6_; clear n0_ n1_ n2_ n3_ n4_ n5_ n6_; clear hb hbox hg; have hnb7 := NB690_691.out; have hnc7 := NB691_690.out; have hcz8_0 : w6.cell? ⟨gb690, 0, none⟩ = some (.slice A0_0 l0_0.length c0_0) := (blk_cell BK690.out 0).trans rfl; have hfz8_0 := blk_frozen BK690.out 0; have hcz9_0 : w6.cell? ⟨gb691, 0, none⟩ = some (.slice A1_0 l1_0.length c1_0) := (blk_cell BK691.out 0).trans rfl; have hfz9_0 := blk_frozen BK691.out 0) | ((with_reducible refine gate_callee (f := 105) rfl ?_); refine goesL_ (some 9) rfl rfl Try.func105 (by kernel_rfl) rfl #[.slice A0_0 l0_0.length c0_0, .slice A1_0 l1_0.length c1_0] rfl (by (try simp only [List.map_toArray, List.map_cons, List.map_nil]); first | done | rfl | (simp only [List.length_drop, List.length_take]; rfl)) ?_; (with_reducible refine (laws_eqEntryS.calls k _ _ l0_0 _ _ l1_0 t692 _ ?side1 ?side2 ?side3 ?side4 A3.out).mono ?_); (case side1 => repeat (first | exact (Kd.C_below HR0_0.out HB.out) | (with_reducible refine Kd.C_alloc ?_ _) | (with_reducible refine Kd.C_drewN ?_ _) | (with_reducible refine Kd.C_drew ?_))); (case side2 => exact HC0_0.out); (case side3 => repeat (first | exact (Kd.C_below HR1_0.out HB.out) | (with_reducible refine Kd.C_alloc ?_ _) | (with_reducible refine Kd.C_drewN ?_ _) | (with_reducible refine Kd.C_drew ?_))); (case side4 => exact HC1_0.out); rintro e w10 ⟨rfl, hb⟩; refine ⟨_, rfl, ?_⟩; have n0_ := Aside0.mk (blk_below (g := gb690) (o := .cells #[.slice A0_0 l0_0.length c0_0] 86 (0, 0)) (by (with_reducible repeat (first | refine blk_drewN ?_ _ | refine blk_drew ?_ | refine blk_alloc ?_ _)); exact BK690.out) hb); have n1_ := Aside0.mk (blk_below (g := gb691) (o := .cells #[.slice A1_0 l1_0.length c1_0] 86 (0, 0)) (by (with_reducible repeat (first | refine blk_drewN ?_ _ | refine blk_drew ?_ | refine blk_alloc ?_ _)); exact BK691.out) hb); have n2_ := Aside0.mk (below_step (by repeat (first | (with_reducible first | exact HB.out | apply below_alloc | apply pw_below_drewN | apply below_drew1 | refine below_set ?_ GE690.out | refine below_set ?_ GE691.out) | exact HB.out)) hb); clear BK690; clear BK691; clear HB; have BK690 := n0_; have BK691 := n1_; have HB := n2_; clear n0_ n1_ n2_; (try clear hb); (try clear hb2); (try clear hk); (try clear hi)))
  have H := HF4.out
  clear HF4
  by_cases c11 : t692 = true
  · subst c11
    have H1 : (some true) = some r := by rw [if_pos rfl] at H; exact H
    clear H
    have H := H1
    clear H1
    obtain rfl := Option.some.inj H
    go_wp2
    go_ret
    exact ⟨by first | rfl | (simp [errW_none, errW_some] <;> rfl) | (simp [*, errW_none, errW_some] <;> rfl), by repeat (first | (with_reducible first | exact HB.out | apply below_alloc | apply pw_below_drewN | apply below_drew1 | refine below_set ?_ GE690.out | refine below_set ?_ GE691.out) | exact HB.out)⟩
  · replace c11 := Bool.eq_false_iff.mpr c11
    subst c11
    have H1 : (some false) = some r := by rw [if_neg (show ¬ (false = true) by decide)] at H; exact H
    clear H
    have H := H1
    clear H1
    obtain rfl := Option.some.inj H
    go_wp2
    go_ret
    exact ⟨by first | rfl | (simp [errW_none, errW_some] <;> rfl) | (simp [*, errW_none, errW_some] <;> rfl), by repeat (first | (with_reducible first | exact HB.out | apply below_alloc | apply pw_below_drewN | apply below_drew1 | refine below_set ?_ GE690.out | refine below_set ?_ GE691.out) | exact HB.out)⟩


end Go.Proofs.Ytelmcjohkifeeaa.PA

namespace Go.Proofs.Ytelmcjohkifeeaa.PA
open Go.RowKit Go.Proofs.YtelmcjohkifeeaaW.PrintWords Go.Proofs.YtelmcjohkifeeaaW.PrintLast Go.Proofs.YtelmcjohkifeeaaW.PrintMore
attribute [local go_sem] max2_int min2_int max_two min_two max_three min_three max_four min_four   -- for this text's walks alone
set_option linter.unusedVariables false
set_option linter.unusedSimpArgs false
/-! ### laws_FnExactStoreSize: function 10 -/
def laws_FnExactStoreSize.f (k : Nat) (l0_0 : List (S61)) : Option (Bool) := (laws_szStore.f k l0_0 1048576).bind fun t694 => (if t694 < 0 then (some true) else ((laws_toStore.f k l0_0).bind fun t695 => ((spec_StoreSize.f k t695).bind fun t698 => ((laws_toStore.f k l0_0).bind fun t699 => ((impl_StoreSize.f k t699).bind fun t703 => (if t703 = t698 then ((laws_toStore.f k l0_0).bind fun t704 => ((laws_eqStore.f k t699 t704).bind fun t707 => (if t707 = true then (some true) else (some false)))) else (some false)))))))
theorem laws_FnExactStoreSize.mono : ∀ a0 k, LeO (laws_FnExactStoreSize.f k a0) (laws_FnExactStoreSize.f (k + 1) a0) := by
  intro a0 k
  unfold laws_FnExactStoreSize.f
  repeat' first
      | (with_reducible exact impl_StoreSize.mono _ _)
      | (with_reducible exact laws_eqStore.mono _ _ _)
      | (with_reducible exact laws_szStore.mono _ _ _)
      | (with_reducible exact laws_toStore.mono _ _)
      | (with_reducible exact spec_StoreSize.mono _ _)
      | (with_reducible exact LeO.refl _)
      | (with_reducible exact LeO.none _)
      | (with_reducible refine LeO.ite ?_ ?_)
      | (with_reducible refine LeO.bind ?_ (fun _ => ?_))
      | exact impl_StoreSize.mono _ _
      | exact laws_eqStore.mono _ _ _
      | exact laws_szStore.mono _ _ _
      | exact laws_toStore.mono _ _
      | exact spec_StoreSize.mono _ _
      | exact LeO.none _
      | refine LeO.ite ?_ ?_
      | refine LeO.bind ?_ (fun _ => ?_)
set_option maxHeartbeats 8000000 in
set_option maxRecDepth 100000 in
theorem laws_FnExactStoreSize.calls (k : Nat) (A0_0 : Option Addr) (c0_0 : Nat) (l0_0 : List (S61)) (r : Bool) (w : World) (hr0_0 : Kd.C k61 w A0_0 l0_0.length l0_0) (hc0_0 : l0_0.length ≤ c0_0) (h : laws_FnExactStoreSize.f k l0_0 = some r) :
    Calls Try.prog 10 #[.agg #[.slice A0_0 l0_0.length c0_0]] w fun e w' => e = .returned (.bool r) ∧ Below w.heap.size w w' := by
  have hu81 := Try.underlying81
  have hu86 := Try.underlying86
  have HR0_0 := Aside0.mk hr0_0
  have HC0_0 := Aside0.mk hc0_0
  clear hr0_0 hc0_0
  have HB := Aside0.mk (Below.refl w.heap.size w)
  have H : ((laws_szStore.f k l0_0 1048576).bind fun t694 => (if t694 < 0 then (some true) else ((laws_toStore.f k l0_0).bind fun t695 => ((spec_StoreSize.f k t695).bind fun t698 => ((laws_toStore.f k l0_0).bind fun t699 => ((impl_StoreSize.f k t699).bind fun t703 => (if t703 = t698 then ((laws_toStore.f k l0_0).bind fun t704 => ((laws_eqStore.f k t699 t704).bind fun t707 => (if t707 = true then (some true) else (some false)))) else (some false)))))))) = some r := h
  clear h
  replace H := Option.bind_eq_some_iff.mp H
  obtain ⟨t694, A20, H⟩ := H
  replace H : (if t694 < 0 then (some true) else ((laws_toStore.f k l0_0).bind fun t695 => ((spec_StoreSize.f k t695).bind fun t698 => ((laws_toStore.f k l0_0).bind fun t699 => ((impl_StoreSize.f k t699).bind fun t703 => (if t703 = t698 then ((laws_toStore.f k l0_0).bind fun t704 => ((laws_eqStore.f k t699 t704).bind fun t707 => (if t707 = true then (some true) else (some false)))) else (some false))))))) = some r := H
  have A2 := Aside0.mk A20
  clear A20
  have HF3 := Aside0.mk H
  clear H
  go_enter Try.func10, Try.ntmps10
  go_upto_if 11 with (first | ((with_reducible refine gate_dst (N := 1) rfl ?_); refine box_event ?hg (N := 1) ?hd (cs := #[.slice A0_0 l0_0.length c0_0]) (t := 81) ?hr ?_; (case hd => rfl); (case hg => rfl); (case hr => first | (go_simp; done) | (go_simp; rfl)); intro gb693 hg w4 hbox hb; have n0_ := Aside0.mk (below_step (by repeat (first | (with_reducible first | exact HB.out | apply below_alloc | apply pw_below_drewN | apply below_drew1) | exact HB.out)) hb); have n1_ := Aside0.mk (hbox); have n2_ := Aside0.mk ((by rw [hg]; exact (below_size (by repeat (first | (with_reducible first | exact HB.out | apply below_alloc | apply pw_below_drewN | apply below_drew1) | exact HB.out))) : w.heap.size ≤ gb693)); have n3_ := Aside0.mk ((by rw [hg]; exact (below_size (by repeat (first | (with_reducible first | exact HB.out | apply below_alloc | apply pw_below_drewN | apply below_drew1) | exact HB.out))) : w.heap.size ≤ gb693)); clear HB; have HB := n0_; have BK693 := n1_; have GW693 := n2_; have GE693 := n3_; clear n0_ n1_ n2_ n3_; clear hb hbox hg; have hcz5_0 : w4.cell? ⟨gb693, 0, none⟩ = some (.slice A0_0 l0_0.length c0_0) := (blk_cell BK693.out 0).trans rfl; have hfz5_0 := blk_frozen BK693.out 0) | ((with_reducible refine gate_callee (f := 51) rfl ?_); refine goesL_ (some 9) rfl rfl Try.func51 (by kernel_rfl) rfl #[.agg #[.slice A0_0 l0_0.length c0_0], .int .i64 1048576] rfl (by (try simp only [List.map_toArray, List.map_cons, List.map_nil]); first | done | rfl | (simp only [List.length_drop, List.length_take]; rfl)) ?_; (with_reducible refine (laws_szStore.calls k _ _ l0_0 1048576 t694 _ ?side1 ?side2 A2.out).mono ?_); (case side1 => repeat (first | exact (Kd.C_below HR0_0.out HB.out) | (with_reducible refine Kd.C_alloc ?_ _) | (with_reducible refine Kd.C_drewN ?_ _) | (with_reducible refine Kd.C_drew ?_))); (case side2 => exact HC0_0.out); rintro e w6 ⟨rfl, hb⟩; refine ⟨_, rfl, ?_⟩; have n0_ := Aside0.mk (blk_below (g := gb693) (o := .cells #[.slice A0_0 l0_0.length c0_0] 81 (0, 0)) (by (with_reducible repeat (first | refine blk_drewN ?_ _ | refine blk_drew ?_ | refine blk_alloc ?_ _)); exact BK693.out) hb); have n1_ := Aside0.mk (below_step (by repeat (first | (with_reducible first | exact HB.out | apply below_alloc | apply pw_below_drewN | apply below_drew1 | refine below_set ?_ GE693.out) | exact HB.out)) hb); clear BK693; clear HB; have BK693 := n0_; have HB := n1_; clear n0_ n1_; (try clear hb); (try clear hb2); (try clear hk); (try clear hi)))
  have H := HF3.out
  clear HF3
  by_cases c7 : t694 < 0
  · rw [if_pos c7] at H
    have c7b0 : decide (t694 < 0) = true := decide_eq_true c7
    clear c7
    (first | rw [c7b0] | (simp only [i64_w, i32_w]; rw [c7b0]) | skip)
    obtain rfl := Option.some.inj H
    go_wp2
    go_ret
    exact ⟨by first | rfl | (simp [errW_none, errW_some] <;> rfl) | (simp [*, errW_none, errW_some] <;> rfl), by repeat (first | (with_reducible first | exact HB.out | apply below_alloc | apply pw_below_drewN | apply below_drew1 | refine below_set ?_ GE693.out) | exact HB.out)⟩
  · rw [if_neg c7] at H
    have c7b0 : decide (t694 < 0) = false := decide_eq_false c7
    clear c7
    (first | rw [c7b0] | (simp only [i64_w, i32_w]; rw [c7b0]) | skip)
    replace H := Option.bind_eq_some_iff.mp H
    obtain ⟨t695, A80, H⟩ := H
    replace H : ((spec_StoreSize.f k t695).bind fun t698 => ((laws_toStore.f k l0_0).bind fun t699 => ((impl_StoreSize.f k t699).bind fun t703 => (if t703 = t698 then ((laws_toStore.f k l0_0).bind fun t704 => ((laws_eqStore.f k t699 t704).bind fun t707 => (if t707 = true then (some true) else (some false)))) else (some false))))) = some r := H
    have A8 := Aside0.mk A80
    clear A80
    replace H := Option.bind_eq_some_iff.mp H
    obtain ⟨t698, A90, H⟩ := H
    replace H : ((laws_toStore.f k l0_0).bind fun t699 => ((impl_StoreSize.f k t699).bind fun t703 => (if t703 = t698 then ((laws_toStore.f k l0_0).bind fun t704 => ((laws_eqStore.f k t699 t704).bind fun t707 => (if t707 = true then (some true) else (some false)))) else (some false)))) = some r := H
    have A9 := Aside0.mk A90
    clear A90
    replace H := Option.bind_eq_some_iff.mp H
    obtain ⟨t699, A100, H⟩ := H
    replace H : ((impl_StoreSize.f k t699).bind fun t703 => (if t703 = t698 then ((laws_toStore.f k l0_0).bind fun t704 => ((laws_eqStore.f k t699 t704).bind fun t707 => (if t707 = true then (some true) else (some false)))) else (some false))) = some r := H
    have A10 := Aside0.mk A100
    clear A100
    replace H := Option.bind_eq_some_iff.mp H
    obtain ⟨t703, A110, H⟩ := H
    replace H : (if t703 = t698 then ((laws_toStore.f k l0_0).bind fun t704 => ((laws_eqStore.f k t699 t704).bind fun t707 => (if t707 = true then (some true) else (some false)))) else (some false)) = some r := H
    have A11 := Aside0.mk A110
    clear A110
    have HF12 := Aside0.mk H
    clear H
    have hcz13_0 : w6.cell? ⟨gb693, 0, none⟩ = some (.slice A0_0 l0_0.length c0_0) := (blk_cell BK693.out 0).trans rfl
    have hfz13_0 := blk_frozen BK693.out 0
    go_upto_if 21 with (first | ((with_reducible refine gate_callee (f := 53) rfl ?_); refine goesL_ (some 13) rfl rfl Try.func53 (by kernel_rfl) rfl #[.agg #[.slice A0_0 l0_0.length c0_0]] rfl (by (try simp only [List.map_toArray, List.map_cons, List.map_nil]); first | done | rfl | (simp only [List.length_drop, List.length_take]; rfl)) ?_; (with_reducible refine (laws_toStore.calls k _ _ l0_0 t695 _ ?side1 ?side2 A8.out).mono ?_); (case side1 => repeat (first | exact (Kd.C_below HR0_0.out HB.out) | (with_reducible refine Kd.C_alloc ?_ _) | (with_reducible refine Kd.C_drewN ?_ _) | (with_reducible refine Kd.C_drew ?_))); (case side2 => exact HC0_0.out); rintro e w14 ⟨v696, rfl, ho0, hb⟩; refine ⟨_, rfl, ?_⟩; have n0_ := Aside0.mk (Kd.S_lower ho0 (below_size (by repeat (first | (with_reducible first | exact HB.out | apply below_alloc | apply pw_below_drewN | apply below_drew1 | refine below_set ?_ GE693.out) | exact HB.out)))); have n1_ := Aside0.mk (blk_below (g := gb693) (o := .cells #[.slice A0_0 l0_0.length c0_0] 81 (0, 0)) (by (with_reducible repeat (first | refine blk_drewN ?_ _ | refine blk_drew ?_ | refine blk_alloc ?_ _)); exact BK693.out) hb); have n2_ := Aside0.mk (below_step (by repeat (first | (with_reducible first | exact HB.out | apply below_alloc | apply pw_below_drewN | apply below_drew1 | refine below_set ?_ GE693.out) | exact HB.out)) hb); clear BK693; clear HB; have HO697 := n0_; have BK693 := n1_; have HB := n2_; clear n0_ n1_ n2_; (try clear hb); (try clear hb2); (try clear hk); (try clear hi); (try clear ho0); obtain ⟨Ao15, co15, eo15⟩ := Kd.S_slice HO697.out; subst eo15) | ((with_reducible refine gate_callee (f := 52) rfl ?_); refine goesL_ (some 14) rfl rfl Try.func52 (by kernel_rfl) rfl #[.agg #[.slice Ao15 t695.length co15]] rfl (by (try simp only [List.map_toArray, List.map_cons, List.map_nil]); first | done | rfl | (simp only [List.length_drop, List.length_take]; rfl)) ?_; (with_reducible refine (spec_StoreSize.calls k _ _ t695 t698 _ ?side1 ?side2 A9.out).mono ?_); (case side1 => repeat (first | exact (Kd.S_reads' HO697.out).2.2 | (with_reducible refine Kd.C_alloc ?_ _) | (with_reducible refine Kd.C_drewN ?_ _) | (with_reducible refine Kd.C_drew ?_))); (case side2 => exact (Kd.S_reads' HO697.out).2.1); rintro e w16 ⟨rfl, hb⟩; refine ⟨_, rfl, ?_⟩; have n0_ := Aside0.mk (Kd.S_below (by (with_reducible repeat (first | apply Kd.S_alloc | apply Kd.S_drewN | apply Kd.S_drew)); exact HO697.out) hb); have n1_ := Aside0.mk (blk_below (g := gb693) (o := .cells #[.slice A0_0 l0_0.length c0_0] 81 (0, 0)) (by (with_reducible repeat (first | refine blk_drewN ?_ _ | refine blk_drew ?_ | refine blk_alloc ?_ _)); exact BK693.out) hb); have n2_ := Aside0.mk (below_step (by repeat (first | (with_reducible first | exact HB.out | apply below_alloc | apply pw_below_drewN | apply below_drew1 | refine below_set ?_ GE693.out) | exact HB.out)) hb); clear HO697; clear BK693; clear HB; have HO697 := n0_; have BK693 := n1_; have HB := n2_; clear n0_ n1_ n2_; (try clear hb); (try clear hb2); (try clear hk); (try clear hi); have hcz17_0 : w16.cell? ⟨gb693, 0, none⟩ = some (.slice A0_0 l0_0.length c0_0) := (blk_cell BK693.out 0).trans rfl; have hfz17_0 := blk_frozen BK693.out 0) | ((with_reducible refine gate_callee (f := 53) rfl ?_); refine goesL_ (some 16) rfl rfl Try.func53 (by kernel_rfl) rfl #[.agg #[.slice A0_0 l0_0.length c0_0]] rfl (by (try simp only [List.map_toArray, List.map_cons, List.map_nil]); first | done | rfl | (simp only [List.length_drop, List.length_take]; rfl)) ?_; (with_reducible refine (laws_toStore.calls k _ _ l0_0 t699 _ ?side1 ?side2 A10.out).mono ?_); (case side1 => repeat (first | exact (Kd.C_below HR0_0.out HB.out) | (with_reducible refine Kd.C_alloc ?_ _) | (with_reducible refine Kd.C_drewN ?_ _) | (with_reducible refine Kd.C_drew ?_))); (case side2 => exact HC0_0.out); rintro e w18 ⟨v700, rfl, ho0, hb⟩; refine ⟨_, rfl, ?_⟩; have n0_ := Aside0.mk (Kd.S_elder' (by (with_reducible repeat (first | apply Kd.S_alloc | apply Kd.S_drewN | apply Kd.S_drew)); exact HO697.out) (Kd.S_base ho0) hb); have n1_ := Aside0.mk (Kd.S_lower (Kd.S_new' ho0 (Kd.S_lt (by (with_reducible repeat (first | apply Kd.S_alloc | apply Kd.S_drewN | apply Kd.S_drew)); exact HO697.out))) (below_size (by repeat (first | (with_reducible first | exact HB.out | apply below_alloc | apply pw_below_drewN | apply below_drew1 | refine below_set ?_ GE693.out) | exact HB.out)))); have n2_ := Aside0.mk (blk_below (g := gb693) (o := .cells #[.slice A0_0 l0_0.length c0_0] 81 (0, 0)) (by (with_reducible repeat (first | refine blk_drewN ?_ _ | refine blk_drew ?_ | refine blk_alloc ?_ _)); exact BK693.out) hb); have n3_ := Aside0.mk (below_step (by repeat (first | (with_reducible first | exact HB.out | apply below_alloc | apply pw_below_drewN | apply below_drew1 | refine below_set ?_ GE693.out) | exact HB.out)) hb); clear HO697; clear BK693; clear HB; have HO697 := n0_; have HO701 := n1_; have BK693 := n2_; have HB := n3_; clear n0_ n1_ n2_ n3_; (try clear hb); (try clear hb2); (try clear hk); (try clear hi); (try clear ho0)) | ((with_reducible refine gate_dst (N := 5) rfl ?_); refine box_event ?hg (N := 5) ?hd (cs := #[.slice none 0 0]) (t := 86) ?hr ?_; (case hd => rfl); (case hg => rfl); (case hr => first | (go_simp; done) | (go_simp; rfl)); intro gb702 hg w19 hbox hb; have n0_ := Aside0.mk (Kd.S_below (by (with_reducible repeat (first | apply Kd.S_alloc | apply Kd.S_drewN | apply Kd.S_drew)); exact HO697.out) hb); have n1_ := Aside0.mk (Kd.S_below (by (with_reducible repeat (first | apply Kd.S_alloc | apply Kd.S_drewN | apply Kd.S_drew)); exact HO701.out) hb); have n2_ := Aside0.mk (blk_below (g := gb693) (o := .cells #[.slice A0_0 l0_0.length c0_0] 81 (0, 0)) (by (with_reducible repeat (first | refine blk_drewN ?_ _ | refine blk_drew ?_ | refine blk_alloc ?_ _)); exact BK693.out) hb); have n3_ := Aside0.mk (below_step (by repeat (first | (with_reducible first | exact HB.out | apply below_alloc | apply pw_below_drewN | apply below_drew1 | refine below_set ?_ GE693.out) | exact HB.out)) hb); have n4_ := Aside0.mk (hbox); have n5_ := Aside0.mk ((by rw [hg]; exact (below_size (by repeat (first | (with_reducible first | exact HB.out | apply below_alloc | apply pw_below_drewN | apply below_drew1 | refine below_set ?_ GE693.out) | exact HB.out))) : w.heap.size ≤ gb702)); have n6_ := Aside0.mk ((by rw [hg]; exact (below_size (by repeat (first | (with_reducible first | exact HB.out | apply below_alloc | apply pw_below_drewN | apply below_drew1 | refine below_set ?_ GE693.out) | exact HB.out))) : w.heap.size ≤ gb702)); have n7_ := Aside0.mk ((by rw [hg]; exact Nat.ne_of_lt (blk_lt (g := gb693) (o := .cells #[.slice A0_0 l0_0.length c0_0] 81 (0, 0)) (by (with_reducible repeat (first | refine blk_drewN ?_ _ | refine blk_drew ?_ | refine blk_alloc ?_ _)); exact BK693.out)) : gb693 ≠ gb702)); have n8_ := Aside0.mk ((by rw [hg]; exact Nat.ne_of_gt (blk_lt (g := gb693) (o := .cells #[.slice A0_0 l0_0.length c0_0] 81 (0, 0)) (by (with_reducible repeat (first | refine blk_drewN ?_ _ | refine blk_drew ?_ | refine blk_alloc ?_ _)); exact BK693.out)) : gb702 ≠ gb693)); clear HO697; clear HO701; clear BK693; clear HB; have HO697 := n0_; have HO701 := n1_; have BK693 := n2_; have HB := n3_; have BK702 := n4_; have GW702 := n5_; have GE702 := n6_; have NB693_702 := n7_; have NB702_693 := n8_; clear n0_ n1_ n2_ n3_ n4_ n5_ n6_ n7_ n8_; clear hb hbox hg; obtain ⟨Ao20, co20, eo20⟩ := Kd.S_slice HO701.out; subst eo20; have hnb21 := NB702_693.out; have hnc21 := NB693_702.out; have hcz22_0 : w19.cell? ⟨gb702, 0, none⟩ = some (.slice none 0 0) := (blk_cell BK702.out 0).trans rfl; have hfz22_0 := blk_frozen BK702.out 0) | ((with_reducible refine gate_callee (f := 54) rfl ?_); refine goesL_ (some 18) rfl rfl Try.func54 (by kernel_rfl) rfl #[.agg #[.slice Ao20 t699.length co20]] rfl (by (try simp only [List.map_toArray, List.map_cons, List.map_nil]); first | done | rfl | (simp only [List.length_drop, List.length_take]; rfl)) ?_; (with_reducible refine (impl_StoreSize.calls k _ _ t699 t703 _ ?side1 ?side2 A11.out).mono ?_); (case side1 => refine (Kd.S_reads' (e := 66) (base := w.heap.size) (ok := fun k_ => (True ∧ some k_ ≠ (.slice Ao15 t695.length co15 : Value).ownBlock)) (n := t699.length) (c := co20) ?_).2.2; exact (by (with_reducible repeat (first | apply Kd.S_alloc | apply Kd.S_drewN | apply Kd.S_drew)); exact (Kd.S_mono (Kd.S_far (p := ⟨gb702, 0, none⟩) (Kd.S_types HO701.out BK702.out (by decide)) (fun _ hk => hk.2) (.slice Ao20 t699.length co20)) (fun _ h_ => h_.1)))); (case side2 => exact (Kd.S_reads' HO701.out).2.1); rintro e w23 ⟨rfl, hb⟩; refine ⟨_, rfl, ?_⟩; have n0_ := Aside0.mk (Kd.S_below (by (with_reducible repeat (first | apply Kd.S_alloc | apply Kd.S_drewN | apply Kd.S_drew)); exact (Kd.S_mono (Kd.S_far (p := ⟨gb702, 0, none⟩) (Kd.S_types HO697.out BK702.out (by decide)) (fun _ hk => hk.2) (.slice Ao20 t699.length co20)) (fun _ h_ => h_.1))) hb); have n1_ := Aside0.mk (Kd.S_below (by (with_reducible repeat (first | apply Kd.S_alloc | apply Kd.S_drewN | apply Kd.S_drew)); exact (Kd.S_mono (Kd.S_far (p := ⟨gb702, 0, none⟩) (Kd.S_types HO701.out BK702.out (by decide)) (fun _ hk => hk.2) (.slice Ao20 t699.length co20)) (fun _ h_ => h_.1))) hb); have n2_ := Aside0.mk (blk_below (g := gb693) (o := .cells #[.slice A0_0 l0_0.length c0_0] 81 (0, 0)) (by (with_reducible repeat (first | refine blk_drewN ?_ _ | refine blk_drew ?_ | refine blk_alloc ?_ _)); refine blk_far ?_ NB693_702.out _; (with_reducible repeat (first | refine blk_drewN ?_ _ | refine blk_drew ?_ | refine blk_alloc ?_ _)); exact BK693.out) hb); have n3_ := Aside0.mk (blk_below (g := gb702) (o := .cells #[.slice Ao20 t699.length co20] 86 (0, 0)) (by (with_reducible repeat (first | refine blk_drewN ?_ _ | refine blk_drew ?_ | refine blk_alloc ?_ _)); refine blk_put (cs := #[.slice none 0 0]) ?_ 0 _ rfl; (with_reducible repeat (first | refine blk_drewN ?_ _ | refine blk_drew ?_ | refine blk_alloc ?_ _)); exact BK702.out) hb); have n4_ := Aside0.mk (below_step (by repeat (first | (with_reducible first | exact HB.out | apply below_alloc | apply pw_below_drewN | apply below_drew1 | refine below_set ?_ GE693.out | refine below_set ?_ GE702.out) | exact HB.out)) hb); clear HO697; clear HO701; clear BK693; clear BK702; clear HB; have HO697 := n0_; have HO701 := n1_; have BK693 := n2_; have BK702 := n3_; have HB := n4_; clear n0_ n1_ n2_ n3_ n4_; (try clear hb); (try clear hb2); (try clear hk); (try clear hi)))
    have H := HF12.out
    clear HF12
    by_cases c24 : t703 = t698
    · rw [if_pos c24] at H
      have c24b0 : (t703 == t698) = true := beq_iff_eq.mpr c24
      have c24b1 : (t703 != t698) = false := bne_eq_false_iff_eq.mpr c24
      clear c24
      (first | rw [c24b0] | (simp only [i64_w, i32_w]; rw [c24b0]) | skip)
      replace H := Option.bind_eq_some_iff.mp H
      obtain ⟨t704, A250, H⟩ := H
      replace H : ((laws_eqStore.f k t699 t704).bind fun t707 => (if t707 = true then (some true) else (some false))) = some r := H
      have A25 := Aside0.mk A250
      clear A250
      replace H := Option.bind_eq_some_iff.mp H
      obtain ⟨t707, A260, H⟩ := H
      replace H : (if t707 = true then (some true) else (some false)) = some r := H
      have A26 := Aside0.mk A260
      clear A260
      have HF27 := Aside0.mk H
      clear H
      try go_wp2
      have n0_ := Aside0.mk (Kd.S_drew HO697.out)
      have n1_ := Aside0.mk (Kd.S_drew HO701.out)
      have n2_ := Aside0.mk (blk_drew BK693.out)
      have n3_ := Aside0.mk (blk_drew BK702.out)
      have n4_ := Aside0.mk (below_drew1 HB.out)
      clear HO697
      clear HO701
      clear BK693
      clear BK702
      clear HB
      have HO697 := n0_
      have HO701 := n1_
      have BK693 := n2_
      have BK702 := n3_
      have HB := n4_
      clear n0_ n1_ n2_ n3_ n4_
      refine start_ (n := 5) (S := fun w' => w'.cell? ⟨gb702, 0, none⟩ = some (.slice Ao20 t699.length co20) ∧ w'.cell? ⟨gb693, 0, none⟩ = some (.slice A0_0 l0_0.length c0_0)) (ds := []) #[false, false, false, false, false] (by kernel_rfl) rfl rfl ⟨(blk_cell BK702.out 0).trans rfl, (blk_cell BK693.out 0).trans rfl⟩ (fun hHeld => ?_)
      generalize w23.drew = w28 at HO697 HO701 BK693 BK702 HB hHeld ⊢
      refine take_ (i := 0) (N := some 22) (v := ?_) (a' := ?_) #[true, false, false, false, false] rfl rfl (by kernel_rfl) (fun _ _ _ h => h) (Or.inl ⟨by rfl, ?_⟩) hHeld ?_ ?_
      rotate_left
      · rintro w' ⟨s0, s1⟩
        go_simp
        with_reducible rfl
      rotate_left
      · simp only [Act.put, List.setIfInBounds_toArray, List.set_cons_zero, List.set_cons_succ, i64_w, i32_w]
        rfl
      refine take_ (i := 1) (N := some 23) (v := ?_) (a' := ?_) #[true, true, false, false, false] rfl rfl (by kernel_rfl) (fun _ _ _ h => h) (Or.inl ⟨by rfl, ?_⟩) hHeld ?_ ?_
      rotate_left
      · rintro w' ⟨s0, s1⟩
        go_simp
        with_reducible rfl
      rotate_left
      · simp only [Act.put, List.setIfInBounds_toArray, List.set_cons_zero, List.set_cons_succ, i64_w, i32_w]
        rfl
      refine one_ (i := 2) (N := some 24) #[true, true, true, false, false] rfl rfl (by kernel_rfl) (by decide) (fun K hK => ?_)
      refine goes_ Try.func53 (by kernel_rfl) rfl #[.agg #[.slice A0_0 l0_0.length c0_0]] (by rfl) rfl rfl (by (try simp only [List.map_toArray, List.map_cons, List.map_nil]); first | done | rfl | (simp only [List.length_drop, List.length_take]; rfl)) ?_
      with_reducible refine (laws_toStore.calls k _ _ l0_0 t704 _ ?side1 ?side2 A25.out).mono ?_
      (case side1 => repeat (first | exact (Kd.C_below HR0_0.out HB.out) | (with_reducible refine Kd.C_alloc ?_ _) | (with_reducible refine Kd.C_drewN ?_ _) | (with_reducible refine Kd.C_drew ?_)))
      (case side2 => exact HC0_0.out)
      rintro e w29 ⟨v705, rfl, ho0, hb⟩
      refine ⟨_, rfl, ?_⟩
      have n0_ := Aside0.mk (Kd.S_elder' (by (with_reducible repeat (first | apply Kd.S_alloc | apply Kd.S_drewN | apply Kd.S_drew)); exact HO697.out) (Kd.S_base ho0) hb)
      have n1_ := Aside0.mk (Kd.S_elder' (by (with_reducible repeat (first | apply Kd.S_alloc | apply Kd.S_drewN | apply Kd.S_drew)); exact HO701.out) (Kd.S_base ho0) hb)
      have n2_ := Aside0.mk (Kd.S_lower (Kd.S_new' (Kd.S_new' ho0 (Kd.S_lt (by (with_reducible repeat (first | apply Kd.S_alloc | apply Kd.S_drewN | apply Kd.S_drew)); exact HO697.out))) (Kd.S_lt (by (with_reducible repeat (first | apply Kd.S_alloc | apply Kd.S_drewN | apply Kd.S_drew)); exact HO701.out))) (below_size (by repeat (first | (with_reducible first | exact HB.out | apply below_alloc | apply pw_below_drewN | apply below_drew1 | refine below_set ?_ GE693.out | refine below_set ?_ GE702.out) | exact HB.out))))
      have n3_ := Aside0.mk (blk_below (g := gb693) (o := .cells #[.slice A0_0 l0_0.length c0_0] 81 (0, 0)) (by (with_reducible repeat (first | refine blk_drewN ?_ _ | refine blk_drew ?_ | refine blk_alloc ?_ _)); exact BK693.out) hb)
      have n4_ := Aside0.mk (blk_below (g := gb702) (o := .cells #[.slice Ao20 t699.length co20] 86 (0, 0)) (by (with_reducible repeat (first | refine blk_drewN ?_ _ | refine blk_drew ?_ | refine blk_alloc ?_ _)); exact BK702.out) hb)
      have n5_ := Aside0.mk (below_step (by repeat (first | (with_reducible first | exact HB.out | apply below_alloc | apply pw_below_drewN | apply below_drew1 | refine below_set ?_ GE693.out | refine below_set ?_ GE702.out) | exact HB.out)) hb)
      clear HO697
      clear HO701
      clear BK693
      clear BK702
      clear HB
      have HO697 := n0_
      have HO701 := n1_
      have HO706 := n2_
      have BK693 := n3_
      have BK702 := n4_
      have HB := n5_
      clear n0_ n1_ n2_ n3_ n4_ n5_
      (try clear hb)
      (try clear hb2)
      (try clear hk)
      (try clear hi)
      (try clear ho0)
      obtain ⟨Ao30, co30, eo30⟩ := Kd.S_slice HO706.out
      (first | subst eo30 | (injection eo30 with f1_ f2_ f3_; have f4_ := f1_.symm; have f5_ := f3_.symm; clear f1_ f2_ f3_; subst f4_; subst f5_))
      refine hK.out _ _ ⟨(blk_cell BK702.out 0).trans rfl, (blk_cell BK693.out 0).trans rfl⟩ (fun hHeld => ?_)
      clear hK K
      refine norm_ (a' := ?_) ?_ ?_
      rotate_left
      · show Act.put _ (some 24) _ = _
        simp only [Act.put, List.setIfInBounds_toArray, List.set_cons_zero, List.set_cons_succ, i64_w, i32_w]
        rfl
      refine one_ (i := 3) (N := some 25) #[true, true, true, true, false] rfl rfl (by kernel_rfl) (by decide) (fun K hK => ?_)
      refine goes_ Try.func55 (by kernel_rfl) rfl #[.agg #[.slice Ao20 t699.length co20], .agg #[.slice Ao30 t704.length co30]] (by rfl) rfl rfl (by (try simp only [List.map_toArray, List.map_cons, List.map_nil]); first | done | rfl | (simp only [List.length_drop, List.length_take]; rfl)) ?_
      with_reducible refine (laws_eqStore.calls k _ _ t699 _ _ t704 t707 _ ?side1 ?side2 ?side3 ?side4 A26.out).mono ?_
      (case side1 => repeat (first | exact (Kd.S_reads' HO701.out).2.2 | (with_reducible refine Kd.C_alloc ?_ _) | (with_reducible refine Kd.C_drewN ?_ _) | (with_reducible refine Kd.C_drew ?_)))
      (case side2 => exact (Kd.S_reads' HO701.out).2.1)
      (case side3 => repeat (first | exact (Kd.S_reads' HO706.out).2.2 | (with_reducible refine Kd.C_alloc ?_ _) | (with_reducible refine Kd.C_drewN ?_ _) | (with_reducible refine Kd.C_drew ?_)))
      (case side4 => exact (Kd.S_reads' HO706.out).2.1)
      rintro e w31 ⟨rfl, hb⟩
      refine ⟨_, rfl, ?_⟩
      have n0_ := Aside0.mk (Kd.S_below (by (with_reducible repeat (first | apply Kd.S_alloc | apply Kd.S_drewN | apply Kd.S_drew)); exact HO697.out) hb)
      have n1_ := Aside0.mk (Kd.S_below (by (with_reducible repeat (first | apply Kd.S_alloc | apply Kd.S_drewN | apply Kd.S_drew)); exact HO701.out) hb)
      have n2_ := Aside0.mk (Kd.S_below (by (with_reducible repeat (first | apply Kd.S_alloc | apply Kd.S_drewN | apply Kd.S_drew)); exact HO706.out) hb)
      have n3_ := Aside0.mk (blk_below (g := gb693) (o := .cells #[.slice A0_0 l0_0.length c0_0] 81 (0, 0)) (by (with_reducible repeat (first | refine blk_drewN ?_ _ | refine blk_drew ?_ | refine blk_alloc ?_ _)); exact BK693.out) hb)
      have n4_ := Aside0.mk (blk_below (g := gb702) (o := .cells #[.slice Ao20 t699.length co20] 86 (0, 0)) (by (with_reducible repeat (first | refine blk_drewN ?_ _ | refine blk_drew ?_ | refine blk_alloc ?_ _)); exact BK702.out) hb)
      have n5_ := Aside0.mk (below_step (by repeat (first | (with_reducible first | exact HB.out | apply below_alloc | apply pw_below_drewN | apply below_drew1 | refine below_set ?_ GE693.out | refine below_set ?_ GE702.out) | exact HB.out)) hb)
      clear HO697
      clear HO701
      clear HO706
      clear BK693
      clear BK702
      clear HB
      have HO697 := n0_
      have HO701 := n1_
      have HO706 := n2_
      have BK693 := n3_
      have BK702 := n4_
      have HB := n5_
      clear n0_ n1_ n2_ n3_ n4_ n5_
      (try clear hb)
      (try clear hb2)
      (try clear hk)
      (try clear hi)
      refine hK.out _ _ ⟨(blk_cell BK702.out 0).trans rfl, (blk_cell BK693.out 0).trans rfl⟩ (fun hHeld => ?_)
      clear hK K
      refine norm_ (a' := ?_) ?_ ?_
      rotate_left
      · show Act.put _ (some 25) _ = _
        simp only [Act.put, List.setIfInBounds_toArray, List.set_cons_zero, List.set_cons_succ, i64_w, i32_w]
        rfl
      refine pure_ (i := 4) (N := some 26) (v := ?_) (a' := ?_) #[true, true, true, true, true] rfl rfl (by kernel_rfl) (fun _ _ _ h => h) (Or.inl ⟨by rfl, ?_⟩) ?_ ?_
      rotate_left
      · intro w'
        go_simp
        with_reducible rfl
      rotate_left
      · simp only [Act.put, List.setIfInBounds_toArray, List.set_cons_zero, List.set_cons_succ, i64_w, i32_w]
        rfl
      refine done_ (by kernel_rfl) ?_
      go_upto_if 26 with (fail)
      have H := HF27.out
      clear HF27
      by_cases c32 : t707 = true
      · subst c32
        have H1 : (some true) = some r := by rw [if_pos rfl] at H; exact H
        clear H
        have H := H1
        clear H1
        obtain rfl := Option.some.inj H
        go_wp2
        go_ret
        exact ⟨by first | rfl | (simp [errW_none, errW_some] <;> rfl) | (simp [*, errW_none, errW_some] <;> rfl), by repeat (first | (with_reducible first | exact HB.out | apply below_alloc | apply pw_below_drewN | apply below_drew1 | refine below_set ?_ GE693.out | refine below_set ?_ GE702.out) | exact HB.out)⟩
      · replace c32 := Bool.eq_false_iff.mpr c32
        subst c32
        have H1 : (some false) = some r := by rw [if_neg (show ¬ (false = true) by decide)] at H; exact H
        clear H
        have H := H1
        clear H1
        obtain rfl := Option.some.inj H
        go_wp2
        go_ret
        exact ⟨by first | rfl | (simp [errW_none, errW_some] <;> rfl) | (simp [*, errW_none, errW_some] <;> rfl), by repeat (first | (with_reducible first | exact HB.out | apply below_alloc | apply pw_below_drewN | apply below_drew1 | refine below_set ?_ GE693.out | refine below_set ?_ GE702.out) | exact HB.out)⟩
    · rw [if_neg c24] at H
      have c24b0 : (t703 == t698) = false := beq_eq_false_iff_ne.mpr c24
      have c24b1 : (t703 != t698) = true := bne_iff_ne.mpr c24
      (first | rw [c24b0] | (simp only [i64_w, i32_w]; rw [c24b0]) | skip)
      obtain rfl := Option.some.inj H
      go_wp2
      go_ret
      exact ⟨by first | rfl | (simp [errW_none, errW_some] <;> rfl) | (simp [*, errW_none, errW_some] <;> rfl), by repeat (first | (with_reducible first | exact HB.out | apply below_alloc | apply pw_below_drewN | apply below_drew1 | refine below_set ?_ GE693.out | refine below_set ?_ GE702.out) | exact HB.out)⟩


end Go.Proofs.Ytelmcjohkifeeaa.PA
