/- The pure statement of FnExactFormatPolicy and its proof. Conditions: none of its own. -/
import Derived.Test.YtelmcjohkifeeaaDoorWMore
import Derived.ChangeArms
import Derived.Deep.Slices
import Derived.SizedLaws
import Derived.WideShapes
import Derived.ProofKit
import Derived.Test.YtelmcjohkifeeaaDoorZFnExactFormatPolicy1
namespace Go.Proofs.YtelmcjohkifeeaaDoor.Opn
open Go.RowKit Go.Proofs.YtelmcjohkifeeaaDoorW.PrintWords Go.ChangeShapes Go.WideShapes Go.Deep
set_option linter.unusedVariables false
set_option linter.unusedSectionVars false

def Bnd (l : List Nat) : Prop := ∀ n ∈ l, n ≤ 140737488351232

theorem Bnd.of_all {l : List Nat} (h : l.all (· ≤ reachBytes) = true) : Bnd l := by
  intro n hn
  have := List.all_eq_true.1 h n hn
  exact of_decide_eq_true this
theorem Bnd.left {a b : List Nat} (h : Bnd (a ++ b)) : Bnd a := fun n hn => h n (List.mem_append_left _ hn)
theorem Bnd.right {a b : List Nat} (h : Bnd (a ++ b)) : Bnd b := fun n hn => h n (List.mem_append_right _ hn)

theorem Bnd.each {H : Type} {P : Program} {ts : List TypeId} {ds : List (DataW H)} (h : Bnd (DataW.weightsEach P ts ds)) {j : Nat} {t : TypeId} {d : DataW H} (ht : ts[j]? = some t) (hd : ds[j]? = some d) : Bnd (d.weights P t) :=
  fun n hn => h n (DataW.weights_mem_each ht hd n hn)

theorem Bnd.mem_all {H : Type} {P : Program} {e : TypeId} : ∀ {ds : List (DataW H)} {d : DataW H}, d ∈ ds → Bnd (DataW.weightsAll P e ds) → Bnd (d.weights P e)
  | d0 :: ds, d, hd, h => by
    simp only [DataW.weightsAll] at h
    rcases List.mem_cons.1 hd with rfl | hd
    · exact h.left
    · exact Bnd.mem_all hd h.right

/-- What a type's reading gives: a value of the kind, within bounds. -/
def Rd (P : Program) (t : TypeId) {α : Type} (d : Kd α) (B : α → Prop) : Prop :=
  ∀ (H : Type) (enc : TypeId × Value → H) (w : World) (fuel : Nat) (cs : List Value) (x : DataW H × List MemPlace),
    DataW.trod enc P w 0 (fun _ => true) true fuel t cs = some x → Bnd (x.1.weights P t) → ∃ a, d.K w a cs ∧ B a

theorem Rd.int {P : Program} {t : TypeId} {k : IntKind} (ht : P.underlying t = some (.int k)) : Rd P t (Kd.int k) (fun n => (Lit.int k n).wf = true) := by
  intro H enc w fuel cs x h _
  obtain ⟨n, rfl, _, hw⟩ := DataW.trod_int ht h
  exact ⟨n, rfl, hw⟩

theorem Rd.bool {P : Program} {t : TypeId} (ht : P.underlying t = some .bool) : Rd P t Kd.bool (fun _ => True) := by
  intro H enc w fuel cs x h _
  obtain ⟨b, rfl, _⟩ := DataW.trod_bool ht h
  exact ⟨b, rfl, trivial⟩

theorem Rd.string {P : Program} {t : TypeId} (ht : P.underlying t = some .string) : Rd P t Kd.string (fun s => s.size ≤ 140737488351232) := by
  intro H enc w fuel cs x h hb
  obtain ⟨s, rfl, rfl, _⟩ := DataW.trod_string ht h
  refine ⟨s, rfl, ?_⟩
  have := hb s.data.toList.length (by simp [DataW.weights])
  simpa using this

theorem cells_get {w : World} {a : Addr} {n : Nat} {cs : List Value} (h : w.cells? 0 a n = some cs) : cs.length = n ∧ ∀ i u, cs[i]? = some u → w.cell? (a.add i) = some u := by
  obtain ⟨_, hl, hc⟩ := World.cells?_some h
  refine ⟨hl, fun i u hu => ?_⟩
  have hi : i < n := by
    have := (List.getElem?_eq_some_iff.1 hu).1
    omega
  rw [← hu]
  first
    | exact hc i hi
    | exact (hc i hi).symm

theorem list_of {α : Type} {R : Nat → α → Prop} : ∀ n, (∀ i, i < n → ∃ x, R i x) → ∃ l : List α, l.length = n ∧ ∀ j p, l[j]? = some p → R j p
  | 0, _ => ⟨[], rfl, fun j p h => by simp at h⟩
  | n + 1, h => by
    obtain ⟨l, hl, hp⟩ := list_of n (fun i hi => h i (by omega))
    obtain ⟨x, hx⟩ := h n (by omega)
    refine ⟨l ++ [x], by simp [hl], fun j p hj => ?_⟩
    by_cases hjn : j < n
    · rw [List.getElem?_append_left (by omega)] at hj
      exact hp j p hj
    · have hj' : j = n := by
        have := (List.getElem?_eq_some_iff.1 hj).1
        simp at this
        omega
      subst hj'
      have : x = p := by
        rw [List.getElem?_append_right (by omega)] at hj
        simpa [hl] using hj
      rw [← this]
      exact hx

theorem Rd.slice {P : Program} {t e : TypeId} {α : Type} {d : Kd α} {B : α → Prop} {z : Nat} (ht : P.underlying t = some (.slice e)) (hs : P.cellsOf e = d.sz) (hz : P.bytesOf e = z) (ho : Rd P e d B) :
    Rd P t (Kd.slice e d) (fun l => l.length * z ≤ 140737488351232 ∧ l.length ≤ maxLen ∧ ∀ x ∈ l, B x) := by
  intro H enc w fuel cs x h hb
  rcases open_slice ht h with ⟨rfl, _⟩ | ⟨a, len, cap, m, n, D, Pl, rfl, _, hl, hm, hmm, rfl, hx⟩
  · exact ⟨[], ⟨none, 0, rfl, Nat.le_refl _, rfl, by simp, fun h => absurd h (by simp)⟩, by simp, by simp, by simp⟩
  · simp only [if_true] at hmm
    subst hmm
    simp only [DataW.weights, ht] at hb
    have hlen := hb _ List.mem_cons_self
    simp only [List.length_map, List.length_range] at hlen
    have hel : Bnd (DataW.weightsAll P e ((List.range len).map D)) := fun k hk => hb k (List.mem_cons_of_mem _ (List.mem_append_left _ hk))
    obtain ⟨l, hll, hlp⟩ := list_of (α := α) (R := fun i v => B v ∧ ∃ c, c.length = d.sz ∧ d.K w v c ∧ ∀ j u, c[j]? = some u → w.cell? (a.add (i * d.sz + j)) = some u) len (by
      intro i hi
      obtain ⟨cs', h1, h2⟩ := hx i (by omega)
      obtain ⟨v, hk, hB⟩ := ho H enc w n cs' _ h2 (Bnd.mem_all (List.mem_map.2 ⟨i, List.mem_range.2 hi, rfl⟩) hel)
      refine ⟨v, hB, cs', d.K_len hk, hk, fun j u hu => ?_⟩
      have := (cells_get h1).2 j u hu
      rw [hs, Deep.add_add] at this
      exact this)
    refine ⟨l, ⟨some a, m, by rw [hll], by omega, rfl, ?_, fun _ => ⟨a, rfl, fun j p hj => (hlp j p hj).2⟩⟩, ?_, ?_, ?_⟩
    · have : maxLen ≤ 9223372036854775807 := by decide
      omega
    · have h1 : len * P.bytesOf e ≤ (len + (m - len)) * P.bytesOf e := Nat.mul_le_mul_right _ (by omega)
      rw [hll, ← hz]
      omega
    · omega
    · intro x hx
      obtain ⟨j, hj⟩ := List.mem_iff_getElem?.1 hx
      exact (hlp j x hj).1

/-- A struct's fields from a place on. -/
def RdFs (P : Program) (fs : List Field) (off : Nat) {α : Type} (d : Kd α) (B : α → Prop) : Prop :=
  ∀ (H : Type) (enc : TypeId × Value → H) (w : World) (n : Nat) (cs : List Value) (xs : List (DataW H × List MemPlace)),
    cs.length = off + d.sz → (∀ (i : Nat) (f : Field), fs[i]? = some f → ∃ x, xs[i]? = some x ∧ DataW.trod enc P w 0 (fun _ => true) true n f.type ((cs.drop f.offset).take (P.cellsOf f.type)) = some x) →
    Bnd (DataW.weightsEach P (fs.map (·.type)) (xs.map (·.1))) → ∃ a, d.K w a (cs.drop off) ∧ B a

theorem RdFs.one {P : Program} {f : Field} {off : Nat} {α : Type} {d : Kd α} {B : α → Prop} (hf : f.offset = off) (hs : P.cellsOf f.type = d.sz) (ho : Rd P f.type d B) : RdFs P [f] off d B := by
  intro H enc w n cs xs hl hx hb
  obtain ⟨x, hx0, h⟩ := hx 0 f rfl
  rw [hf, hs, List.take_of_length_le (by rw [List.length_drop]; omega)] at h
  refine ho H enc w n _ x h ?_
  exact Bnd.each hb (j := 0) rfl (by rw [List.getElem?_map, hx0]; rfl)

theorem RdFs.cons {P : Program} {f : Field} {fs : List Field} {off : Nat} {α β : Type} {d : Kd α} {d2 : Kd β} {B : α → Prop} {B2 : β → Prop} (hf : f.offset = off) (hs : P.cellsOf f.type = d.sz) (ho : Rd P f.type d B) (hr : RdFs P fs (off + d.sz) d2 B2) :
    RdFs P (f :: fs) off (Kd.pair d d2) (fun x => B x.1 ∧ B2 x.2) := by
  intro H enc w n cs xs hl hx hb
  obtain ⟨x, hx0, h⟩ := hx 0 f rfl
  match xs, hx0 with
  | y :: ys, hx0 =>
    obtain rfl : y = x := by simpa using hx0
    simp only [List.map_cons, DataW.weightsEach] at hb
    have hl' : cs.length = off + (d.sz + d2.sz) := hl
    rw [hf, hs] at h
    obtain ⟨a, ha, hB⟩ := ho H enc w n _ y h hb.left
    obtain ⟨b, hbk, hB2⟩ := hr H enc w n cs ys (by omega) (fun i g hg => by simpa using hx (i + 1) g (by simpa using hg)) hb.right
    refine ⟨(a, b), ⟨_, _, ?_, ha, hbk⟩, hB, hB2⟩
    rw [← List.drop_drop, List.take_append_drop]

theorem Rd.struct {P : Program} {t : TypeId} {fs : Array Field} {α β : Type} {d : Kd α} {B : α → Prop} (g : α → β) (f : β → α) (hg : ∀ a, f (g a) = a) (ht : P.underlying t = some (.struct fs)) (hs : P.cellsOf t = d.sz) (ho : RdFs P fs.toList 0 d B) :
    Rd P t (Kd.iso d f) (fun b => B (f b)) := by
  intro H enc w fuel cs x h hb
  obtain ⟨xs, n, rfl, rfl, hl, hxl, hx⟩ := DataW.trod_struct ht h
  simp only [DataW.weights, ht] at hb
  obtain ⟨a, ha, hB⟩ := ho H enc w n cs xs (by rw [hl, hs]; omega) (fun i fl hi => by
    have hi2 : fs[i]? = some fl := by simpa using hi
    have hlt : i < xs.length := by
      rw [hxl]
      exact (Array.getElem?_eq_some_iff.1 hi2).1
    have := hx i fl hi2
    rw [List.getElem?_eq_getElem hlt] at this
    exact ⟨_, List.getElem?_eq_getElem hlt, this⟩) hb
  refine ⟨g a, ?_, by show B (f (g a)); rw [hg]; exact hB⟩
  show d.K w (f (g a)) cs
  rw [hg]
  simpa using ha

/-- An argument of the row. -/
theorem Rd.arg {P : Program} {t : TypeId} {α : Type} {d : Kd α} {B : α → Prop} (ho : Rd P t d B) {H : Type} {enc : TypeId × Value → H} {W : World} {v : Value} {x : DataW H} {p : List MemPlace} {ts : List TypeId} {ds : List (DataW H)} {j : Nat}
    (hsz : (DataW.weightsEach P ts ds).all (· ≤ reachBytes) = true) (ht : ts[j]? = some t) (hd : ds[j]? = some x) (h : DataW.Trod enc P W 0 (fun _ => true) true t v x p) : ∃ a, d.K W a v.cells.toList ∧ B a := by
  obtain ⟨fuel, hf⟩ := h
  exact ho H enc W fuel _ _ hf ((Bnd.of_all hsz).each ht hd)

theorem K_slice {α : Type} {d : Kd α} {e : Nat} {w : World} {l : List α} {v : Value} (h : (Kd.slice e d).K w l v.cells.toList) (hv : ∃ a len cap, v = .slice a len cap) : ∃ A c, v = .slice A l.length c ∧ l.length ≤ c ∧ d.C w A l.length l := by
  obtain ⟨a, len, cap, rfl⟩ := hv
  obtain ⟨A, c, he, hl, hC⟩ := h
  simp [Value.cells] at he
  obtain ⟨rfl, rfl, rfl⟩ := he
  exact ⟨_, _, rfl, hl, hC⟩

end Go.Proofs.YtelmcjohkifeeaaDoor.Opn

namespace Go.Proofs.YtelmcjohkifeeaaDoor.ArgFnExactFormatPolicy
open Go.RowKit Go.Proofs.YtelmcjohkifeeaaDoorW.PrintWords Go.Proofs.YtelmcjohkifeeaaDoorW.PrintLast Go.Proofs.YtelmcjohkifeeaaDoorW.PrintMore Go.Proofs.YtelmcjohkifeeaaDoor.PA Go.Proofs.YtelmcjohkifeeaaDoor.Opn
set_option linter.unusedVariables false


/-- The one pure statement. -/
def Pure : Prop := ∀ (l0 : List S31), (l0.length * 32 ≤ 140737488351232 ∧ l0.length ≤ maxLen ∧ ∀ y ∈ l0, Bd31 y) → ∃ k, laws_FnExactFormatPolicy.f k l0 = some true

end Go.Proofs.YtelmcjohkifeeaaDoor.ArgFnExactFormatPolicy

namespace Go.Proofs.YtelmcjohkifeeaaDoor.Pure
open Go.RowKit Go.Proofs.YtelmcjohkifeeaaDoorW.PrintWords Go.Proofs.YtelmcjohkifeeaaDoorW.PrintLast Go.Proofs.YtelmcjohkifeeaaDoorW.PrintMore Go.Proofs.YtelmcjohkifeeaaDoor.PA Go.Proofs.YtelmcjohkifeeaaDoor.ArgFnExactFormatPolicy Go.Proofs.YtelmcjohkifeeaaDoor.Base Go.Proofs.YtelmcjohkifeeaaDoor.Lim
theorem need_wt (l : List S31) : need (l.map conv_Rule) = (l.map wt_Rule).sum + 40 * l.length := by
  induction l with
  | nil => rfl
  | cons x l ih =>
    have e : need ((x :: l).map conv_Rule) = (x.f1.size + 40) + need (l.map conv_Rule) := by simp [need, conv_Rule]
    rw [e, ih]
    simp only [List.map_cons, List.sum_cons, List.length_cons, wt_Rule]
    omega
theorem FnExactFormatPolicy : ArgFnExactFormatPolicy.Pure := by
  intro l h
  refine (laws_FnExactFormatPolicy.L l).rounds ?_
  have hs : Sm (l.map conv_Rule).length := by rw [List.length_map]; unfold Sm; have := h.1; omega
  have h64 : ∀ x ∈ l.map conv_Rule, Ok64 x := by
    intro x hx
    obtain ⟨y, hy, rfl⟩ := List.mem_map.1 hx
    have := (h.2.2 y hy).2.2
    simp [Lit.wf, IntKind.min, IntKind.max, IntKind.signed, IntKind.bits] at this
    show -9223372036854775808 ≤ y.f2 ∧ y.f2 ≤ 9223372036854775807
    omega
  rw [laws_FnExactFormatPolicy.ge, szS_Rule l 1048576 h (by omega) (by omega), Option.bind_some]
  by_cases c : sub 1048576 (wtS_Rule l) < 0
  · rw [if_pos c]
  · rw [if_neg c]
    have hw : wtS_Rule l ≤ 1048576 := by
      unfold sub at c
      split at c <;> omega
    have hn : need (l.map conv_Rule) ≤ 1099511627776 := by
      rw [need_wt]
      unfold wtS_Rule at hw
      omega
    simp only [toS_Rule l h, Option.bind_some, spec_FormatPolicy_eq _ hs h64 hn, impl_FormatPolicy_eq _ hs h64 hn, eqS_Rule _ hs]
    simp
end Go.Proofs.YtelmcjohkifeeaaDoor.Pure
