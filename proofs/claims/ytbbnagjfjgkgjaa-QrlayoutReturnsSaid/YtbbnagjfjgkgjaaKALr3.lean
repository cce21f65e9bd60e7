/- Rows of bools in blocks of their own. -/
import Derived.Test.YtbbnagjfjgkgjaaKALx0
namespace Go.Proofs.Ytbbnagjfjgkgjaa.L
open Go.RowKit Go.Proofs.YtbbnagjfjgkgjaaW.PrintWords Go.Proofs.YtbbnagjfjgkgjaaW.PrintLast Go.Proofs.YtbbnagjfjgkgjaaW.PrintMore
set_option linter.unusedVariables false
set_option linter.unusedSimpArgs false

def BR (w : World) (g : Nat) (l : List Bool) : Prop := ∃ cs, w.heap[g]? = some (.cells cs 4 (0, 0)) ∧ ∀ i, i < l.length → cs[i]? = some (.bool (l.getD i false))
theorem BR.of_R {w : World} {base : Nat} {ok : Nat → Prop} {g N cap : Nat} {l : List Bool} {cells : Array Value} (h : Kd.R Kd.bool 4 w base ok (.slice (some ⟨g, 0, none⟩) N cap) l) (hh : w.heap[g]? = some (.cells cells 4 (0, 0))) (hl : l.length = N) : BR w g l :=
 ⟨cells, hh, fun i hi => by
  have := (Kd.R_celln false h (i : Int) (by omega) (by omega)).1
  rw [Int.toNat_natCast, blk_cell hh] at this
  simpa [rdOf] using this⟩
theorem BR.cell {w : World} {g : Nat} {l : List Bool} (h : BR w g l) (J : Int) (h0 : 0 ≤ J) (h1 : J < l.length) : w.cell? ⟨g, J.toNat, none⟩ = some (.bool (rdOf false l J)) ∧ w.frozen? ⟨g, J.toNat, none⟩ = false := by
 obtain ⟨cs, hh, hc⟩ := h
 exact ⟨(blk_cell hh _).trans (hc _ (by omega)), blk_frozen hh _⟩
theorem BR.put {w : World} {g : Nat} {l : List Bool} (h : BR w g l) (J : Nat) (hJ : J < l.length) (b : Bool) : BR (w.setCell ⟨g, J, none⟩ (.bool b)) g (l.set J b) := by
 obtain ⟨cs, hh, hc⟩ := h
 refine ⟨_, blk_set hh _ _, fun i hi => ?_⟩
 rw [List.length_set] at hi
 have h2 := hc i hi
 rw [Array.getElem?_setIfInBounds, List.getD_eq_getElem?_getD, List.getElem?_set]
 by_cases e : J = i
 ·subst e
  have := (Array.getElem?_eq_some_iff.1 h2).1
  simp [this, hi]
 ·rw [if_neg e, if_neg e, h2, List.getD_eq_getElem?_getD]
theorem BR.far {w : World} {g : Nat} {l : List Bool} (h : BR w g l) {p : Addr} (hp : g ≠ p.block) (u : Value) : BR (w.setCell p u) g l := by
 obtain ⟨cs, hh, hc⟩ := h
 exact ⟨cs, blk_far hh hp u, hc⟩
theorem BR.alloc {w : World} {g : Nat} {l : List Bool} (h : BR w g l) (o : Obj) : BR (w.alloc o) g l := by
 obtain ⟨cs, hh, hc⟩ := h
 exact ⟨cs, blk_alloc hh o, hc⟩
theorem BR.C {w : World} {g : Nat} {l : List Bool} (h : BR w g l) (hl : l.length ≤ 100000) : Kd.C Kd.bool w (some ⟨g, 0, none⟩) l.length l := by
 obtain ⟨cs, hh, hc⟩ := h
 refine ⟨rfl, by omega, fun _ => ⟨_, rfl, fun j p hj => ⟨[.bool p], rfl, rfl, fun i u hu => ?_⟩⟩⟩
 have hjl : j < l.length := (List.getElem?_eq_some_iff.1 hj).1
 match i, hu with
 | 0, hu =>
  simp only [List.getElem?_cons_zero, Option.some.injEq] at hu
  subst hu
  have h2 := hc j hjl
  rw [List.getD_eq_getElem?_getD, hj] at h2
  have h3 := (blk_cell hh j).trans h2
  show w.cell? ((⟨g, 0, none⟩ : Addr).add (j * 1 + 0)) = _
  rw [Nat.mul_one, Nat.add_zero]
  simp only [Addr.add, Nat.zero_add]
  split
  ·rename_i h0
   rw [h0] at h3
   exact h3
  ·exact h3

end Go.Proofs.Ytbbnagjfjgkgjaa.L
