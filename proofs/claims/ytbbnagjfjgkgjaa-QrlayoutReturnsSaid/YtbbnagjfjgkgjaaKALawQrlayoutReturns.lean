/- The law of Returns: what is filled in, signed and read is what was given. -/
import Derived.Test.YtbbnagjfjgkgjaaRows
import Derived.Test.YtbbnagjfjgkgjaaKAPureQrlayoutReturns
import Derived.WalkKit
import Derived.ProofKit
import Derived.OpenShut
import Derived.ShutString
import Derived.ChangeOld
import Derived.Below
import Derived.SizedLaws
import Derived.Carry
import Derived.Deep.Grids
import Derived.Lib.SmallJoins
import Derived.Deep.Slices
namespace Go.Proofs.Ytbbnagjfjgkgjaa.qrlayoutReturns
open Go.ChangeShapes Go.WideShapes Go.ChangeAt Go.RowKit Go.Joins Go.Deep Go.Proofs.YtbbnagjfjgkgjaaW.PrintWords
set_option linter.unusedVariables false
theorem own : ownKnob Try.prog.godebug = none := by kernel_rfl
theorem laidOut : laidOutB Try.prog = true := by kernel_rfl
set_option maxRecDepth 100000 in
/-- What a matrix argument is: two numbers and a row of bools. -/
theorem open_matrix {H : Type} {enc : TypeId × Value → H} {W : World} {v : Value} {d : DataW H} {p : List MemPlace} {b0 : Nat} (hv : Value.okWide Try.prog W .any b0 24 v) (h : DataW.Trod enc Try.prog W 0 (fun _ => true) true 24 v d p) :
    ∃ (a b : Int) (A : Option Addr) (c : Nat) (l : List Bool), v = .agg #[.int .i64 a, .int .i64 b, .slice A l.length c] ∧ Kd.C Kd.bool W A l.length l ∧ l.length ≤ c := by
  obtain ⟨v0, v1, v2, y0, y1, y2, m, rfl, rfl, rfl, h0, h1, h2⟩ := open_agg3 Try.underlying24 (by kernel_rfl) (by kernel_rfl) hv h
  obtain ⟨a, ha, _⟩ := DataW.trod_int Try.underlying3 h0
  obtain ⟨b, hb, _⟩ := DataW.trod_int Try.underlying3 h1
  simp only [List.cons.injEq, and_true] at ha hb
  subst ha hb
  rcases open_bools Try.underlying22 Try.underlying4 (by kernel_rfl) h2 with ⟨hcs, _⟩ | ⟨ad, len, cap, B, hcs, _, hl, hm, _, hc⟩
  · simp only [List.cons.injEq, and_true] at hcs
    subst hcs
    exact ⟨a, b, none, 0, [], rfl, Kd.C_nil _ _, Nat.le_refl _⟩
  · simp only [List.cons.injEq, and_true] at hcs
    subst hcs
    refine ⟨a, b, some ad, cap, (List.range len).map B, by simp, ?_, by simpa using hl⟩
    refine ⟨rfl, by simp [maxLen] at hm ⊢; omega, fun _ => ⟨ad, rfl, fun j q hj => ?_⟩⟩
    have hjl : j < len := by have := (List.getElem?_eq_some_iff.1 hj).1; simpa using this
    have hq : q = B j := by
      rw [List.getElem?_map, List.getElem?_range hjl] at hj
      simpa using hj.symm
    subst hq
    refine ⟨[.bool (B j)], rfl, ?_, fun i u hu => ?_⟩
    · first | rfl | exact ⟨rfl⟩ | simp [Kd.bool]
    · match i, hu with
      | 0, hu => simp at hu; subst hu; rw [show Kd.bool.sz = 1 from rfl, Nat.mul_one, Nat.add_zero]; exact hc j (by omega)
set_option maxRecDepth 100000 in
/-- What an argument of whole numbers is. -/
theorem open_words {H : Type} {enc : TypeId × Value → H} {W : World} {v : Value} {d : DataW H} {p : List MemPlace} {b0 : Nat} (hv : Value.okWide Try.prog W .any b0 60 v) (h : DataW.Trod enc Try.prog W 0 (fun _ => true) true 60 v d p) :
    ∃ (A : Option Addr) (c : Nat) (l : List Int), v = .slice A l.length c ∧ Kd.C (Kd.int .i64) W A l.length l ∧ l.length ≤ c := by
  obtain ⟨fuel, hf⟩ := h
  have hs : ∃ a n c, v = .slice a n c := by
    simp only [Value.okWide, Try.underlying60, Cell.okWide] at hv
    cases v <;> simp_all [Cell.ok]
  obtain ⟨a', n', c', rfl⟩ := hs
  have hf' : DataW.trod enc Try.prog W 0 (fun _ => true) true fuel 60 [.slice a' n' c'] = some (d, p) := hf
  rcases open_slice1 Try.underlying60 (by kernel_rfl) hf' with ⟨hcs, _⟩ | ⟨ad, len, cap, m, n, V, D, Pl, hcs, _, hl, hm, hmm, _, hx⟩
  · simp only [List.cons.injEq, and_true] at hcs
    rw [hcs]
    exact ⟨none, 0, [], rfl, Kd.C_nil _ _, Nat.le_refl _⟩
  · simp only [List.cons.injEq, and_true] at hcs
    rw [hcs]
    have hmm' : m = cap := hmm
    have each : ∀ i, i < len → ∃ q : Int, W.cell? (ad.add i) = some (.int .i64 q) := by
      intro i hi
      obtain ⟨h1, h2⟩ := hx i (by omega)
      obtain ⟨a, ha, _⟩ := DataW.trod_int Try.underlying3 h2
      simp only [List.cons.injEq, and_true] at ha
      exact ⟨a, by rw [h1, ha]⟩
    obtain ⟨q, hq⟩ := choose_lt each
    refine ⟨some ad, cap, (List.range len).map q, by simp, ?_, by simpa using hl⟩
    refine ⟨rfl, by simp [maxLen] at hm ⊢; omega, fun _ => ⟨ad, rfl, fun j x hj => ?_⟩⟩
    have hjl : j < len := by have := (List.getElem?_eq_some_iff.1 hj).1; simpa using this
    have hxq : x = q j := by
      rw [List.getElem?_map, List.getElem?_range hjl] at hj
      simpa using hj.symm
    subst hxq
    refine ⟨[.int .i64 (q j)], rfl, rfl, fun i u hu => ?_⟩
    match i, hu with
    | 0, hu => simp at hu; subst hu; rw [show (Kd.int .i64).sz = 1 from rfl, Nat.mul_one, Nat.add_zero]; exact hq j hjl
set_option maxRecDepth 100000 in
theorem lifted (os : Os) (started : os.Started) (H : Type) (enc : TypeId × Value → H) :
    ReturnsInHanded {} Try.checked os 9 .any (Rows.qrlayoutReturnsSpec.pre6 enc Try.prog Try.f9 Rows.qrlayoutReturnsRow.domain false) (Rows.qrlayoutReturnsSpec.post enc Try.prog Try.f9 false true false false) := by
  refine returnsInHanded_of_change_sized (C := Try.checked) own started (by kernel_rfl) Try.func9
    (ChangeSpec.witness6 (enc := enc) (C := Try.checked) false ⟨#[], #[.agg #[.int .i64 0, .int .i64 0, .slice none 0 0], .slice none 0 0, .int .i64 0], []⟩ 8 (by kernel_rfl) (by kernel_rfl) (by kernel_rfl) (by kernel_rfl)) ?_
  intro W base args ds gs before hval0 hW hcnd hsz0 _
  have hval : ∀ (j : Nat) t v, Try.f9.params[j]? = some t → args[j]? = some v → Value.okWide Try.prog W .any base t v := hval0
  have hW' := hW
  obtain ⟨p, q, hA0, hV, rfl, hfz, hnd⟩ := hW
  have hA : DataW.TrodAll enc Try.prog W 0 (fun _ => true) true Try.f9.params.toList args.toList ds p := hA0
  rw [Try.params9] at hA hval
  obtain ⟨v0, vs0, d0, ds0, p0, q0, hargs, rfl, rfl, h0, r0⟩ := trodAll_cons hA
  obtain ⟨v1, vs1, d1, ds1, p1, q1, rfl, rfl, rfl, h1, r1⟩ := trodAll_cons r0
  obtain ⟨v2, vs2, d2, ds2, p2, q2, rfl, rfl, rfl, h2, r2⟩ := trodAll_cons r1
  obtain ⟨rfl, rfl, rfl⟩ := trodAll_nil r2
  obtain rfl : args = #[v0, v1, v2] := by cases args; simp_all
  obtain ⟨rfl, rfl⟩ := trodVars_none hV
  have k0 := h0
  have lt0 : ∀ x ∈ p0, x.block < W.heap.size := by obtain ⟨m, hm⟩ := k0; exact DataW.trod_lt m _ _ _ hm
  obtain ⟨a0, b0, A0, c0, l0, rfl, hC0, hc0⟩ := open_matrix (hval 0 24 v0 rfl rfl) h0
  have k1 := h1
  have lt1 : ∀ x ∈ p1, x.block < W.heap.size := by obtain ⟨m, hm⟩ := k1; exact DataW.trod_lt m _ _ _ hm
  obtain ⟨A1, c1, l1, rfl, hC1, hc1⟩ := open_words (hval 1 60 v1 rfl rfl) h1
  obtain ⟨a2, rfl, rfl, rfl, w2⟩ := open_int Try.underlying3 (hval 2 3 v2 rfl rfl) h2
  clear hA0 hval0 hsz0
  refine (Pure.returns_walk a0 b0 A0 c0 l0 A1 c1 l1 a2 W hC0 hc0 hC1 hc1).mono fun e W' ⟨he, bel⟩ => ?_
  subst he
  exact ⟨_, rfl, _, _, _, [], _, [], hW', trodAll_mk1 (shut_bool Try.underlying4 _), (trodAll_cons_mk (Below.trod laidOut (by kernel_rfl) (of_decide_eq_true (by kernel_rfl)) k0 bel lt0) (trodAll_cons_mk (Below.trod laidOut (by kernel_rfl) (of_decide_eq_true (by kernel_rfl)) k1 bel lt1) (trodAll_cons_mk (shut_int Try.underlying3 w2) trodAll_mk0))), rfl, bel.frame _, fun h => by cases h⟩
theorem over : Rows.qrlayoutReturnsRow.holds Try.pinned (OpenSpec.ofChange Rows.qrlayoutReturnsSpec) :=
  OpenClaim.holds_of_wide 9 Try.f9 rfl rfl rfl rfl rfl rfl rfl ⟨rfl, rfl, rfl, rfl, rfl⟩ rfl rfl rfl rfl rfl (by kernel_rfl) Try.func9 (by kernel_rfl)
    (of_decide_eq_true (by kernel_rfl)) (by unfold Func.isWrapper; first | (rw [if_pos (by decide +kernel)]; kernel_rfl) | (rw [if_neg (by decide +kernel)]; exact ⟨rfl, rfl⟩))
    (fun os started H enc _ => lifted os started H enc)
theorem proved : Rows.QrlayoutReturnsSaid := over
#print axioms proved
end Go.Proofs.Ytbbnagjfjgkgjaa.qrlayoutReturns
namespace Go.Proofs.Ytbbnagjfjgkgjaa
theorem qrlayoutReturns_holds : Rows.QrlayoutReturnsSaid := qrlayoutReturns.proved
end Go.Proofs.Ytbbnagjfjgkgjaa
