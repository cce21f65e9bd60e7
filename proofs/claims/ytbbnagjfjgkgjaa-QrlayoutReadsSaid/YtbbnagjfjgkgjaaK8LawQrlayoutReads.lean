/- QrlayoutReads: level and mask are read although at most three modules of each copy of the format and version information are inverted, for any version, level and mask. -/
import Derived.Test.YtbbnagjfjgkgjaaRows
import Derived.Test.YtbbnagjfjgkgjaaK8PureQrlayoutReads
import Derived.WalkKit
import Derived.ProofKit
import Derived.OpenShut
import Derived.ShutString
import Derived.ChangeOld
import Derived.Below
import Derived.SizedLaws
import Derived.Carry
import Derived.Deep.Grids
import Derived.Lib.SmallJoins
import Derived.Deep.Slices
import Derived.Laws.IdiomArrays
namespace Go.Proofs.Ytbbnagjfjgkgjaa.qrlayoutReads
open Go.ChangeShapes Go.WideShapes Go.ChangeAt Go.RowKit Go.Joins Go.Deep Go.Proofs.YtbbnagjfjgkgjaaW.PrintWords
set_option linter.unusedVariables false
theorem own : ownKnob Try.prog.godebug = none := by kernel_rfl
theorem laidOut : laidOutB Try.prog = true := by kernel_rfl
set_option maxRecDepth 100000 in
/-- What an argument of three numbers is. -/
theorem open_three {H : Type} {enc : TypeId × Value → H} {W : World} {v : Value} {d : DataW H} {p : List MemPlace} {b0 : Nat} (hv : Value.okWide Try.prog W .any b0 39 v) (h : DataW.Trod enc Try.prog W 0 (fun _ => true) true 39 v d p) :
    ∃ a b c : Int, v = .agg #[.int .i64 a, .int .i64 b, .int .i64 c] := by
  simp only [Value.okWide, Try.underlying39] at hv
  obtain ⟨cs, rfl, hsz, _⟩ := hv
  obtain ⟨c0, c1, c2, rfl⟩ := array3 (hsz.trans (by kernel_rfl))
  obtain ⟨fuel, hf⟩ := h
  obtain ⟨y0, y1, y2, n, _, h0, h1, h2⟩ := trod_array3 Try.underlying39 (by kernel_rfl) hf
  obtain ⟨a, ha, _⟩ := DataW.trod_int Try.underlying3 h0
  obtain ⟨b, hb, _⟩ := DataW.trod_int Try.underlying3 h1
  obtain ⟨c, hc, _⟩ := DataW.trod_int Try.underlying3 h2
  simp only [List.cons.injEq, and_true] at ha hb hc
  subst ha hb hc
  exact ⟨a, b, c, rfl⟩
set_option maxRecDepth 100000 in
/-- What an argument of spots is. -/
theorem open_spots {H : Type} {enc : TypeId × Value → H} {W : World} {v : Value} {d : DataW H} {p : List MemPlace} {b0 : Nat} (hv : Value.okWide Try.prog W .any b0 40 v) (h : DataW.Trod enc Try.prog W 0 (fun _ => true) true 40 v d p) :
    ∃ (A : Option Addr) (c : Nat) (l : List L.S43), v = .slice A l.length c ∧ Kd.C L.k43 W A l.length l := by
  obtain ⟨fuel, hf⟩ := h
  have hs : ∃ a n c, v = .slice a n c := by
    simp only [Value.okWide, Try.underlying40, Cell.okWide] at hv
    cases v <;> simp_all [Cell.ok]
  obtain ⟨a', n', c', rfl⟩ := hs
  have hf' : DataW.trod enc Try.prog W 0 (fun _ => true) true fuel 40 [.slice a' n' c'] = some (d, p) := hf
  rcases open_slice Try.underlying40 hf' with ⟨hcs, _⟩ | ⟨ad, len, cap, m, n, D, Pl, hcs, _, hl, hm, hmm, _, hx⟩
  · simp only [List.cons.injEq, and_true] at hcs
    rw [hcs]
    exact ⟨none, 0, [], rfl, Kd.C_nil _ _⟩
  · simp only [List.cons.injEq, and_true] at hcs
    rw [hcs]
    have hmm' : m = cap := hmm
    have each : ∀ i, i < len → ∃ q : L.S43, W.cell? (ad.add (i * 3)) = some (.int .i64 q.f0) ∧ W.cell? (ad.add (i * 3 + 1)) = some (.int .i64 q.f1) ∧ W.cell? (ad.add (i * 3 + 2)) = some (.bool q.f2) := by
      intro i hi
      obtain ⟨cs', h1, h2⟩ := hx i (by omega)
      rw [show Try.prog.cellsOf 43 = 3 by kernel_rfl] at h1
      obtain ⟨_, hlen, hcell⟩ := World.cells?_some h1
      match cs', hlen with
      | [v0, v1, v2], _ =>
        obtain ⟨y0, y1, y2, k, _, _, g0, g1, g2⟩ := trod_struct3 Try.underlying43 h2
        have e0 := hcell 0 (by omega)
        have e1 := hcell 1 (by omega)
        have e2 := hcell 2 (by omega)
        rw [Deep.add_add] at e0 e1 e2
        have g0' : DataW.trod enc Try.prog W 0 (fun _ => true) true k 3 [v0] = some y0 := by simpa [show Try.prog.cellsOf 3 = 1 by kernel_rfl, show Try.prog.cellsOf 4 = 1 by kernel_rfl] using g0
        have g1' : DataW.trod enc Try.prog W 0 (fun _ => true) true k 3 [v1] = some y1 := by simpa [show Try.prog.cellsOf 3 = 1 by kernel_rfl, show Try.prog.cellsOf 4 = 1 by kernel_rfl] using g1
        have g2' : DataW.trod enc Try.prog W 0 (fun _ => true) true k 4 [v2] = some y2 := by simpa [show Try.prog.cellsOf 3 = 1 by kernel_rfl, show Try.prog.cellsOf 4 = 1 by kernel_rfl] using g2
        obtain ⟨a, ha, _⟩ := DataW.trod_int Try.underlying3 g0'
        obtain ⟨b, hb, _⟩ := DataW.trod_int Try.underlying3 g1'
        obtain ⟨c, hc, _⟩ := DataW.trod_bool Try.underlying4 g2'
        simp only [List.cons.injEq, and_true] at ha hb hc
        subst ha hb hc
        exact ⟨⟨a, b, c⟩, by simpa using e0, by simpa using e1, by simpa using e2⟩
    have : Inhabited L.S43 := ⟨L.z43⟩
    obtain ⟨q, hq⟩ := choose_lt each
    refine ⟨some ad, cap, (List.range len).map q, by simp, ?_⟩
    refine ⟨rfl, by simp [maxLen] at hm ⊢; omega, fun _ => ⟨ad, rfl, fun j x hj => ?_⟩⟩
    have hjl : j < len := by have := (List.getElem?_eq_some_iff.1 hj).1; simpa using this
    have hxq : x = q j := by
      rw [List.getElem?_map, List.getElem?_range hjl] at hj
      simpa using hj.symm
    subst hxq
    obtain ⟨c0, c1, c2⟩ := hq j hjl
    refine ⟨_, rfl, L.k43_mk W (q j), fun i u hu => ?_⟩
    rw [show L.k43.sz = 3 from rfl]
    match i, hu with
    | 0, hu => simp at hu; subst hu; exact c0
    | 1, hu => simp at hu; subst hu; exact c1
    | 2, hu => simp at hu; subst hu; exact c2
set_option maxRecDepth 100000 in
theorem lifted (os : Os) (started : os.Started) (H : Type) (enc : TypeId × Value → H) :
    ReturnsInHanded {} Try.checked os 5 .any (Rows.qrlayoutReadsSpec.pre6 enc Try.prog Try.f5 Rows.qrlayoutReadsRow.domain false) (Rows.qrlayoutReadsSpec.post enc Try.prog Try.f5 false true false false) := by
  refine returnsInHanded_of_change_sized (C := Try.checked) own started (by kernel_rfl) Try.func5
    (ChangeSpec.witness6 (enc := enc) (C := Try.checked) false ⟨#[], #[.agg #[.int .i64 0, .int .i64 0, .int .i64 0], .slice none 0 0], []⟩ 8 (by kernel_rfl) (by kernel_rfl) (by kernel_rfl) (by kernel_rfl)) ?_
  intro W base args ds gs before hval0 hW hcnd hsz0 _
  have hval : ∀ (j : Nat) t v, Try.f5.params[j]? = some t → args[j]? = some v → Value.okWide Try.prog W .any base t v := hval0
  have hW' := hW
  obtain ⟨p, q, hA0, hV, rfl, hfz, hnd⟩ := hW
  have hA : DataW.TrodAll enc Try.prog W 0 (fun _ => true) true Try.f5.params.toList args.toList ds p := hA0
  rw [Try.params5] at hA hval
  obtain ⟨v0, vs0, d0, ds0, p0, q0, hargs, rfl, rfl, h0, r0⟩ := trodAll_cons hA
  obtain ⟨v1, vs1, d1, ds1, p1, q1, rfl, rfl, rfl, h1, r1⟩ := trodAll_cons r0
  obtain ⟨rfl, rfl, rfl⟩ := trodAll_nil r1
  obtain rfl : args = #[v0, v1] := by cases args; simp_all
  obtain ⟨rfl, rfl⟩ := trodVars_none hV
  have k0 := h0
  have lt0 : ∀ x ∈ p0, x.block < W.heap.size := by obtain ⟨m, hm⟩ := k0; exact DataW.trod_lt m _ _ _ hm
  obtain ⟨x0, x1, x2, rfl⟩ := open_three (hval 0 39 v0 rfl rfl) h0
  have k1 := h1
  have lt1 : ∀ x ∈ p1, x.block < W.heap.size := by obtain ⟨m, hm⟩ := k1; exact DataW.trod_lt m _ _ _ hm
  obtain ⟨A1, c1, l1, rfl, hC1⟩ := open_spots (hval 1 40 v1 rfl rfl) h1
  clear hA0 hval0 hsz0
  refine (Pure.reads_walk x0 x1 x2 A1 c1 l1 W hC1).mono fun e W' ⟨he, bel⟩ => ?_
  subst he
  exact ⟨_, rfl, _, _, _, [], _, [], hW', trodAll_mk1 (shut_bool Try.underlying4 _), (trodAll_cons_mk (Below.trod laidOut (by kernel_rfl) (of_decide_eq_true (by kernel_rfl)) k0 bel lt0) (trodAll_cons_mk (Below.trod laidOut (by kernel_rfl) (of_decide_eq_true (by kernel_rfl)) k1 bel lt1) trodAll_mk0)), rfl, bel.frame _, fun h => by cases h⟩
theorem over : Rows.qrlayoutReadsRow.holds Try.pinned (OpenSpec.ofChange Rows.qrlayoutReadsSpec) :=
  OpenClaim.holds_of_wide 5 Try.f5 rfl rfl rfl rfl rfl rfl rfl ⟨rfl, rfl, rfl, rfl, rfl⟩ rfl rfl rfl rfl rfl (by kernel_rfl) Try.func5 (by kernel_rfl)
    (of_decide_eq_true (by kernel_rfl)) (by unfold Func.isWrapper; first | (rw [if_pos (by decide +kernel)]; kernel_rfl) | (rw [if_neg (by decide +kernel)]; exact ⟨rfl, rfl⟩))
    (fun os started H enc _ => lifted os started H enc)
theorem proved : Rows.QrlayoutReadsSaid := over
#print axioms proved
end Go.Proofs.Ytbbnagjfjgkgjaa.qrlayoutReads
namespace Go.Proofs.Ytbbnagjfjgkgjaa
theorem qrlayoutReads_holds : Rows.QrlayoutReadsSaid := qrlayoutReads.proved
end Go.Proofs.Ytbbnagjfjgkgjaa
