/- qrlayout.Fill, walked: the range over the path. -/
import Derived.RangeFuncNested
import Derived.RangeFuncBound
import Derived.RangeFuncCalls
import Derived.RangeFuncLeaves
import Derived.RangeFuncBox
import Derived.Shelf.Abstract
import Derived.Shelf.RegionOpen
import Derived.WalkKit
import Derived.OwnWalkIn
import Derived.TacticsInMore
import Derived.LoopNIn
import Derived.LoopIn
import Derived.Test.YtbbnagjfjgkgjaaKAStm
import Derived.Test.YtbbnagjfjgkgjaaKAPta
import Derived.Test.YtbbnagjfjgkgjaaKAPtm
import Derived.Test.YtbbnagjfjgkgjaaKALx5
import Derived.Test.YtbbnagjfjgkgjaaKALx7
import Derived.Test.YtbbnagjfjgkgjaaKALg6
import Derived.Test.YtbbnagjfjgkgjaaKALr3
namespace Go.Proofs.Ytbbnagjfjgkgjaa.L
open Go.RowKit Go.Shelf Go.Proofs.YtbbnagjfjgkgjaaW.PrintWords Go.Proofs.YtbbnagjfjgkgjaaW.PrintLast Go.Proofs.YtbbnagjfjgkgjaaW.PrintMore
attribute [local go_sem] Oper.semAt_some
set_option linter.unusedVariables false
set_option linter.unusedSimpArgs false

def fillL (W : Int) (b : List Bool) : List S45 → Nat → List Bool → List Bool
 | [], _, dk => dk
 | p :: ps, i, dk => fillL W b ps (i + 1) (dk.set (p.f1 * W + p.f0).toNat (b.getD i false))
theorem fillL_snoc (W : Int) (b : List Bool) (p : S45) : ∀ (ps : List S45) (i : Nat) (dk : List Bool), fillL W b (ps ++ [p]) i dk = (fillL W b ps i dk).set (p.f1 * W + p.f0).toNat (b.getD (i + ps.length) false)
 | [], i, dk => rfl
 | q :: ps, i, dk => by
  rw [List.cons_append, fillL, fillL_snoc W b p ps, fillL, List.length_cons, show i + 1 + ps.length = i + (ps.length + 1) by omega]
theorem fillL_len (W : Int) (b : List Bool) : ∀ (ps : List S45) (i : Nat) (dk : List Bool), (fillL W b ps i dk).length = dk.length
 | [], i, dk => rfl
 | q :: ps, i, dk => by rw [fillL, fillL_len, List.length_set]
set_option maxRecDepth 100000 in
set_option maxHeartbeats 8000000 in
theorem fill_ok (k : Nat) (W H v s nn rr : Int) (A : Option Addr) (c : Nat) (l : List Bool) (A2 : Option Addr) (c2 : Nat) (ws : List Int) (al : List Int) (w : World)
  (hA : Kd.C Kd.bool w A l.length l) (hc : l.length ≤ c) (hA2 : Kd.C (Kd.int .i64) w A2 ws.length ws) (hl : l.length ≤ 40000) (hwl : ws.length ≤ 4000)
  (hs : qrlayout_sized.f k W H l = some (v, s, al, 0)) (h63 : ∀ w : World, Calls Try.prog 63 #[.int .i64 v] w fun e w' => e = .returned (.tuple #[.int .i64 nn, .int .i64 rr, .int .i64 0]) ∧ Below w.heap.size w w')
  (hnn : nn = (ws.length : Int)) (hgood : ∀ i, i < ws.length → 0 ≤ rd ws (i : Int) ∧ rd ws (i : Int) / 256 = 0)
  (hcl : qrlayout_clone.f W H l = some (W, H, l)) (hlo : -2 ≤ wrap64 (s - 1)) (ps : List S45) (hps : ps = dataP k v s al (allL s (wrap64 (s - 1)).toNat (wrap64 (s - 1)) true)) (hall : allK k v s al (allL s (wrap64 (s - 1)).toNat (wrap64 (s - 1)) true))
  (hin : ∀ p ∈ ps, (0 ≤ p.f1 * W ∧ p.f1 * W ≤ 40000) ∧ 0 ≤ p.f1 * W + p.f0 ∧ p.f1 * W + p.f0 < (l.length : Int)) (hpl : ps.length ≤ 100000) (hl0 : 0 < l.length) :
  CallsIn Fence.wide 7 Try.prog 30 #[.agg #[.int .i64 W, .int .i64 H, .slice A l.length c], .slice A2 ws.length c2] w fun e w' => ∃ A1 c1, e = .returned (.tuple #[.agg #[.int .i64 W, .int .i64 H, .slice A1 l.length c1], .int .i64 0]) ∧ l.length ≤ c1 ∧ Kd.C Kd.bool w' A1 l.length (fillL W (wordBits ws) ps 0 l) ∧ Below w.heap.size w w' := by
 have hu24 := Try.underlying24
 have hu69 := Try.underlying69
 have hu45 := Try.underlying45
 have hu22 := Try.underlying22
 have hb0 : ∀ o o', Below w.heap.size w ((w.alloc o).alloc o') := fun o o' => ((Below.refl _ w).alloc (Nat.le_refl _) _).alloc (by simp) _
 have hnb : (nn != (ws.length : Int)) = false := bne_eq_false_iff_eq.mpr hnn
 have hnb' : ((ws.length : Int) != nn) = false := bne_eq_false_iff_eq.mpr hnn.symm
 refine callsIn_of_wp_marks Try.func30 rfl trivial ?_ rfl
 simp only [Try.ntmps30, List.size_toArray, List.length_cons, List.length_nil, Nat.reduceAdd, Nat.reduceSub, Array.replicate_succ, Array.replicate_zero, List.push_toArray, List.append_toArray, List.nil_append, List.cons_append]
 gi_wp2
 refine ⟨trivial, (callsIn_wide.2 (qrlayout_sized.calls k W H A c l v s al 0 _ (Kd.C_below hA (hb0 _ _)) hc hs)).mono ?_⟩
 rintro e q1 ⟨v1, rfl, hR1, hbq1⟩
 have B1 : Below w.heap.size w q1 := (hb0 _ _).trans (hbq1.mono (hb0 _ _).size)
 obtain ⟨Aal, cal, rfl, hcal, hCal⟩ := Kd.R_reads hR1
 have hbm := blk_below (blk_alloc (blk_new w (.cells #[.int .i64 W, .int .i64 H, .slice A l.length c] 24)) _) hbq1
 gi_wp2
 refine ⟨trivial, (callsIn_wide.2 (h63 _)).mono ?_⟩
 rintro e q2 ⟨rfl, hbq2⟩
 have hbm2 := blk_below (blk_alloc hbm _) hbq2
 have hfr2 := blk_below (blk_new q1 (.cells #[.int .i64 v, .int .i64 s, .slice Aal al.length cal] 69)) hbq2
 have B2 : Below w.heap.size w q2 := (B1.alloc B1.size _).trans (hbq2.mono (B1.alloc B1.size _).size)
 have hC2 := Kd.C_below (Kd.C_alloc hCal _) hbq2
 gi_wp2
 refine ⟨trivial, (callsIn_wide.2 (fromWords8 A2 c2 ws q2 (Kd.C_below hA2 B2) hwl ws.length (Nat.le_refl _) hgood (fun h => absurd h (by omega)) (wordBits ws) 0 ⟨fun _ => ⟨rfl, rfl⟩, fun h => absurd h (by omega)⟩)).mono ?_⟩
 rintro e q3 ⟨v3, rfl, hR3, hbq3⟩
 obtain ⟨Ab, cb, rfl, hcb, hCb⟩ := Kd.R_reads hR3
 have hbm3 := blk_below hbm2 hbq3
 have hfr3 := blk_below hfr2 hbq3
 have B3 : Below w.heap.size w q3 := B2.trans (hbq3.mono B2.size)
 have hC3 := Kd.C_below hC2 hbq3
 have m0 := fun o => cell_alloc_p o ((blk_cell hbm3 0).trans rfl)
 have m1 := fun o => cell_alloc_p o ((blk_cell hbm3 1).trans rfl)
 have m2 := fun o => cell_alloc_p o ((blk_cell hbm3 2).trans rfl)
 gi_wp2
 refine ⟨trivial, (callsIn_wide.2 (qrlayout_clone.calls W H A c l W H l _ (Kd.C_alloc (Kd.C_below hA B3) _) hc hcl)).mono ?_⟩
 rintro e q4 ⟨v4, rfl, hR4, hbq4⟩
 obtain ⟨gd, cd, rfl, hgd0, hgd1, cellsd, hcd⟩ := Kd.R_form hR4 hl0
 have hcd9 : l.length ≤ cd := by obtain ⟨A9, c9, e9, hc9, _⟩ := Kd.R_reads hR4; cases e9; exact hc9
 have hbm4 := blk_below (blk_alloc hbm3 _) hbq4
 have hfr4 := blk_below (blk_alloc hfr3 _) hbq4
 have hbb4 := blk_below (blk_new q3 (.cells #[.slice Ab (wordBits ws).length cb] 22)) hbq4
 have f0 := (blk_cell hfr4 0).trans rfl
 have f1 := (blk_cell hfr4 1).trans rfl
 have f2 := (blk_cell hfr4 2).trans rfl
 have f0' := fun o o' => cell_alloc_p o' (cell_alloc_p o f0)
 have f1' := fun o o' => cell_alloc_p o' (cell_alloc_p o f1)
 have f2' := fun o o' => cell_alloc_p o' (cell_alloc_p o f2)
 gi_wp2
 refine ⟨trivial, (pathF_in _ v s Aal cal al _).mono ?_⟩
 rintro e q5 ⟨rfl, hq5⟩
 -- THE LOOP
 subst hq5
 have zw : w.heap.size + 1 < q1.heap.size := by have := hbq1.size; simp at this; omega
 have zq : q1.heap.size ≤ q3.heap.size := by have := hbq2.size; have := hbq3.size; simp at *; omega
 have hbr4 := blk_below (blk_alloc (blk_below (blk_below (blk_alloc (blk_below (blk_new (w.alloc (.cells #[.int .i64 W, .int .i64 H, .slice A l.length c] 24)) (.cells #[.int .i64 0, .int .i64 0, .slice none 0 0] 24)) hbq1) _) hbq2) hbq3) _) hbq4
 rw [World.size_alloc] at hbr4
 obtain ⟨wc, hwc⟩ : ∃ wc, q3.alloc (.cells #[.slice Ab (wordBits ws).length cb] 22) = wc := ⟨_, rfl⟩
 have hbmc : wc.heap[w.heap.size]? = some (.cells #[.int .i64 W, .int .i64 H, .slice A l.length c] 24 (0, 0)) := by rw [← hwc]; exact blk_alloc hbm3 _
 have hbbc : wc.heap[q3.heap.size]? = some (.cells #[.slice Ab (wordBits ws).length cb] 22 (0, 0)) := by rw [← hwc]; exact blk_new _ _
 have hCbc : Kd.C Kd.bool wc Ab (wordBits ws).length (wordBits ws) := by rw [← hwc]; exact Kd.C_alloc hCb _
 have hCac : Kd.C (Kd.int .i64) wc Aal al.length al := by rw [← hwc]; exact Kd.C_alloc hC3 _
 have Bwc : Below w.heap.size w wc := by rw [← hwc]; exact B3.alloc B3.size _
 have hq3c : q3.heap.size < wc.heap.size := by rw [← hwc]; simp
 rw [hwc] at hbq4 hgd0 hR4
 have hD0 : BR q4 gd l := BR.of_R hR4 hcd rfl
 obtain ⟨w5, hw5⟩ : ∃ w5, ((q4.alloc (.cells #[.int .i64 W, .int .i64 H, .slice (some ⟨gd, 0, none⟩) l.length cd] 24)).alloc (.cells #[.int .i64 0] 3)).alloc (.cells #[.int .i64 v, .int .i64 s, .slice Aal al.length cal] 69) = w5 := ⟨_, rfl⟩
 have z5 : w5.heap.size = q4.heap.size + 3 := by rw [← hw5]; simp
 have hbo5 : w5.heap[q4.heap.size]? = some (.cells #[.int .i64 W, .int .i64 H, .slice (some ⟨gd, 0, none⟩) l.length cd] 24 (0, 0)) := by rw [← hw5]; exact blk_alloc (blk_alloc (blk_new _ _) _) _
 have hbi5 : w5.heap[q4.heap.size + 1]? = some (.cells #[.int .i64 0] 3 (0, 0)) := by
  rw [← hw5]
  refine blk_alloc ?_ _
  have := blk_new (q4.alloc (.cells #[.int .i64 W, .int .i64 H, .slice (some ⟨gd, 0, none⟩) l.length cd] 24)) (.cells #[.int .i64 0] 3)
  rwa [World.size_alloc] at this
 have hbs5 : w5.heap[q4.heap.size + 2]? = some (.cells #[.int .i64 v, .int .i64 s, .slice Aal al.length cal] 69 (0, 0)) := by
  rw [← hw5]
  have := blk_new ((q4.alloc (.cells #[.int .i64 W, .int .i64 H, .slice (some ⟨gd, 0, none⟩) l.length cd] 24)).alloc (.cells #[.int .i64 0] 3)) (.cells #[.int .i64 v, .int .i64 s, .slice Aal al.length cal] 69)
  rwa [World.size_alloc, World.size_alloc] at this
 have hbr5 : w5.heap[w.heap.size + 1]? = some (.cells #[.int .i64 0, .int .i64 0, .slice none 0 0] 24 (0, 0)) := by rw [← hw5]; exact blk_alloc (blk_alloc (blk_alloc hbr4 _) _) _
 have hD5 : BR w5 gd l := by rw [← hw5]; exact ((hD0.alloc _).alloc _).alloc _
 have B5 : Below wc.heap.size wc w5 := by rw [← hw5]; exact ((hbq4.alloc hbq4.size _).alloc (by have := hbq4.size; simp; omega) _).alloc (by have := hbq4.size; simp; omega) _
 have zc := hbq4.size
 gi_wp2
 clear hw5 hwc
 clear f0 f1 f2 f0' f1' f2' m0 m1 m2 hR1 hR3 hR4 hcd hD0 hbr4 hfr4 hbb4 hbm4 hbm3 hbm2 hbm hfr2 hfr3 hC2 hC3 hCb hbq1 hbq2 hbq3 hbq4 hb0 hnb hnb'
 refine wpIn_rangeFunc_ownH rfl (by omega) (gf := 84) (lb := #[.pointer (some ⟨q4.heap.size + 1 + 1, 0, none⟩)]) rfl trivial (enters_of Try.func84 (by kernel_rfl) rfl)
  (path_stopsB (7 - 1) (by omega) k _ v s Aal cal al hcal hlo ps hps hall wc w5 hCac hbs5 B5) (fun h h' => ⟨h.1.trans h'.1, h'.2.trans h.2⟩)
  (fun X L o o' hL ho hc hw => ⟨(Below.refl _ X).grown (grownBy_putObj' X L o') (by have := (Array.getElem?_eq_some_iff.1 ho).1; omega) (fun k e => by cases e; omega), World.putObj_heap_other (by omega)⟩) (Below.refl _ _) (fun _ => rfl)
  (fun pre X => Below wc.heap.size wc X ∧ X.heap[q4.heap.size]? = some (.cells #[.int .i64 W, .int .i64 H, .slice (some ⟨gd, 0, none⟩) l.length cd] 24 (0, 0)) ∧ X.heap[q4.heap.size + 1]? = some (.cells #[.int .i64 (pre.length : Int)] 3 (0, 0)) ∧ BR X gd (fillL W (wordBits ws) (pre.map (·.1)) 0 l) ∧ X.heap[w.heap.size + 1]? = some (.cells #[.int .i64 0, .int .i64 0, .slice none 0 0] 24 (0, 0)) ∧ w5.heap.size ≤ X.heap.size)
  (fun _ _ _ => False)
  (fun pre X Y row hs hg hr => by
   obtain ⟨h1, h2, h3, ⟨cs, h4, h4'⟩, h5, h6⟩ := hs
   have K : ∀ (g : Nat) (cs : Array Value) (t : TypeId), X.heap[g]? = some (.cells cs t (0, 0)) → Y.heap[g]? = some (.cells cs t (0, 0)) := fun g cs t h =>
    (hg.block g (blk_lt h) (fun e => by obtain ⟨o, ho, hc⟩ := (hr g e.symm).2; rw [h] at ho; cases ho; cases hc)).trans h
   exact ⟨h1.grown hg h1.size (fun k e => by have := (hr k e).1; omega), K _ _ _ h2, K _ _ _ h3, ⟨cs, K _ _ _ h4, h4'⟩, K _ _ _ h5, Nat.le_trans h6 hg.size⟩)
  (fun _ _ _ _ _ hs _ _ => hs)
  ⟨B5, hbo5, hbi5, hD5, hbr5, Nat.le_refl _⟩
  (fun x a' X => ∃ Bx, X.heap[Bx]? = some (.cells #[.int .i64 x.1.f0, .int .i64 x.1.f1] 45 (0, 0)) ∧ a' = { tmps := #[.agg #[.int .i64 W, .int .i64 H, .slice A l.length c], .slice A2 ws.length c2, .pointer (some ⟨w.heap.size, 0, none⟩), undef, .pointer (some ⟨w.heap.size + 1, 0, none⟩), .int .i64 0, .pointer (some ⟨q1.heap.size, 0, none⟩), .int .i64 0, .int .i64 (ws.length : Int), .int .i64 rr, .int .i64 0, .pointer (some ⟨q3.heap.size, 0, none⟩), .pointer (some ⟨q4.heap.size, 0, none⟩), .pointer (some ⟨q4.heap.size + 1, 0, none⟩), .pointer (some ⟨Bx, 0, none⟩), .tuple #[.agg #[.int .i64 v, .int .i64 s, .slice Aal al.length cal], .int .i64 0], .agg #[.int .i64 W, .int .i64 H, .slice A l.length c], .tuple #[.agg #[.int .i64 v, .int .i64 s, .slice Aal al.length cal], .int .i64 0], .agg #[.int .i64 v, .int .i64 s, .slice Aal al.length cal], .int .i64 0, .int .i64 0, .bool false, undef, undef, .tuple #[.int .i64 (ws.length : Int), .int .i64 rr, .int .i64 0], .pointer (some ⟨q1.heap.size, 0, none⟩), .int .i64 v, .tuple #[.int .i64 (ws.length : Int), .int .i64 rr, .int .i64 0], .int .i64 (ws.length : Int), .int .i64 rr, .int .i64 0, .slice A2 ws.length c2, .int .i64 (ws.length : Int), .int .i64 (ws.length : Int), .bool false, undef, .tuple #[.slice Ab (wordBits ws).length cb, .int .i64 0], .slice A2 ws.length c2, .tuple #[.slice Ab (wordBits ws).length cb, .int .i64 0], .slice Ab (wordBits ws).length cb, .int .i64 0, .int .i64 0, .bool false, undef, .agg #[.int .i64 W, .int .i64 H, .slice A l.length c], .agg #[.int .i64 W, .int .i64 H, .slice (some ⟨gd, 0, none⟩) l.length cd], .agg #[.int .i64 v, .int .i64 s, .slice Aal al.length cal], .func (.func 84) #[] #[.pointer (some ⟨q4.heap.size + 1 + 1, 0, none⟩)], encP x.1, undef, undef, undef, undef, undef, undef, undef, undef, undef, undef, undef, undef, undef, undef, undef, undef, undef, undef, undef, undef, undef, undef, undef, undef], defers := [] })
  (fun x a' _ X Y row hs hg hr => by
   obtain ⟨Bx, e2, e3⟩ := hs
   refine ⟨Bx, ?_, e3⟩
   rw [hg.block Bx (Array.getElem?_eq_some_iff.1 e2).1 (fun e => by obtain ⟨o, ho, hc⟩ := (hr Bx e.symm).2; rw [e2] at ho; cases ho; cases hc)]
   exact e2)
  ?assign ?body ?done ?stop
 case assign =>
  rintro lp pre x X K ⟨h1, h2, h3, h4, h5, h6⟩ hK
  dsimp only [encP]
  gi_wp2
  refine hK _ _ ((KeepsOthers.alloc _ _).from _) ⟨(Below.refl _ X).alloc h1.size _, Below.heap_alloc X _ _ (by omega)⟩ ⟨h1.alloc h1.size _, blk_alloc h2 _, blk_alloc h3 _, h4.alloc _, blk_alloc h5 _, by simp; omega⟩ ⟨X.heap.size, World.alloc_heap_new X _, rfl⟩
 case body =>
  rintro lp pre x a' X hlp ⟨r, hr⟩ ⟨h1, h2, h3, h4, h5, h6⟩ ⟨Bx, bX, rfl⟩ hlt
  obtain ⟨⟨hp0, hp1⟩, hJ0, hJ1⟩ := hin x.1 x.2
  obtain ⟨⟨px, py⟩, hpm⟩ := x
  simp only at hp0 hp1 hJ0 hJ1 bX
  obtain ⟨Q, hQ⟩ : ∃ Q, py * W = Q := ⟨_, rfl⟩
  rw [hQ] at hp0 hp1 hJ0 hJ1
  obtain ⟨J, hJ⟩ : ∃ J, Q + px = J := ⟨_, rfl⟩
  rw [hJ] at hJ0 hJ1
  have hg0 : gd ≠ q4.heap.size + 1 := by clear hQ; omega
  have hg1 : q4.heap.size + 1 + 1 ≠ gd := by clear hQ; omega
  have hg2 : q4.heap.size ≠ gd := by clear hQ; omega
  have hg3 : w.heap.size + 1 ≠ gd := by clear hQ; omega
  have hg4 : w.heap.size + 1 ≠ q4.heap.size + 1 := by clear hQ; omega
  have hg5 : wc.heap.size ≤ q4.heap.size + 1 := by clear hQ; omega
  have w1 : wrap64 Q = Q := by clear hQ; unfold wrap64; omega
  have w2 : wrap64 J = J := by clear hQ; unfold wrap64; omega
  have w3 : wrap64 ((pre.length : Int) + 1) = (pre.length : Int) + 1 := by clear hQ; unfold wrap64; omega
  have w4 := (i64_w ((pre.length : Int) + 1)).trans w3
  have w5' := (i64_w Q).trans w1
  have w6 := (i64_w J).trans w2
  have hbmX := blk_below hbmc h1
  have hbbX := blk_below hbbc h1
  have hCbX := Kd.C_below hCbc h1
  have hdl : (fillL W (wordBits ws) (pre.map (·.1)) 0 l).length = l.length := fillL_len _ _ _ _ _
  have hJl : J < ((fillL W (wordBits ws) (pre.map (·.1)) 0 l).length : Int) := by rw [hdl]; exact hJ1
  have hJn : J.toNat < (fillL W (wordBits ws) (pre.map (·.1)) 0 l).length := by clear hQ; omega
  have e0 := (blk_cell h2 2).trans rfl
  have e1 := (blk_cell bX 1).trans rfl
  have e2 := (blk_cell bX 0).trans rfl
  have e3 := (blk_cell hbmX 0).trans rfl
  have e4 := (blk_cell h3 0).trans rfl
  have e5 := (blk_cell hbbX 0).trans rfl
  obtain ⟨d0, d1⟩ := h4.cell J hJ0 hJl
  obtain ⟨bv, hbv⟩ : ∃ bv, (wordBits ws).getD pre.length false = bv := ⟨_, rfl⟩
  obtain ⟨X1, hX1⟩ : ∃ X1, X.drew.setCell ⟨gd, J.toNat, none⟩ (.bool bv) = X1 := ⟨_, rfl⟩
  obtain ⟨X2, hX2⟩ : ∃ X2, X1.setCell ⟨q4.heap.size + 1, 0, none⟩ (.int .i64 ((pre.length : Int) + 1)) = X2 := ⟨_, rfl⟩
  have hi3 : X1.heap[q4.heap.size + 1]? = some (.cells #[.int .i64 (pre.length : Int)] 3 (0, 0)) := by rw [← hX1]; exact blk_far (w := X.drew) h3 (p := ⟨gd, J.toNat, none⟩) (fun e => hg0 e.symm) _
  have i3 := (blk_cell hi3 0).trans rfl
  have i4 := blk_frozen hi3 0
  have hfin : KeepsFrom w5.heap.size X X2 ∧ (Below wc.heap.size X X2 ∧ X2.heap[q4.heap.size + 1 + 1]? = X.heap[q4.heap.size + 1 + 1]?) ∧ Below wc.heap.size wc X2 := by
   rw [← hX2, ← hX1]
   refine ⟨(((KeepsOthers.drew X).trans (KeepsOthers.setCell _ _ _)).trans (KeepsOthers.setCell _ _ _)).from _, ⟨((below_drew1 (Below.refl _ X)).setCell (p := ⟨gd, J.toNat, none⟩) hgd0 _).setCell (p := ⟨q4.heap.size + 1, 0, none⟩) hg5 _, ?_⟩, ((below_drew1 h1).setCell (p := ⟨gd, J.toNat, none⟩) hgd0 _).setCell (p := ⟨q4.heap.size + 1, 0, none⟩) hg5 _⟩
   rw [Below.heap_setCell _ _ _ _ (show q4.heap.size + 1 + 1 ≠ q4.heap.size + 1 from Nat.succ_ne_self _), Below.heap_setCell _ _ _ _ hg1]
   rfl
  have hres : BR X2 gd (fillL W (wordBits ws) ((pre ++ [(⟨⟨px, py⟩, hpm⟩ : { p : S45 // p ∈ ps })]).map (·.1)) 0 l) := by
   have e : (fillL W (wordBits ws) ((pre ++ [(⟨⟨px, py⟩, hpm⟩ : { p : S45 // p ∈ ps })]).map (·.1)) 0 l) = (fillL W (wordBits ws) (pre.map (·.1)) 0 l).set J.toNat bv := by
    rw [List.map_append, List.map_singleton, fillL_snoc]
    simp only [hQ, hJ, List.length_map, Nat.zero_add, hbv]
   rw [e, ← hX2, ← hX1]
   exact (BR.put (w := X.drew) h4 J.toNat hJn _).far hg0 _
  have hrs : X2.heap[w.heap.size + 1]? = some (.cells #[.int .i64 0, .int .i64 0, .slice none 0 0] 24 (0, 0)) := by rw [← hX2, ← hX1]; exact blk_far (blk_far (w := X.drew) h5 hg3 _) hg4 _
  have hro : X2.heap[q4.heap.size]? = some (.cells #[.int .i64 W, .int .i64 H, .slice (some ⟨gd, 0, none⟩) l.length cd] 24 (0, 0)) := by rw [← hX2, ← hX1]; exact blk_far (blk_far (w := X.drew) h2 hg2 _) (show q4.heap.size ≠ q4.heap.size + 1 from Nat.ne_of_lt (Nat.lt_succ_self _)) _
  have hri : X2.heap[q4.heap.size + 1]? = some (.cells #[.int .i64 ((pre ++ [(⟨⟨px, py⟩, hpm⟩ : { p : S45 // p ∈ ps })]).length : Int)] 3 (0, 0)) := by rw [← hX2]; exact blk_put hi3 0 _ (by simp)
  have hX6 : w5.heap.size ≤ X2.heap.size := by rw [← hX2, ← hX1]; simpa [World.setCell] using h6
  clear h2 h3 h5 h1 hi3 hbmX hbbX h4 hg0 hg1 hg2 hg3 hg4 hg5 hdl hJl hJn hl hwl hgood hin hpl
  replace hJ0 := eq_true hJ0
  replace hJ1 := eq_true hJ1
  dsimp only [encP]
  by_cases hlen : (pre.length : Int) < ((wordBits ws).length : Int)
  ·obtain ⟨ad, eA, b0⟩ := Kd.at_bool hCbX (pre.length : Int) (Int.natCast_nonneg _) hlen
   have hbv' : rdOf false (wordBits ws) (pre.length : Int) = bv := by rw [← hbv]; rfl
   rw [hbv'] at b0
   have b1 : X.cell? (ad.add pre.length) = some (.bool bv) := b0
   cases eA
   gi_wp2
   refine wpIn_region_still_tail 21 (by kernel_rfl) (by kernel_rfl) (by kernel_rfl) ?_
   simp only [List.take_succ_cons, List.take_zero, List.drop_succ_cons, List.drop_zero]
   repeat still_step
   try refine wpStill_nil ?_
   gi_wp2
   exact ⟨hfin.1, hfin.2.1, hfin.2.2, hro, hri, hres, hrs, hX6⟩
  ·have hbf : bv = false := by
    rw [← hbv, List.getD_eq_getElem?_getD, List.getElem?_eq_none (Nat.le_of_not_lt (fun h => hlen (Int.ofNat_lt.2 h)))]
    rfl
   subst hbf
   have hlen1 : (pre.length < (wordBits ws).length) = False := eq_false (fun h => hlen (Int.ofNat_lt.2 h))
   clear hlen
   gi_wp2
   refine wpIn_region_still_tail 21 (by kernel_rfl) (by kernel_rfl) (by kernel_rfl) ?_
   simp only [List.take_succ_cons, List.take_zero, List.drop_succ_cons, List.drop_zero]
   repeat still_step
   try refine wpStill_nil ?_
   gi_wp2
   exact ⟨hfin.1, hfin.2.1, hfin.2.2, hro, hri, hres, hrs, hX6⟩
 case done =>
  rintro D ys X hD hys ⟨h1, h2, h3, h4, h5, h6⟩ hK
  rw [hys] at h4
  have c0 := (blk_cell h2 0).trans rfl
  have c1 := (blk_cell h2 1).trans rfl
  have c2 := (blk_cell h2 2).trans rfl
  have r0 := (blk_cell h5 0).trans rfl
  have r1 := blk_frozen h5 0
  have r2 := (blk_cell (blk_put h5 0 (.int .i64 W) rfl) 1).trans rfl
  have r3 := blk_frozen (blk_put h5 0 (.int .i64 W) rfl) 1
  have r4 := (blk_cell (blk_put (blk_put h5 0 (.int .i64 W) rfl) 1 (.int .i64 H) rfl) 2).trans rfl
  have r5 := blk_frozen (blk_put (blk_put h5 0 (.int .i64 W) rfl) 1 (.int .i64 H) rfl) 2
  gi_wp2
  have hX : BR (((X.setCell ⟨w.heap.size + 1, 0, none⟩ (.int .i64 W)).setCell ⟨w.heap.size + 1, 1, none⟩ (.int .i64 H)).setCell ⟨w.heap.size + 1, 2, none⟩ (.slice (some ⟨gd, 0, none⟩) l.length cd)) gd (fillL W (wordBits ws) ps 0 l) := ((h4.far (by show gd ≠ w.heap.size + 1; omega) _).far (by show gd ≠ w.heap.size + 1; omega) _).far (by show gd ≠ w.heap.size + 1; omega) _
  have hXr := blk_put (blk_put (blk_put h5 0 (.int .i64 W) rfl) 1 (.int .i64 H) rfl) 2 (.slice (some ⟨gd, 0, none⟩) l.length cd) rfl
  have hXb : Below w.heap.size w (((X.setCell ⟨w.heap.size + 1, 0, none⟩ (.int .i64 W)).setCell ⟨w.heap.size + 1, 1, none⟩ (.int .i64 H)).setCell ⟨w.heap.size + 1, 2, none⟩ (.slice (some ⟨gd, 0, none⟩) l.length cd)) := (((Bwc.trans (h1.mono Bwc.size)).setCell (by show w.heap.size ≤ w.heap.size + 1; omega) _).setCell (by show w.heap.size ≤ w.heap.size + 1; omega) _).setCell (by show w.heap.size ≤ w.heap.size + 1; omega) _
  have hXk : (((X.setCell ⟨w.heap.size + 1, 0, none⟩ (.int .i64 W)).setCell ⟨w.heap.size + 1, 1, none⟩ (.int .i64 H)).setCell ⟨w.heap.size + 1, 2, none⟩ (.slice (some ⟨gd, 0, none⟩) l.length cd)).heap[D]? = some (.deferred (some [])) := by
   rw [Below.heap_setCell _ _ _ _ (by show D ≠ w.heap.size + 1; omega), Below.heap_setCell _ _ _ _ (by show D ≠ w.heap.size + 1; omega), Below.heap_setCell _ _ _ _ (by show D ≠ w.heap.size + 1; omega)]
   exact hK
  have hln : (fillL W (wordBits ws) ps 0 l).length = l.length := fillL_len _ _ _ _ _
  generalize ((X.setCell ⟨w.heap.size + 1, 0, none⟩ (.int .i64 W)).setCell ⟨w.heap.size + 1, 1, none⟩ (.int .i64 H)).setCell ⟨w.heap.size + 1, 2, none⟩ (.slice (some ⟨gd, 0, none⟩) l.length cd) = X3 at hX hXr hXb hXk ⊢
  refine ⟨by simp, .inl ⟨_, _, rfl, run_takeDeferred hXk, ?_⟩⟩
  have hXp : ∀ o', (X3.putObj D o').heap[w.heap.size + 1]? = some (.cells #[.int .i64 W, .int .i64 H, .slice (some ⟨gd, 0, none⟩) l.length cd] 24 (0, 0)) := fun o' => (World.putObj_heap_other (by omega)).trans hXr
  have hXq : ∀ o', BR (X3.putObj D o') gd (fillL W (wordBits ws) ps 0 l) := fun o' => by
   obtain ⟨cs, q1', q2'⟩ := hX
   exact ⟨cs, (World.putObj_heap_other (by omega)).trans q1', q2'⟩
  have hXo : ∀ o', Below w.heap.size w (X3.putObj D o') := fun o' => hXb.trans (belowK_b (w := w5) (by have := Bwc.size; omega) X3 D _ _ hD hXk rfl rfl)
  refine ⟨_, results_ct rfl _ _ (w.heap.size + 1) 24 _ (0, 0) _ rfl (hXp _) Try.underlying24 rfl (by kernel_rfl), some ⟨gd, 0, none⟩, cd, rfl, hcd9, ?_, hXo _⟩
  have hC : ∀ o', Kd.C Kd.bool (X3.putObj D o') (some ⟨gd, 0, none⟩) l.length (fillL W (wordBits ws) ps 0 l) := fun o' => by
   have h := (hXq o').C (by rw [hln]; omega)
   rwa [hln] at h
  exact hC _
 case stop =>
  rintro D cc pre W _ _ h _
  exact h.elim
end Go.Proofs.Ytbbnagjfjgkgjaa.L
