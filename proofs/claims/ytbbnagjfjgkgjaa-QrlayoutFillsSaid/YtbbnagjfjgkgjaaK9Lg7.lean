/- qrlayout.Fill, walked: where nothing is filled. -/
import Derived.RangeFuncBox
import Derived.Test.YtbbnagjfjgkgjaaK9Lx5
import Derived.Test.YtbbnagjfjgkgjaaK9Lg6
import Derived.RangeFuncNested
import Derived.RangeFuncBound
import Derived.RangeFuncCalls
import Derived.RangeFuncLeaves
import Derived.Shelf.Abstract
import Derived.Shelf.RegionOpen
import Derived.WalkKit
import Derived.OwnWalkIn
import Derived.TacticsInMore
import Derived.LoopNIn
import Derived.LoopIn
import Derived.Test.YtbbnagjfjgkgjaaK9Stm
import Derived.Test.YtbbnagjfjgkgjaaK9Ptm
import Derived.Test.YtbbnagjfjgkgjaaK9Pta
namespace Go.Proofs.Ytbbnagjfjgkgjaa.L
open Go.RowKit Go.Proofs.YtbbnagjfjgkgjaaW.PrintWords Go.Proofs.YtbbnagjfjgkgjaaW.PrintLast Go.Proofs.YtbbnagjfjgkgjaaW.PrintMore
set_option linter.unusedVariables false
set_option linter.unusedSimpArgs false

set_option maxRecDepth 100000 in
set_option maxHeartbeats 8000000 in
theorem fill_no (k : Nat) (W H : Int) (A : Option Addr) (c : Nat) (l : List Bool) (A2 : Option Addr) (c2 : Nat) (ws : List Int) (w : World) (hA : Kd.C Kd.bool w A l.length l) (hc : l.length ≤ c) (v s : Int) (al : List Int) (r : Int) (hr : r ≠ 0) (hs : qrlayout_sized.f k W H l = some (v, s, al, r)) :
  Calls Try.prog 30 #[.agg #[.int .i64 W, .int .i64 H, .slice A l.length c], .slice A2 ws.length c2] w fun e w' => e = .returned (.tuple #[.agg #[.int .i64 0, .int .i64 0, .slice none 0 0], .int .i64 r]) ∧ Below w.heap.size w w' := by
 have hu24 := Try.underlying24
 have hu69 := Try.underlying69
 have hu22 := Try.underlying22
 have hb0 : ∀ o o', Below w.heap.size w ((w.alloc o).alloc o') := fun o o' => ((Below.refl _ w).alloc (Nat.le_refl _) _).alloc (by simp) _
 have hr1 : (r != 0) = true := bne_iff_ne.mpr hr
 go_enter Try.func30, Try.ntmps30
 go_wp2_with (go_at_call 40; refine (qrlayout_sized.calls k W H A c l v s al r _ (Kd.C_below hA (hb0 _ _)) hc hs).mono ?_; rintro e q1 ⟨v1, rfl, hR1, hbq1⟩; have B1 : Below w.heap.size w q1 := (hb0 _ _).trans (hbq1.mono (hb0 _ _).size); obtain ⟨Aal, cal, rfl, hcal, hCal⟩ := Kd.R_reads hR1; have hx0 := blk_below (blk_new (w.alloc (.cells #[.int .i64 W, .int .i64 H, .slice A l.length c] 24)) (.cells #[.int .i64 0, .int .i64 0, .slice none 0 0] 24)) hbq1; rw [World.size_alloc] at hx0; have hx1 := blk_alloc hx0 (.cells #[.int .i64 v, .int .i64 s, .slice Aal al.length cal] 69); have B1' := B1.alloc B1.size (.cells #[.int .i64 v, .int .i64 s, .slice Aal al.length cal] 69); have r0 := (blk_cell hx1 0).trans rfl; have r1 := blk_frozen hx1 0; have r2 := (blk_cell (blk_put hx1 0 (.int .i64 0) rfl) 1).trans rfl; have r3 := blk_frozen (blk_put hx1 0 (.int .i64 0) rfl) 1; have r4 := (blk_cell (blk_put (blk_put hx1 0 (.int .i64 0) rfl) 1 (.int .i64 0) rfl) 2).trans rfl; have r5 := blk_frozen (blk_put (blk_put hx1 0 (.int .i64 0) rfl) 1 (.int .i64 0) rfl) 2)
 refine bodyPost_ret (results_ct rfl _ _ (w.heap.size + 1) 24 _ (0, 0) _ rfl (blk_put (blk_put (blk_put hx1 0 (.int .i64 0) rfl) 1 (.int .i64 0) rfl) 2 (.slice none 0 0) rfl) Try.underlying24 rfl (by kernel_rfl)) rfl ?_
 exact ⟨rfl, ((B1'.setCell (by show w.heap.size ≤ w.heap.size + 1; omega) _).setCell (by show w.heap.size ≤ w.heap.size + 1; omega) _).setCell (by show w.heap.size ≤ w.heap.size + 1; omega) _⟩
set_option maxRecDepth 100000 in
set_option maxHeartbeats 8000000 in
theorem fill_len (k : Nat) (W H : Int) (A : Option Addr) (c : Nat) (l : List Bool) (A2 : Option Addr) (c2 : Nat) (ws : List Int) (w : World) (hA : Kd.C Kd.bool w A l.length l) (hc : l.length ≤ c) (v s : Int) (al : List Int) (hs : qrlayout_sized.f k W H l = some (v, s, al, 0)) (nn rr : Int) (h63 : ∀ w : World, Calls Try.prog 63 #[.int .i64 v] w fun e w' => e = .returned (.tuple #[.int .i64 nn, .int .i64 rr, .int .i64 0]) ∧ Below w.heap.size w w') (hn : (ws.length : Int) ≠ nn) :
  Calls Try.prog 30 #[.agg #[.int .i64 W, .int .i64 H, .slice A l.length c], .slice A2 ws.length c2] w fun e w' => e = .returned (.tuple #[.agg #[.int .i64 0, .int .i64 0, .slice none 0 0], .int .i64 7]) ∧ Below w.heap.size w w' := by
 have hu24 := Try.underlying24
 have hu69 := Try.underlying69
 have hu22 := Try.underlying22
 have hb0 : ∀ o o', Below w.heap.size w ((w.alloc o).alloc o') := fun o o' => ((Below.refl _ w).alloc (Nat.le_refl _) _).alloc (by simp) _
 have hr1 : ((ws.length : Int) != nn) = true := bne_iff_ne.mpr hn
 go_enter Try.func30, Try.ntmps30
 go_wp2_with (first
  | (go_at_call 40; refine (qrlayout_sized.calls k W H A c l v s al 0 _ (Kd.C_below hA (hb0 _ _)) hc hs).mono ?_; rintro e q1 ⟨v1, rfl, hR1, hbq1⟩; have B1 : Below w.heap.size w q1 := (hb0 _ _).trans (hbq1.mono (hb0 _ _).size); obtain ⟨Aal, cal, rfl, hcal, hCal⟩ := Kd.R_reads hR1; have hx0 := blk_below (blk_new (w.alloc (.cells #[.int .i64 W, .int .i64 H, .slice A l.length c] 24)) (.cells #[.int .i64 0, .int .i64 0, .slice none 0 0] 24)) hbq1; rw [World.size_alloc] at hx0; have hx1 := blk_alloc hx0 (.cells #[.int .i64 v, .int .i64 s, .slice Aal al.length cal] 69); have B1' := B1.alloc B1.size (.cells #[.int .i64 v, .int .i64 s, .slice Aal al.length cal] 69))
  | (go_at_call 63; refine (h63 _).mono ?_; rintro e q2 ⟨rfl, hbq2⟩; have hx2 := blk_below hx1 hbq2; have B2 : Below w.heap.size w q2 := B1'.trans (hbq2.mono B1'.size); have r0 := (blk_cell hx2 0).trans rfl; have r1 := blk_frozen hx2 0; have r2 := (blk_cell (blk_put hx2 0 (.int .i64 0) rfl) 1).trans rfl; have r3 := blk_frozen (blk_put hx2 0 (.int .i64 0) rfl) 1; have r4 := (blk_cell (blk_put (blk_put hx2 0 (.int .i64 0) rfl) 1 (.int .i64 0) rfl) 2).trans rfl; have r5 := blk_frozen (blk_put (blk_put hx2 0 (.int .i64 0) rfl) 1 (.int .i64 0) rfl) 2))
 refine bodyPost_ret (results_ct rfl _ _ (w.heap.size + 1) 24 _ (0, 0) _ rfl (blk_put (blk_put (blk_put hx2 0 (.int .i64 0) rfl) 1 (.int .i64 0) rfl) 2 (.slice none 0 0) rfl) Try.underlying24 rfl (by kernel_rfl)) rfl ?_
 exact ⟨rfl, ((B2.setCell (by show w.heap.size ≤ w.heap.size + 1; omega) _).setCell (by show w.heap.size ≤ w.heap.size + 1; omega) _).setCell (by show w.heap.size ≤ w.heap.size + 1; omega) _⟩
set_option maxRecDepth 100000 in
set_option maxHeartbeats 8000000 in
theorem fill_bad (k : Nat) (W H : Int) (A : Option Addr) (c : Nat) (l : List Bool) (A2 : Option Addr) (c2 : Nat) (ws : List Int) (w : World) (hA : Kd.C Kd.bool w A l.length l) (hc : l.length ≤ c) (v s : Int) (al : List Int) (hs : qrlayout_sized.f k W H l = some (v, s, al, 0)) (nn rr : Int) (h63 : ∀ w : World, Calls Try.prog 63 #[.int .i64 v] w fun e w' => e = .returned (.tuple #[.int .i64 nn, .int .i64 rr, .int .i64 0]) ∧ Below w.heap.size w w') (hA2 : Kd.C (Kd.int .i64) w A2 ws.length ws) (hwl : ws.length ≤ 4000) (hn : (ws.length : Int) = nn) (m : Nat) (hm : m < ws.length)
  (hgood : ∀ i, i < m → 0 ≤ rd ws (i : Int) ∧ rd ws (i : Int) / 256 = 0) (hbad : rd ws (m : Int) < 0 ∨ (0 ≤ rd ws (m : Int) ∧ rd ws (m : Int) / 256 ≠ 0)) :
  Calls Try.prog 30 #[.agg #[.int .i64 W, .int .i64 H, .slice A l.length c], .slice A2 ws.length c2] w fun e w' => e = .returned (.tuple #[.agg #[.int .i64 0, .int .i64 0, .slice none 0 0], .int .i64 3]) ∧ Below w.heap.size w w' := by
 have hu24 := Try.underlying24
 have hu69 := Try.underlying69
 have hu22 := Try.underlying22
 have hb0 : ∀ o o', Below w.heap.size w ((w.alloc o).alloc o') := fun o o' => ((Below.refl _ w).alloc (Nat.le_refl _) _).alloc (by simp) _
 have hr1 : ((ws.length : Int) != nn) = false := bne_eq_false_iff_eq.mpr hn
 go_enter Try.func30, Try.ntmps30
 go_wp2_with (first
  | (go_at_call 40; refine (qrlayout_sized.calls k W H A c l v s al 0 _ (Kd.C_below hA (hb0 _ _)) hc hs).mono ?_; rintro e q1 ⟨v1, rfl, hR1, hbq1⟩; have B1 : Below w.heap.size w q1 := (hb0 _ _).trans (hbq1.mono (hb0 _ _).size); obtain ⟨Aal, cal, rfl, hcal, hCal⟩ := Kd.R_reads hR1; have hx0 := blk_below (blk_new (w.alloc (.cells #[.int .i64 W, .int .i64 H, .slice A l.length c] 24)) (.cells #[.int .i64 0, .int .i64 0, .slice none 0 0] 24)) hbq1; rw [World.size_alloc] at hx0; have hx1 := blk_alloc hx0 (.cells #[.int .i64 v, .int .i64 s, .slice Aal al.length cal] 69); have B1' := B1.alloc B1.size (.cells #[.int .i64 v, .int .i64 s, .slice Aal al.length cal] 69))
  | (go_at_call 63; refine (h63 _).mono ?_; rintro e q2 ⟨rfl, hbq2⟩; have hx2 := blk_below hx1 hbq2; have B2 : Below w.heap.size w q2 := B1'.trans (hbq2.mono B1'.size))
  | (go_at_call 64; refine (fromWords8 A2 c2 ws q2 (Kd.C_below hA2 B2) hwl m (Nat.le_of_lt hm) hgood (fun _ => hbad) [] 3 ⟨fun h => absurd h (Nat.ne_of_lt hm), fun _ => ⟨rfl, rfl⟩⟩).mono ?_; rintro e q3 ⟨v3, rfl, hR3, hbq3⟩; obtain ⟨Ab, cb, rfl, hcb, hCb⟩ := Kd.R_reads hR3; have hx3 := blk_alloc (blk_below hx2 hbq3) (.cells #[.slice Ab 0 cb] 22); have B3 : Below w.heap.size w q3 := B2.trans (hbq3.mono B2.size); have B3' := B3.alloc B3.size (.cells #[.slice Ab 0 cb] 22); have r0 := (blk_cell hx3 0).trans rfl; have r1 := blk_frozen hx3 0; have r2 := (blk_cell (blk_put hx3 0 (.int .i64 0) rfl) 1).trans rfl; have r3 := blk_frozen (blk_put hx3 0 (.int .i64 0) rfl) 1; have r4 := (blk_cell (blk_put (blk_put hx3 0 (.int .i64 0) rfl) 1 (.int .i64 0) rfl) 2).trans rfl; have r5 := blk_frozen (blk_put (blk_put hx3 0 (.int .i64 0) rfl) 1 (.int .i64 0) rfl) 2))
 refine bodyPost_ret (results_ct rfl _ _ (w.heap.size + 1) 24 _ (0, 0) _ rfl (blk_put (blk_put (blk_put hx3 0 (.int .i64 0) rfl) 1 (.int .i64 0) rfl) 2 (.slice none 0 0) rfl) Try.underlying24 rfl (by kernel_rfl)) rfl ?_
 exact ⟨rfl, ((B3'.setCell (by show w.heap.size ≤ w.heap.size + 1; omega) _).setCell (by show w.heap.size ≤ w.heap.size + 1; omega) _).setCell (by show w.heap.size ≤ w.heap.size + 1; omega) _⟩
end Go.Proofs.Ytbbnagjfjgkgjaa.L

/- qrlayout.Extract, walked: the range over the path. -/
namespace Go.Proofs.Ytbbnagjfjgkgjaa.L
open Go.RowKit Go.Shelf Go.Proofs.YtbbnagjfjgkgjaaW.PrintWords Go.Proofs.YtbbnagjfjgkgjaaW.PrintLast Go.Proofs.YtbbnagjfjgkgjaaW.PrintMore
attribute [local go_sem] Oper.semAt_some
set_option linter.unusedVariables false
set_option linter.unusedSimpArgs false

def bitsAt (W : Int) (l : List Bool) (ps : List S45) : List Bool := ps.map fun p => rdOf false l (p.f1 * W + p.f0)
def vsB (bs : List Bool) : List Value := bs.map Value.bool
theorem reps_vsB (bs : List Bool) (w : World) (base : Nat) (ok : Nat → Prop) : Reps (Kd.bool.M w base ok) 1 bs (vsB bs) := by
 induction bs with
 | nil => exact Reps.none _ _
 | cons p ps ih => exact Reps.one (show Kd.M Kd.bool _ _ _ p [.bool p] from rfl) ih
theorem R_bits {X : World} {base k : Nat} {u : Value} {W : Int} {l : List Bool} {qs : List S45} (hk : qs.length = k) (hrow : X.ownsRow base 4 1 u k (vsB (bitsAt W l qs))) : Kd.R Kd.bool 4 X base (fun _ => True) u (bitsAt W l qs) := by
 have e : (bitsAt W l qs).length = k := by rw [← hk]; simp [bitsAt]
 rw [← e] at hrow
 exact ⟨fun _ _ => trivial, _, hrow, reps_vsB _ _ _ _⟩
set_option maxRecDepth 100000 in
set_option maxHeartbeats 8000000 in
theorem extract_ok (k : Nat) (W H v s rr : Int) (nn : Nat) (A : Option Addr) (c : Nat) (l : List Bool) (al : List Int) (w : World)
  (hA : Kd.C Kd.bool w A l.length l) (hc : l.length ≤ c) (hl : l.length ≤ 40000)
  (hs : qrlayout_sized.f k W H l = some (v, s, al, 0)) (h63 : ∀ w : World, Calls Try.prog 63 #[.int .i64 v] w fun e w' => e = .returned (.tuple #[.int .i64 (nn : Int), .int .i64 rr, .int .i64 0]) ∧ Below w.heap.size w w')
  (hn0 : 0 < nn) (hn : nn ≤ 5000) (hlo : -2 ≤ wrap64 (s - 1)) (ps : List S45) (hps : ps = dataP k v s al (allL s (wrap64 (s - 1)).toNat (wrap64 (s - 1)) true)) (hall : allK k v s al (allL s (wrap64 (s - 1)).toNat (wrap64 (s - 1)) true))
  (hin : ∀ p ∈ ps, (0 ≤ p.f1 * W ∧ p.f1 * W ≤ 40000) ∧ 0 ≤ p.f1 * W + p.f0 ∧ p.f1 * W + p.f0 < (l.length : Int)) (hpl : ps.length ≤ 100000) (hpn : 8 * nn ≤ ps.length)
  (vf : Nat → Int) (hvf : ∀ x, x < nn → bits_value.f k (((bitsAt W l (ps.take (8 * nn))).drop (8 * x)).take 8) = some (vf x)) :
  CallsIn Fence.wide 9 Try.prog 32 #[.agg #[.int .i64 W, .int .i64 H, .slice A l.length c]] w fun e w' => ∃ u, e = .returned (.tuple #[u, .int .i64 0]) ∧ Kd.R (Kd.int .i64) 3 w' w.heap.size (fun _ => True) u ((List.range nn).map vf) ∧ Below w.heap.size w w' := by
 have hu24 := Try.underlying24
 have hu69 := Try.underlying69
 have hu45 := Try.underlying45
 have hu22 := Try.underlying22
 obtain ⟨i0, hi, hz0, hz1, hz2⟩ := info_parts info4
 have hb0 : ∀ o, Below w.heap.size w (w.alloc o) := fun o => (Below.refl _ w).alloc (Nat.le_refl _) _
 refine callsIn_of_wp_marks Try.func32 rfl trivial ?_ rfl
 simp only [Try.ntmps32, List.size_toArray, List.length_cons, List.length_nil, Nat.reduceAdd, Nat.reduceSub, Array.replicate_succ, Array.replicate_zero, List.push_toArray, List.append_toArray, List.nil_append, List.cons_append]
 gi_wp2
 refine ⟨trivial, (callsIn_wide.2 (qrlayout_sized.calls k W H A c l v s al 0 _ (Kd.C_below hA (hb0 _)) hc hs)).mono ?_⟩
 rintro e q1 ⟨v1, rfl, hR1, hbq1⟩
 have B1 : Below w.heap.size w q1 := (hb0 _).trans (hbq1.mono (hb0 _).size)
 obtain ⟨Aal, cal, rfl, hcal, hCal⟩ := Kd.R_reads hR1
 have hbm := blk_below (blk_new w (.cells #[.int .i64 W, .int .i64 H, .slice A l.length c] 24)) hbq1
 gi_wp2
 refine ⟨trivial, (callsIn_wide.2 (h63 _)).mono ?_⟩
 rintro e q2 ⟨rfl, hbq2⟩
 have hbm2 := blk_below (blk_alloc hbm _) hbq2
 have hfr2 := blk_below (blk_new q1 (.cells #[.int .i64 v, .int .i64 s, .slice Aal al.length cal] 69)) hbq2
 have B2 : Below w.heap.size w q2 := (B1.alloc B1.size _).trans (hbq2.mono (B1.alloc B1.size _).size)
 have hC2 := Kd.C_below (Kd.C_alloc hCal (.cells #[.int .i64 v, .int .i64 s, .slice Aal al.length cal] 69)) hbq2
 have f0 := (blk_cell hfr2 0).trans rfl
 have f1 := (blk_cell hfr2 1).trans rfl
 have f2 := (blk_cell hfr2 2).trans rfl
 have f0' := fun o o' => cell_alloc_p o' (cell_alloc_p o f0)
 have f1' := fun o o' => cell_alloc_p o' (cell_alloc_p o f1)
 have f2' := fun o o' => cell_alloc_p o' (cell_alloc_p o f2)
 gi_wp2
 refine ⟨trivial, (pathF_in _ v s Aal cal al _).mono ?_⟩
 rintro e q5 ⟨rfl, hq5⟩
 -- THE LOOP
 obtain ⟨wc, hwc⟩ : ∃ wc, q2.alloc (.cells #[.int .i64 (nn : Int)] 3) = wc := ⟨_, rfl⟩
 have zc : wc.heap.size = q2.heap.size + 1 := by rw [← hwc]; simp
 have hbmc : wc.heap[w.heap.size]? = some (.cells #[.int .i64 W, .int .i64 H, .slice A l.length c] 24 (0, 0)) := by rw [← hwc]; exact blk_alloc hbm2 _
 have hbnc : wc.heap[q2.heap.size]? = some (.cells #[.int .i64 (nn : Int)] 3 (0, 0)) := by rw [← hwc]; exact blk_new _ _
 have hCac : Kd.C (Kd.int .i64) wc Aal al.length al := by rw [← hwc]; exact Kd.C_alloc hC2 _
 have Bwc : Below w.heap.size w wc := by rw [← hwc]; exact B2.alloc B2.size _
 have hAc : Kd.C Kd.bool wc A l.length l := Kd.C_below hA Bwc
 rw [hwc] at hq5
 obtain ⟨w5, hw5⟩ : ∃ w5, (wc.alloc (.cells #[.slice none 0 0] 22)).alloc (.cells #[.int .i64 v, .int .i64 s, .slice Aal al.length cal] 69) = w5 := ⟨_, rfl⟩
 obtain ⟨bb, hbb⟩ : ∃ bb, q2.heap.size + 1 = bb := ⟨_, rfl⟩
 obtain ⟨bs, hbs⟩ : ∃ bs, bb + 1 = bs := ⟨_, rfl⟩
 have z5 : w5.heap.size = bs + 1 := by rw [← hw5]; simp; omega
 have hbo5 : w5.heap[bb]? = some (.cells #[.slice none 0 0] 22 (0, 0)) := by
  rw [← hw5, ← hbb, ← zc]
  exact blk_alloc (blk_new _ _) _
 have hbs5 : w5.heap[bs]? = some (.cells #[.int .i64 v, .int .i64 s, .slice Aal al.length cal] 69 (0, 0)) := by
  have := blk_new (wc.alloc (.cells #[.slice none 0 0] 22)) (.cells #[.int .i64 v, .int .i64 s, .slice Aal al.length cal] 69)
  rw [World.size_alloc, zc, hbb, hbs, hw5] at this
  exact this
 have B5 : Below wc.heap.size wc w5 := by rw [← hw5]; exact ((Below.refl _ wc).alloc (Nat.le_refl _) _).alloc (by simp) _
 rw [hw5] at hq5
 gi_wp2
 clear hw5 hwc hq5 f0 f1 f2 f0' f1' f2' hR1 hCal hC2 hbm hbm2 hfr2 hbq1 hbq2 hb0
 refine wpIn_rangeFunc_ownH rfl (by omega) (gf := 84) (lb := #[.pointer (some ⟨bs, 0, none⟩)]) rfl trivial (enters_of Try.func84 (by kernel_rfl) rfl)
  (path_stopsB (9 - 1) (by omega) k _ v s Aal cal al hcal hlo ps hps hall wc w5 hCac hbs5 B5) (fun h h' => ⟨h.1.trans h'.1, h'.2.trans h.2⟩)
  (fun X L o o' hL ho hc hw => ⟨(Below.refl _ X).grown (grownBy_putObj' X L o') (by have := (Array.getElem?_eq_some_iff.1 ho).1; omega) (fun k e => by cases e; omega), World.putObj_heap_other (by omega)⟩) (Below.refl _ _) (fun _ => rfl)
  (fun pre X => (∃ u, Boxed X bb 22 u ∧ X.ownsRow w5.heap.size 4 1 u pre.length (vsB (bitsAt W l (pre.map (·.1)))) ∧ True) ∧ (Below wc.heap.size wc X ∧ (w5.heap.size ≤ X.heap.size ∧ pre.length ≤ 8 * nn)))
  (fun cd xs X => cd = .exit 0 ∧ ∃ pre x, xs = pre ++ [x] ∧ pre.length = 8 * nn ∧ (∃ u, Boxed X bb 22 u ∧ X.ownsRow w5.heap.size 4 1 u pre.length (vsB (bitsAt W l (pre.map (·.1)))) ∧ True) ∧ (Below wc.heap.size wc X ∧ w5.heap.size ≤ X.heap.size))
  (OwnFrom.and (Own.from (holdsRow_own w5.heap.size bb 22 4 1 (fun pre => pre.length) (fun pre : List { p : S45 // p ∈ ps } => vsB (bitsAt W l (pre.map (·.1)))) (fun _ _ => True)) _) (OwnFrom.and (ownFrom_below (Nat.le_refl _) (by omega)) (fun pre X Y row hs hg hr => ⟨Nat.le_trans hs.1 hg.size, hs.2⟩)))
  (fun cd xs X Y row hs hg hr => by
   obtain ⟨e1, pre, x, e2, e3, h4, h5, h6⟩ := hs
   exact ⟨e1, pre, x, e2, e3, (Own.from (holdsRow_own w5.heap.size bb 22 4 1 (fun pre => pre.length) (fun pre : List { p : S45 // p ∈ ps } => vsB (bitsAt W l (pre.map (·.1)))) (fun _ _ => True)) w5.heap.size) pre X Y row h4 hg hr, (ownFrom_below (Nat.le_refl _) (by omega) : OwnFrom w5.heap.size (fun (_ : Unit) X => Below wc.heap.size wc X)) () X Y row h5 hg hr, Nat.le_trans h6 hg.size⟩)
  ⟨⟨_, hbo5, World.ownsRow_nil _ _ _ _, trivial⟩, B5, Nat.le_refl _, Nat.zero_le _⟩
  (fun x a' X => ∃ Bx, X.heap[Bx]? = some (.cells #[.int .i64 x.1.f0, .int .i64 x.1.f1] 45 (0, 0)) ∧ a' = { tmps := #[.agg #[.int .i64 W, .int .i64 H, .slice A l.length c], .pointer (some ⟨w.heap.size, 0, none⟩), .slice none 0 0, .int .i64 0, .pointer (some ⟨q1.heap.size, 0, none⟩), .int .i64 0, .pointer (some ⟨q2.heap.size, 0, none⟩), .int .i64 rr, .int .i64 0, .pointer (some ⟨bb, 0, none⟩), .pointer (some ⟨Bx, 0, none⟩), .tuple #[.agg #[.int .i64 v, .int .i64 s, .slice Aal al.length cal], .int .i64 0], .agg #[.int .i64 W, .int .i64 H, .slice A l.length c], .tuple #[.agg #[.int .i64 v, .int .i64 s, .slice Aal al.length cal], .int .i64 0], .agg #[.int .i64 v, .int .i64 s, .slice Aal al.length cal], .int .i64 0, .int .i64 0, .bool false, undef, .tuple #[.int .i64 (nn : Int), .int .i64 rr, .int .i64 0], .pointer (some ⟨q1.heap.size, 0, none⟩), .int .i64 v, .tuple #[.int .i64 (nn : Int), .int .i64 rr, .int .i64 0], .int .i64 (nn : Int), .int .i64 rr, .int .i64 0, .agg #[.int .i64 v, .int .i64 s, .slice Aal al.length cal], .func (.func 84) #[] #[.pointer (some ⟨bs, 0, none⟩)], encP x.1, undef, undef, undef, undef, undef, undef, undef, undef, undef, undef, undef, undef, undef, undef, undef, undef, undef, undef, undef, undef, undef, undef, undef, undef], defers := [] })
  (fun x a' _ X Y row hs hg hr => by
   obtain ⟨Bx, e2, e3⟩ := hs
   refine ⟨Bx, ?_, e3⟩
   rw [hg.block Bx (Array.getElem?_eq_some_iff.1 e2).1 (fun e => by obtain ⟨o, ho, hc⟩ := (hr Bx e.symm).2; rw [e2] at ho; cases ho; cases hc)]
   exact e2)
  ?assign ?body ?done ?stop
 case assign =>
  rintro lp pre x X K ⟨⟨u, hu, hrow, _⟩, h1, h6, h7⟩ hK
  dsimp only [encP]
  gi_wp2
  exact hK _ _ ((KeepsOthers.alloc _ _).from _) ⟨(Below.refl _ X).alloc h1.size _, Below.heap_alloc X _ _ (by omega)⟩ ⟨⟨u, hu.alloc _, hrow.alloc _, trivial⟩, h1.alloc h1.size _, by simp; omega, h7⟩ ⟨X.heap.size, World.alloc_heap_new X _, rfl⟩
 case body =>
  rintro lp pre x a' X hlp ⟨r, hr⟩ ⟨⟨u, hu, hrow, _⟩, h1, h6, h7⟩ ⟨Bx, bX, rfl⟩ hlt
  obtain ⟨⟨hp0, hp1⟩, hJ0, hJ1⟩ := hin x.1 x.2
  obtain ⟨⟨px, py⟩, hpm⟩ := x
  simp only at hp0 hp1 hJ0 hJ1 bX
  obtain ⟨Q, hQ⟩ : ∃ Q, py * W = Q := ⟨_, rfl⟩
  rw [hQ] at hp0 hp1 hJ0 hJ1
  obtain ⟨J, hJ⟩ : ∃ J, Q + px = J := ⟨_, rfl⟩
  rw [hJ] at hJ0 hJ1
  have w1 : wrap64 Q = Q := by clear hQ; unfold wrap64; omega
  have w2 : wrap64 J = J := by clear hQ; unfold wrap64; omega
  have w3 : wrap64 (8 * (nn : Int)) = 8 * (nn : Int) := by clear hQ; unfold wrap64; omega
  have w4 := (i64_w (8 * (nn : Int))).trans w3
  have w5' := (i64_w Q).trans w1
  have w6 := (i64_w J).trans w2
  have hbmX := blk_below hbmc h1
  have hbnX := blk_below hbnc h1
  have hAX := Kd.C_below hAc h1
  obtain ⟨ad, eA, b0⟩ := Kd.at_bool hAX J hJ0 hJ1
  have e1 := (blk_cell bX 1).trans rfl
  have e2 := (blk_cell bX 0).trans rfl
  have e3 := (blk_cell hbmX 0).trans rfl
  have e3' := (blk_cell hbmX 2).trans rfl
  have e4 := (blk_cell hbnX 0).trans rfl
  have e5 := hu.cell
  obtain ⟨Ar, cr, hur⟩ : ∃ Ar cr, u = .slice Ar pre.length cr := by
   obtain ⟨Ar, cr, e⟩ := Kd.R_slice (R_bits (by simp) hrow)
   exact ⟨Ar, cr, by rw [e]; simp [bitsAt]⟩
  subst hur
  replace hJ0 := eq_true hJ0
  replace hJ1 := eq_true hJ1
  cases eA
  dsimp only [encP]
  by_cases hlen : pre.length = 8 * nn
  ·have hb1 : ((pre.length : Int) == 8 * (nn : Int)) = true := beq_iff_eq.mpr (by omega)
   clear hpl hpn hlt h7 hl hn
   gi_wp2
   exact ⟨(KeepsOthers.refl _).from _, rfl, pre, _, rfl, hlen, ⟨_, hu, hrow, trivial⟩, h1, h6⟩
  ·have hb1 : ((pre.length : Int) == 8 * (nn : Int)) = false := beq_eq_false_iff_ne.mpr (by omega)
   have hlt8 : pre.length + 1 ≤ 8 * nn := by omega
   have hcap : pre.length + 1 ≤ 100000 := by omega
   obtain ⟨bv, hbv⟩ : ∃ bv, rdOf false l J = bv := ⟨_, rfl⟩
   rw [hbv] at b0
   have hbit : bitsAt W l ((pre ++ [(⟨⟨px, py⟩, hpm⟩ : { p : S45 // p ∈ ps })]).map (·.1)) = bitsAt W l (pre.map (·.1)) ++ [bv] := by
    simp only [bitsAt, List.map_append, List.map_cons, List.map_nil, hQ, hJ, hbv]
   clear hpl hpn hlt h7 hl hn hlen
   have hrowd : X.drew.ownsRow w5.heap.size 4 1 (.slice Ar pre.length cr) pre.length (vsB (bitsAt W l (pre.map (·.1)))) := hrow
   have hud : Boxed X.drew bb 22 (.slice Ar pre.length cr) := hu
   have h6d : w5.heap.size ≤ X.drew.heap.size := h6
   gi_wp2
   refine wpIn_region_apart 13 (by kernel_rfl) (by kernel_rfl) (by kernel_rfl) (fun w' => Boxed w' bb 22 (.slice Ar pre.length cr)) (.slice Ar pre.length cr) _ _ rfl rfl hud ⟨rfl, fun w' hw => by have hcw := hw.cell; go_simp⟩ (fun _ _ _ h => h) ?_
   simp only [List.take_succ_cons, List.take_zero, List.drop_succ_cons, List.drop_zero]
   repeat still_step
   try refine wpStill_nil ?_
   refine wpOpIn_step rfl (fun K hK => ?_)
   go_simp
   refine hK _ _ ⟨hud.alloc _, ?_⟩
   clear hK K
   gi_wp2_with (gi_at_builtin; refine wpListIn_append_own _ rfl _ _ 22 rfl w5.heap.size 4 i0 (.bool false) 1 1 hu22 hi hz0 hz1 hz2 rfl (by decide) _ _ _ rfl (hrowd.alloc _) ⟨X.heap.size, 0, none⟩ 1 1 [.bool bv] rfl rfl (cell_one_new X.drew _ _) (by simp [Value.oneCell']) (by simp [maxLen]; omega) (by omega) (by simp; omega) ?_; intro v' w1' hown' hgrow _; obtain ⟨g', cap', rfl⟩ := ownsRow_succ hown'; obtain ⟨hv1, hv2, hr2, hk2, hb2', hlow, hsz⟩ := app5 (n₁ := wc.heap.size) hud (by decide) hrowd h6d (by omega) (by omega) hown' hgrow; have hc1 := hv1.cell; have hf1 := hv1.frozen)
   exact ⟨((KeepsOthers.drew X).trans hk2).from _, ⟨(below_drew1 (Below.refl _ X)).trans hb2', hlow bs (by omega) (by omega)⟩, ⟨_, hv2, by rw [hbit]; simpa [vsB] using hr2, trivial⟩, (below_drew1 h1).trans hb2', Nat.le_trans h6d hsz, by simp; omega⟩
 case done =>
  rintro D ys X hD hys ⟨⟨u, hu, hrow, _⟩, h1, h6, h7⟩ hK
  have cu := hu.cell
  have hyt : ys.map (·.1) = ps.take (8 * nn) := by
   rw [hys, List.take_of_length_le]
   have := congrArg List.length hys
   simp at this
   omega
  have hyl : ys.length = 8 * nn := by
   have := congrArg List.length hyt
   simp at this
   omega
  rw [hyt, hyl] at hrow
  have hbl : (bitsAt W l (ps.take (8 * nn))).length = 8 * nn := by simp [bitsAt]; omega
  have hRb := R_bits (X := X) (base := w5.heap.size) (u := u) (W := W) (l := l) (qs := ps.take (8 * nn)) (k := 8 * nn) (by simp; omega) hrow
  obtain ⟨gB, cB, hub, _, _, _⟩ := Kd.R_form hRb (by omega)
  have hcB : (bitsAt W l (ps.take (8 * nn))).length ≤ cB ∧ Kd.C Kd.bool X (some ⟨gB, 0, none⟩) (bitsAt W l (ps.take (8 * nn))).length (bitsAt W l (ps.take (8 * nn))) := by
   obtain ⟨A9, c9, e9, hc9, hC9⟩ := Kd.R_reads hRb
   rw [hub] at e9
   cases e9
   exact ⟨hc9, hC9⟩
  rw [hbl] at hub hcB
  subst hub
  clear hRb hrow hpl hpn
  gi_wp2
  refine ⟨trivial, (words_in k ⟨gB, 0, none⟩ nn (8 * nn) cB (bitsAt W l (ps.take (8 * nn))) hn ⟨rfl⟩ hcB.1 X hcB.2 vf hvf).mono ?_⟩
  rintro e X2 ⟨u2, rfl, hR2, hb2⟩
  have hK2 := blk_below hK hb2
  gi_wp2
  refine ⟨by simp, .inl ⟨_, _, rfl, run_takeDeferred hK2, ?_⟩⟩
  have hX2 : Below w.heap.size w X2 := Bwc.trans (h1.mono Bwc.size) |>.trans (hb2.mono (by have := Bwc.size; have := h1.size; omega))
  have hRf : ∀ o', Kd.R (Kd.int .i64) 3 (X2.putObj D o') w.heap.size (fun _ => True) u2 ((List.range nn).map vf) := fun o' => by
   obtain ⟨g0, inner, hown, hr⟩ := Kd.R_lower (base' := w.heap.size) hR2 (by have := Bwc.size; have := h1.size; omega)
   exact ⟨g0, inner, ownsRow_putObj hown o' hK2 rfl, hr⟩
  exact ⟨_, results_tmp2 rfl _ _ _, u2, rfl, hRf _, hX2.trans (belowK_b (w := w5) (by have := Bwc.size; have := B5.size; omega) X2 D _ _ hD hK2 rfl rfl)⟩
 case stop =>
  rintro D cc xs X hD hpre ⟨rfl, pre, x, rfl, hlen, ⟨u, hu, hrow, _⟩, h1, h6⟩ hK
  have cu := hu.cell
  have hyt : pre.map (·.1) = ps.take (8 * nn) := by
   rw [List.map_append] at hpre
   have := List.prefix_iff_eq_take.1 ((List.prefix_append _ _).trans hpre)
   rw [this, List.length_map, hlen]
  rw [hyt, hlen] at hrow
  have hbl : (bitsAt W l (ps.take (8 * nn))).length = 8 * nn := by simp [bitsAt]; omega
  have hRb := R_bits (X := X) (base := w5.heap.size) (u := u) (W := W) (l := l) (qs := ps.take (8 * nn)) (k := 8 * nn) (by simp; omega) hrow
  obtain ⟨gB, cB, hub, _, _, _⟩ := Kd.R_form hRb (by omega)
  have hcB : (bitsAt W l (ps.take (8 * nn))).length ≤ cB ∧ Kd.C Kd.bool X (some ⟨gB, 0, none⟩) (bitsAt W l (ps.take (8 * nn))).length (bitsAt W l (ps.take (8 * nn))) := by
   obtain ⟨A9, c9, e9, hc9, hC9⟩ := Kd.R_reads hRb
   rw [hub] at e9
   cases e9
   exact ⟨hc9, hC9⟩
  rw [hbl] at hub hcB
  subst hub
  clear hRb hrow hpl hpn
  gi_wp2
  refine ⟨trivial, (words_in k ⟨gB, 0, none⟩ nn (8 * nn) cB (bitsAt W l (ps.take (8 * nn))) hn ⟨rfl⟩ hcB.1 X hcB.2 vf hvf).mono ?_⟩
  rintro e X2 ⟨u2, rfl, hR2, hb2⟩
  have hK2 := blk_below hK hb2
  gi_wp2
  refine ⟨by simp, .inl ⟨_, _, rfl, run_takeDeferred hK2, ?_⟩⟩
  have hX2 : Below w.heap.size w X2 := Bwc.trans (h1.mono Bwc.size) |>.trans (hb2.mono (by have := Bwc.size; have := h1.size; omega))
  have hRf : ∀ o', Kd.R (Kd.int .i64) 3 (X2.putObj D o') w.heap.size (fun _ => True) u2 ((List.range nn).map vf) := fun o' => by
   obtain ⟨g0, inner, hown, hr⟩ := Kd.R_lower (base' := w.heap.size) hR2 (by have := Bwc.size; have := h1.size; omega)
   exact ⟨g0, inner, ownsRow_putObj hown o' hK2 rfl, hr⟩
  exact ⟨_, results_tmp2 rfl _ _ _, u2, rfl, hRf _, hX2.trans (belowK_b (w := w5) (by have := Bwc.size; have := B5.size; omega) X2 D _ _ hD hK2 rfl rfl)⟩
end Go.Proofs.Ytbbnagjfjgkgjaa.L

/- qrlayout.Extract, walked: where nothing is extracted. -/
namespace Go.Proofs.Ytbbnagjfjgkgjaa.L
open Go.RowKit Go.Proofs.YtbbnagjfjgkgjaaW.PrintWords Go.Proofs.YtbbnagjfjgkgjaaW.PrintLast Go.Proofs.YtbbnagjfjgkgjaaW.PrintMore
set_option linter.unusedVariables false
set_option linter.unusedSimpArgs false
set_option maxRecDepth 100000 in
set_option maxHeartbeats 8000000 in
theorem extract_no (k : Nat) (W H : Int) (A : Option Addr) (c : Nat) (l : List Bool) (w : World) (hA : Kd.C Kd.bool w A l.length l) (hc : l.length ≤ c) (v s : Int) (al : List Int) (r : Int) (hr : r ≠ 0) (hs : qrlayout_sized.f k W H l = some (v, s, al, r)) :
  Calls Try.prog 32 #[.agg #[.int .i64 W, .int .i64 H, .slice A l.length c]] w fun e w' => e = .returned (.tuple #[.slice none 0 0, .int .i64 r]) ∧ Below w.heap.size w w' := by
 have hu24 := Try.underlying24
 have hu69 := Try.underlying69
 have hb0 : ∀ o, Below w.heap.size w (w.alloc o) := fun o => (Below.refl _ w).alloc (Nat.le_refl _) _
 have hr1 : (r != 0) = true := bne_iff_ne.mpr hr
 go_enter Try.func32, Try.ntmps32
 go_wp2_with (go_at_call 40; refine (qrlayout_sized.calls k W H A c l v s al r _ (Kd.C_below hA (hb0 _)) hc hs).mono ?_; rintro e q1 ⟨v1, rfl, hR1, hbq1⟩; have B1 : Below w.heap.size w q1 := (hb0 _).trans (hbq1.mono (hb0 _).size); obtain ⟨Aal, cal, rfl, hcal, hCal⟩ := Kd.R_reads hR1)
 go_ret2
 exact ⟨rfl, B1.alloc B1.size _⟩
end Go.Proofs.Ytbbnagjfjgkgjaa.L
