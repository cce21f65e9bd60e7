/- qrlayout.Fill, walked: where nothing is filled. -/
import Derived.RangeFuncBox
import Derived.Test.YtbbnagjfjgkgjaaKALx5
import Derived.Test.YtbbnagjfjgkgjaaKALg6
import Derived.RangeFuncNested
import Derived.RangeFuncBound
import Derived.RangeFuncCalls
import Derived.RangeFuncLeaves
import Derived.Shelf.Abstract
import Derived.Shelf.RegionOpen
import Derived.WalkKit
import Derived.OwnWalkIn
import Derived.TacticsInMore
import Derived.LoopNIn
import Derived.LoopIn
import Derived.Test.YtbbnagjfjgkgjaaKAStm
import Derived.Test.YtbbnagjfjgkgjaaKAPtm
import Derived.Test.YtbbnagjfjgkgjaaKAPta
import Derived.Test.YtbbnagjfjgkgjaaKALx16
import Derived.Test.YtbbnagjfjgkgjaaKALf1
import Derived.Test.YtbbnagjfjgkgjaaKAAlv
import Derived.Deep.Cut
import Derived.Test.YtbbnagjfjgkgjaaKALx6
import Derived.Test.YtbbnagjfjgkgjaaKALx9
import Derived.Test.YtbbnagjfjgkgjaaKALx12
namespace Go.Proofs.Ytbbnagjfjgkgjaa.L
open Go.RowKit Go.Proofs.YtbbnagjfjgkgjaaW.PrintWords Go.Proofs.YtbbnagjfjgkgjaaW.PrintLast Go.Proofs.YtbbnagjfjgkgjaaW.PrintMore
set_option linter.unusedVariables false
set_option linter.unusedSimpArgs false

set_option maxRecDepth 100000 in
set_option maxHeartbeats 8000000 in
theorem fill_no (k : Nat) (W H : Int) (A : Option Addr) (c : Nat) (l : List Bool) (A2 : Option Addr) (c2 : Nat) (ws : List Int) (w : World) (hA : Kd.C Kd.bool w A l.length l) (hc : l.length ≤ c) (v s : Int) (al : List Int) (r : Int) (hr : r ≠ 0) (hs : qrlayout_sized.f k W H l = some (v, s, al, r)) :
  Calls Try.prog 30 #[.agg #[.int .i64 W, .int .i64 H, .slice A l.length c], .slice A2 ws.length c2] w fun e w' => e = .returned (.tuple #[.agg #[.int .i64 0, .int .i64 0, .slice none 0 0], .int .i64 r]) ∧ Below w.heap.size w w' := by
 have hu24 := Try.underlying24
 have hu69 := Try.underlying69
 have hu22 := Try.underlying22
 have hb0 : ∀ o o', Below w.heap.size w ((w.alloc o).alloc o') := fun o o' => ((Below.refl _ w).alloc (Nat.le_refl _) _).alloc (by simp) _
 have hr1 : (r != 0) = true := bne_iff_ne.mpr hr
 go_enter Try.func30, Try.ntmps30
 go_wp2_with (go_at_call 40; refine (qrlayout_sized.calls k W H A c l v s al r _ (Kd.C_below hA (hb0 _ _)) hc hs).mono ?_; rintro e q1 ⟨v1, rfl, hR1, hbq1⟩; have B1 : Below w.heap.size w q1 := (hb0 _ _).trans (hbq1.mono (hb0 _ _).size); obtain ⟨Aal, cal, rfl, hcal, hCal⟩ := Kd.R_reads hR1; have hx0 := blk_below (blk_new (w.alloc (.cells #[.int .i64 W, .int .i64 H, .slice A l.length c] 24)) (.cells #[.int .i64 0, .int .i64 0, .slice none 0 0] 24)) hbq1; rw [World.size_alloc] at hx0; have hx1 := blk_alloc hx0 (.cells #[.int .i64 v, .int .i64 s, .slice Aal al.length cal] 69); have B1' := B1.alloc B1.size (.cells #[.int .i64 v, .int .i64 s, .slice Aal al.length cal] 69); have r0 := (blk_cell hx1 0).trans rfl; have r1 := blk_frozen hx1 0; have r2 := (blk_cell (blk_put hx1 0 (.int .i64 0) rfl) 1).trans rfl; have r3 := blk_frozen (blk_put hx1 0 (.int .i64 0) rfl) 1; have r4 := (blk_cell (blk_put (blk_put hx1 0 (.int .i64 0) rfl) 1 (.int .i64 0) rfl) 2).trans rfl; have r5 := blk_frozen (blk_put (blk_put hx1 0 (.int .i64 0) rfl) 1 (.int .i64 0) rfl) 2)
 refine bodyPost_ret (results_ct rfl _ _ (w.heap.size + 1) 24 _ (0, 0) _ rfl (blk_put (blk_put (blk_put hx1 0 (.int .i64 0) rfl) 1 (.int .i64 0) rfl) 2 (.slice none 0 0) rfl) Try.underlying24 rfl (by kernel_rfl)) rfl ?_
 exact ⟨rfl, ((B1'.setCell (by show w.heap.size ≤ w.heap.size + 1; omega) _).setCell (by show w.heap.size ≤ w.heap.size + 1; omega) _).setCell (by show w.heap.size ≤ w.heap.size + 1; omega) _⟩
set_option maxRecDepth 100000 in
set_option maxHeartbeats 8000000 in
theorem fill_len (k : Nat) (W H : Int) (A : Option Addr) (c : Nat) (l : List Bool) (A2 : Option Addr) (c2 : Nat) (ws : List Int) (w : World) (hA : Kd.C Kd.bool w A l.length l) (hc : l.length ≤ c) (v s : Int) (al : List Int) (hs : qrlayout_sized.f k W H l = some (v, s, al, 0)) (nn rr : Int) (h63 : ∀ w : World, Calls Try.prog 63 #[.int .i64 v] w fun e w' => e = .returned (.tuple #[.int .i64 nn, .int .i64 rr, .int .i64 0]) ∧ Below w.heap.size w w') (hn : (ws.length : Int) ≠ nn) :
  Calls Try.prog 30 #[.agg #[.int .i64 W, .int .i64 H, .slice A l.length c], .slice A2 ws.length c2] w fun e w' => e = .returned (.tuple #[.agg #[.int .i64 0, .int .i64 0, .slice none 0 0], .int .i64 7]) ∧ Below w.heap.size w w' := by
 have hu24 := Try.underlying24
 have hu69 := Try.underlying69
 have hu22 := Try.underlying22
 have hb0 : ∀ o o', Below w.heap.size w ((w.alloc o).alloc o') := fun o o' => ((Below.refl _ w).alloc (Nat.le_refl _) _).alloc (by simp) _
 have hr1 : ((ws.length : Int) != nn) = true := bne_iff_ne.mpr hn
 go_enter Try.func30, Try.ntmps30
 go_wp2_with (first
  | (go_at_call 40; refine (qrlayout_sized.calls k W H A c l v s al 0 _ (Kd.C_below hA (hb0 _ _)) hc hs).mono ?_; rintro e q1 ⟨v1, rfl, hR1, hbq1⟩; have B1 : Below w.heap.size w q1 := (hb0 _ _).trans (hbq1.mono (hb0 _ _).size); obtain ⟨Aal, cal, rfl, hcal, hCal⟩ := Kd.R_reads hR1; have hx0 := blk_below (blk_new (w.alloc (.cells #[.int .i64 W, .int .i64 H, .slice A l.length c] 24)) (.cells #[.int .i64 0, .int .i64 0, .slice none 0 0] 24)) hbq1; rw [World.size_alloc] at hx0; have hx1 := blk_alloc hx0 (.cells #[.int .i64 v, .int .i64 s, .slice Aal al.length cal] 69); have B1' := B1.alloc B1.size (.cells #[.int .i64 v, .int .i64 s, .slice Aal al.length cal] 69))
  | (go_at_call 63; refine (h63 _).mono ?_; rintro e q2 ⟨rfl, hbq2⟩; have hx2 := blk_below hx1 hbq2; have B2 : Below w.heap.size w q2 := B1'.trans (hbq2.mono B1'.size); have r0 := (blk_cell hx2 0).trans rfl; have r1 := blk_frozen hx2 0; have r2 := (blk_cell (blk_put hx2 0 (.int .i64 0) rfl) 1).trans rfl; have r3 := blk_frozen (blk_put hx2 0 (.int .i64 0) rfl) 1; have r4 := (blk_cell (blk_put (blk_put hx2 0 (.int .i64 0) rfl) 1 (.int .i64 0) rfl) 2).trans rfl; have r5 := blk_frozen (blk_put (blk_put hx2 0 (.int .i64 0) rfl) 1 (.int .i64 0) rfl) 2))
 refine bodyPost_ret (results_ct rfl _ _ (w.heap.size + 1) 24 _ (0, 0) _ rfl (blk_put (blk_put (blk_put hx2 0 (.int .i64 0) rfl) 1 (.int .i64 0) rfl) 2 (.slice none 0 0) rfl) Try.underlying24 rfl (by kernel_rfl)) rfl ?_
 exact ⟨rfl, ((B2.setCell (by show w.heap.size ≤ w.heap.size + 1; omega) _).setCell (by show w.heap.size ≤ w.heap.size + 1; omega) _).setCell (by show w.heap.size ≤ w.heap.size + 1; omega) _⟩
set_option maxRecDepth 100000 in
set_option maxHeartbeats 8000000 in
theorem fill_bad (k : Nat) (W H : Int) (A : Option Addr) (c : Nat) (l : List Bool) (A2 : Option Addr) (c2 : Nat) (ws : List Int) (w : World) (hA : Kd.C Kd.bool w A l.length l) (hc : l.length ≤ c) (v s : Int) (al : List Int) (hs : qrlayout_sized.f k W H l = some (v, s, al, 0)) (nn rr : Int) (h63 : ∀ w : World, Calls Try.prog 63 #[.int .i64 v] w fun e w' => e = .returned (.tuple #[.int .i64 nn, .int .i64 rr, .int .i64 0]) ∧ Below w.heap.size w w') (hA2 : Kd.C (Kd.int .i64) w A2 ws.length ws) (hwl : ws.length ≤ 4000) (hn : (ws.length : Int) = nn) (m : Nat) (hm : m < ws.length)
  (hgood : ∀ i, i < m → 0 ≤ rd ws (i : Int) ∧ rd ws (i : Int) / 256 = 0) (hbad : rd ws (m : Int) < 0 ∨ (0 ≤ rd ws (m : Int) ∧ rd ws (m : Int) / 256 ≠ 0)) :
  Calls Try.prog 30 #[.agg #[.int .i64 W, .int .i64 H, .slice A l.length c], .slice A2 ws.length c2] w fun e w' => e = .returned (.tuple #[.agg #[.int .i64 0, .int .i64 0, .slice none 0 0], .int .i64 3]) ∧ Below w.heap.size w w' := by
 have hu24 := Try.underlying24
 have hu69 := Try.underlying69
 have hu22 := Try.underlying22
 have hb0 : ∀ o o', Below w.heap.size w ((w.alloc o).alloc o') := fun o o' => ((Below.refl _ w).alloc (Nat.le_refl _) _).alloc (by simp) _
 have hr1 : ((ws.length : Int) != nn) = false := bne_eq_false_iff_eq.mpr hn
 go_enter Try.func30, Try.ntmps30
 go_wp2_with (first
  | (go_at_call 40; refine (qrlayout_sized.calls k W H A c l v s al 0 _ (Kd.C_below hA (hb0 _ _)) hc hs).mono ?_; rintro e q1 ⟨v1, rfl, hR1, hbq1⟩; have B1 : Below w.heap.size w q1 := (hb0 _ _).trans (hbq1.mono (hb0 _ _).size); obtain ⟨Aal, cal, rfl, hcal, hCal⟩ := Kd.R_reads hR1; have hx0 := blk_below (blk_new (w.alloc (.cells #[.int .i64 W, .int .i64 H, .slice A l.length c] 24)) (.cells #[.int .i64 0, .int .i64 0, .slice none 0 0] 24)) hbq1; rw [World.size_alloc] at hx0; have hx1 := blk_alloc hx0 (.cells #[.int .i64 v, .int .i64 s, .slice Aal al.length cal] 69); have B1' := B1.alloc B1.size (.cells #[.int .i64 v, .int .i64 s, .slice Aal al.length cal] 69))
  | (go_at_call 63; refine (h63 _).mono ?_; rintro e q2 ⟨rfl, hbq2⟩; have hx2 := blk_below hx1 hbq2; have B2 : Below w.heap.size w q2 := B1'.trans (hbq2.mono B1'.size))
  | (go_at_call 64; refine (fromWords8 A2 c2 ws q2 (Kd.C_below hA2 B2) hwl m (Nat.le_of_lt hm) hgood (fun _ => hbad) [] 3 ⟨fun h => absurd h (Nat.ne_of_lt hm), fun _ => ⟨rfl, rfl⟩⟩).mono ?_; rintro e q3 ⟨v3, rfl, hR3, hbq3⟩; obtain ⟨Ab, cb, rfl, hcb, hCb⟩ := Kd.R_reads hR3; have hx3 := blk_alloc (blk_below hx2 hbq3) (.cells #[.slice Ab 0 cb] 22); have B3 : Below w.heap.size w q3 := B2.trans (hbq3.mono B2.size); have B3' := B3.alloc B3.size (.cells #[.slice Ab 0 cb] 22); have r0 := (blk_cell hx3 0).trans rfl; have r1 := blk_frozen hx3 0; have r2 := (blk_cell (blk_put hx3 0 (.int .i64 0) rfl) 1).trans rfl; have r3 := blk_frozen (blk_put hx3 0 (.int .i64 0) rfl) 1; have r4 := (blk_cell (blk_put (blk_put hx3 0 (.int .i64 0) rfl) 1 (.int .i64 0) rfl) 2).trans rfl; have r5 := blk_frozen (blk_put (blk_put hx3 0 (.int .i64 0) rfl) 1 (.int .i64 0) rfl) 2))
 refine bodyPost_ret (results_ct rfl _ _ (w.heap.size + 1) 24 _ (0, 0) _ rfl (blk_put (blk_put (blk_put hx3 0 (.int .i64 0) rfl) 1 (.int .i64 0) rfl) 2 (.slice none 0 0) rfl) Try.underlying24 rfl (by kernel_rfl)) rfl ?_
 exact ⟨rfl, ((B3'.setCell (by show w.heap.size ≤ w.heap.size + 1; omega) _).setCell (by show w.heap.size ≤ w.heap.size + 1; omega) _).setCell (by show w.heap.size ≤ w.heap.size + 1; omega) _⟩
end Go.Proofs.Ytbbnagjfjgkgjaa.L

/- qrlayout.Extract, walked: the range over the path. -/
namespace Go.Proofs.Ytbbnagjfjgkgjaa.L
open Go.RowKit Go.Shelf Go.Proofs.YtbbnagjfjgkgjaaW.PrintWords Go.Proofs.YtbbnagjfjgkgjaaW.PrintLast Go.Proofs.YtbbnagjfjgkgjaaW.PrintMore
attribute [local go_sem] Oper.semAt_some
set_option linter.unusedVariables false
set_option linter.unusedSimpArgs false

def bitsAt (W : Int) (l : List Bool) (ps : List S45) : List Bool := ps.map fun p => rdOf false l (p.f1 * W + p.f0)
def vsB (bs : List Bool) : List Value := bs.map Value.bool
theorem reps_vsB (bs : List Bool) (w : World) (base : Nat) (ok : Nat → Prop) : Reps (Kd.bool.M w base ok) 1 bs (vsB bs) := by
 induction bs with
 | nil => exact Reps.none _ _
 | cons p ps ih => exact Reps.one (show Kd.M Kd.bool _ _ _ p [.bool p] from rfl) ih
theorem R_bits {X : World} {base k : Nat} {u : Value} {W : Int} {l : List Bool} {qs : List S45} (hk : qs.length = k) (hrow : X.ownsRow base 4 1 u k (vsB (bitsAt W l qs))) : Kd.R Kd.bool 4 X base (fun _ => True) u (bitsAt W l qs) := by
 have e : (bitsAt W l qs).length = k := by rw [← hk]; simp [bitsAt]
 rw [← e] at hrow
 exact ⟨fun _ _ => trivial, _, hrow, reps_vsB _ _ _ _⟩
set_option maxRecDepth 100000 in
set_option maxHeartbeats 8000000 in
theorem extract_ok (k : Nat) (W H v s rr : Int) (nn : Nat) (A : Option Addr) (c : Nat) (l : List Bool) (al : List Int) (w : World)
  (hA : Kd.C Kd.bool w A l.length l) (hc : l.length ≤ c) (hl : l.length ≤ 40000)
  (hs : qrlayout_sized.f k W H l = some (v, s, al, 0)) (h63 : ∀ w : World, Calls Try.prog 63 #[.int .i64 v] w fun e w' => e = .returned (.tuple #[.int .i64 (nn : Int), .int .i64 rr, .int .i64 0]) ∧ Below w.heap.size w w')
  (hn0 : 0 < nn) (hn : nn ≤ 5000) (hlo : -2 ≤ wrap64 (s - 1)) (ps : List S45) (hps : ps = dataP k v s al (allL s (wrap64 (s - 1)).toNat (wrap64 (s - 1)) true)) (hall : allK k v s al (allL s (wrap64 (s - 1)).toNat (wrap64 (s - 1)) true))
  (hin : ∀ p ∈ ps, (0 ≤ p.f1 * W ∧ p.f1 * W ≤ 40000) ∧ 0 ≤ p.f1 * W + p.f0 ∧ p.f1 * W + p.f0 < (l.length : Int)) (hpl : ps.length ≤ 100000) (hpn : 8 * nn ≤ ps.length)
  (vf : Nat → Int) (hvf : ∀ x, x < nn → bits_value.f k (((bitsAt W l (ps.take (8 * nn))).drop (8 * x)).take 8) = some (vf x)) :
  CallsIn Fence.wide 9 Try.prog 32 #[.agg #[.int .i64 W, .int .i64 H, .slice A l.length c]] w fun e w' => ∃ u, e = .returned (.tuple #[u, .int .i64 0]) ∧ Kd.R (Kd.int .i64) 3 w' w.heap.size (fun _ => True) u ((List.range nn).map vf) ∧ Below w.heap.size w w' := by
 have hu24 := Try.underlying24
 have hu69 := Try.underlying69
 have hu45 := Try.underlying45
 have hu22 := Try.underlying22
 obtain ⟨i0, hi, hz0, hz1, hz2⟩ := info_parts info4
 have hb0 : ∀ o, Below w.heap.size w (w.alloc o) := fun o => (Below.refl _ w).alloc (Nat.le_refl _) _
 refine callsIn_of_wp_marks Try.func32 rfl trivial ?_ rfl
 simp only [Try.ntmps32, List.size_toArray, List.length_cons, List.length_nil, Nat.reduceAdd, Nat.reduceSub, Array.replicate_succ, Array.replicate_zero, List.push_toArray, List.append_toArray, List.nil_append, List.cons_append]
 gi_wp2
 refine ⟨trivial, (callsIn_wide.2 (qrlayout_sized.calls k W H A c l v s al 0 _ (Kd.C_below hA (hb0 _)) hc hs)).mono ?_⟩
 rintro e q1 ⟨v1, rfl, hR1, hbq1⟩
 have B1 : Below w.heap.size w q1 := (hb0 _).trans (hbq1.mono (hb0 _).size)
 obtain ⟨Aal, cal, rfl, hcal, hCal⟩ := Kd.R_reads hR1
 have hbm := blk_below (blk_new w (.cells #[.int .i64 W, .int .i64 H, .slice A l.length c] 24)) hbq1
 gi_wp2
 refine ⟨trivial, (callsIn_wide.2 (h63 _)).mono ?_⟩
 rintro e q2 ⟨rfl, hbq2⟩
 have hbm2 := blk_below (blk_alloc hbm _) hbq2
 have hfr2 := blk_below (blk_new q1 (.cells #[.int .i64 v, .int .i64 s, .slice Aal al.length cal] 69)) hbq2
 have B2 : Below w.heap.size w q2 := (B1.alloc B1.size _).trans (hbq2.mono (B1.alloc B1.size _).size)
 have hC2 := Kd.C_below (Kd.C_alloc hCal (.cells #[.int .i64 v, .int .i64 s, .slice Aal al.length cal] 69)) hbq2
 have f0 := (blk_cell hfr2 0).trans rfl
 have f1 := (blk_cell hfr2 1).trans rfl
 have f2 := (blk_cell hfr2 2).trans rfl
 have f0' := fun o o' => cell_alloc_p o' (cell_alloc_p o f0)
 have f1' := fun o o' => cell_alloc_p o' (cell_alloc_p o f1)
 have f2' := fun o o' => cell_alloc_p o' (cell_alloc_p o f2)
 gi_wp2
 refine ⟨trivial, (pathF_in _ v s Aal cal al _).mono ?_⟩
 rintro e q5 ⟨rfl, hq5⟩
 -- THE LOOP
 obtain ⟨wc, hwc⟩ : ∃ wc, q2.alloc (.cells #[.int .i64 (nn : Int)] 3) = wc := ⟨_, rfl⟩
 have zc : wc.heap.size = q2.heap.size + 1 := by rw [← hwc]; simp
 have hbmc : wc.heap[w.heap.size]? = some (.cells #[.int .i64 W, .int .i64 H, .slice A l.length c] 24 (0, 0)) := by rw [← hwc]; exact blk_alloc hbm2 _
 have hbnc : wc.heap[q2.heap.size]? = some (.cells #[.int .i64 (nn : Int)] 3 (0, 0)) := by rw [← hwc]; exact blk_new _ _
 have hCac : Kd.C (Kd.int .i64) wc Aal al.length al := by rw [← hwc]; exact Kd.C_alloc hC2 _
 have Bwc : Below w.heap.size w wc := by rw [← hwc]; exact B2.alloc B2.size _
 have hAc : Kd.C Kd.bool wc A l.length l := Kd.C_below hA Bwc
 rw [hwc] at hq5
 obtain ⟨w5, hw5⟩ : ∃ w5, (wc.alloc (.cells #[.slice none 0 0] 22)).alloc (.cells #[.int .i64 v, .int .i64 s, .slice Aal al.length cal] 69) = w5 := ⟨_, rfl⟩
 obtain ⟨bb, hbb⟩ : ∃ bb, q2.heap.size + 1 = bb := ⟨_, rfl⟩
 obtain ⟨bs, hbs⟩ : ∃ bs, bb + 1 = bs := ⟨_, rfl⟩
 have z5 : w5.heap.size = bs + 1 := by rw [← hw5]; simp; omega
 have hbo5 : w5.heap[bb]? = some (.cells #[.slice none 0 0] 22 (0, 0)) := by
  rw [← hw5, ← hbb, ← zc]
  exact blk_alloc (blk_new _ _) _
 have hbs5 : w5.heap[bs]? = some (.cells #[.int .i64 v, .int .i64 s, .slice Aal al.length cal] 69 (0, 0)) := by
  have := blk_new (wc.alloc (.cells #[.slice none 0 0] 22)) (.cells #[.int .i64 v, .int .i64 s, .slice Aal al.length cal] 69)
  rw [World.size_alloc, zc, hbb, hbs, hw5] at this
  exact this
 have B5 : Below wc.heap.size wc w5 := by rw [← hw5]; exact ((Below.refl _ wc).alloc (Nat.le_refl _) _).alloc (by simp) _
 rw [hw5] at hq5
 gi_wp2
 clear hw5 hwc hq5 f0 f1 f2 f0' f1' f2' hR1 hCal hC2 hbm hbm2 hfr2 hbq1 hbq2 hb0
 refine wpIn_rangeFunc_ownH rfl (by omega) (gf := 84) (lb := #[.pointer (some ⟨bs, 0, none⟩)]) rfl trivial (enters_of Try.func84 (by kernel_rfl) rfl)
  (path_stopsB (9 - 1) (by omega) k _ v s Aal cal al hcal hlo ps hps hall wc w5 hCac hbs5 B5) (fun h h' => ⟨h.1.trans h'.1, h'.2.trans h.2⟩)
  (fun X L o o' hL ho hc hw => ⟨(Below.refl _ X).grown (grownBy_putObj' X L o') (by have := (Array.getElem?_eq_some_iff.1 ho).1; omega) (fun k e => by cases e; omega), World.putObj_heap_other (by omega)⟩) (Below.refl _ _) (fun _ => rfl)
  (fun pre X => (∃ u, Boxed X bb 22 u ∧ X.ownsRow w5.heap.size 4 1 u pre.length (vsB (bitsAt W l (pre.map (·.1)))) ∧ True) ∧ (Below wc.heap.size wc X ∧ (w5.heap.size ≤ X.heap.size ∧ pre.length ≤ 8 * nn)))
  (fun cd xs X => cd = .exit 0 ∧ ∃ pre x, xs = pre ++ [x] ∧ pre.length = 8 * nn ∧ (∃ u, Boxed X bb 22 u ∧ X.ownsRow w5.heap.size 4 1 u pre.length (vsB (bitsAt W l (pre.map (·.1)))) ∧ True) ∧ (Below wc.heap.size wc X ∧ w5.heap.size ≤ X.heap.size))
  (OwnFrom.and (Own.from (holdsRow_own w5.heap.size bb 22 4 1 (fun pre => pre.length) (fun pre : List { p : S45 // p ∈ ps } => vsB (bitsAt W l (pre.map (·.1)))) (fun _ _ => True)) _) (OwnFrom.and (ownFrom_below (Nat.le_refl _) (by omega)) (fun pre X Y row hs hg hr => ⟨Nat.le_trans hs.1 hg.size, hs.2⟩)))
  (fun cd xs X Y row hs hg hr => by
   obtain ⟨e1, pre, x, e2, e3, h4, h5, h6⟩ := hs
   exact ⟨e1, pre, x, e2, e3, (Own.from (holdsRow_own w5.heap.size bb 22 4 1 (fun pre => pre.length) (fun pre : List { p : S45 // p ∈ ps } => vsB (bitsAt W l (pre.map (·.1)))) (fun _ _ => True)) w5.heap.size) pre X Y row h4 hg hr, (ownFrom_below (Nat.le_refl _) (by omega) : OwnFrom w5.heap.size (fun (_ : Unit) X => Below wc.heap.size wc X)) () X Y row h5 hg hr, Nat.le_trans h6 hg.size⟩)
  ⟨⟨_, hbo5, World.ownsRow_nil _ _ _ _, trivial⟩, B5, Nat.le_refl _, Nat.zero_le _⟩
  (fun x a' X => ∃ Bx, X.heap[Bx]? = some (.cells #[.int .i64 x.1.f0, .int .i64 x.1.f1] 45 (0, 0)) ∧ a' = { tmps := #[.agg #[.int .i64 W, .int .i64 H, .slice A l.length c], .pointer (some ⟨w.heap.size, 0, none⟩), .slice none 0 0, .int .i64 0, .pointer (some ⟨q1.heap.size, 0, none⟩), .int .i64 0, .pointer (some ⟨q2.heap.size, 0, none⟩), .int .i64 rr, .int .i64 0, .pointer (some ⟨bb, 0, none⟩), .pointer (some ⟨Bx, 0, none⟩), .tuple #[.agg #[.int .i64 v, .int .i64 s, .slice Aal al.length cal], .int .i64 0], .agg #[.int .i64 W, .int .i64 H, .slice A l.length c], .tuple #[.agg #[.int .i64 v, .int .i64 s, .slice Aal al.length cal], .int .i64 0], .agg #[.int .i64 v, .int .i64 s, .slice Aal al.length cal], .int .i64 0, .int .i64 0, .bool false, undef, .tuple #[.int .i64 (nn : Int), .int .i64 rr, .int .i64 0], .pointer (some ⟨q1.heap.size, 0, none⟩), .int .i64 v, .tuple #[.int .i64 (nn : Int), .int .i64 rr, .int .i64 0], .int .i64 (nn : Int), .int .i64 rr, .int .i64 0, .agg #[.int .i64 v, .int .i64 s, .slice Aal al.length cal], .func (.func 84) #[] #[.pointer (some ⟨bs, 0, none⟩)], encP x.1, undef, undef, undef, undef, undef, undef, undef, undef, undef, undef, undef, undef, undef, undef, undef, undef, undef, undef, undef, undef, undef, undef, undef, undef], defers := [] })
  (fun x a' _ X Y row hs hg hr => by
   obtain ⟨Bx, e2, e3⟩ := hs
   refine ⟨Bx, ?_, e3⟩
   rw [hg.block Bx (Array.getElem?_eq_some_iff.1 e2).1 (fun e => by obtain ⟨o, ho, hc⟩ := (hr Bx e.symm).2; rw [e2] at ho; cases ho; cases hc)]
   exact e2)
  ?assign ?body ?done ?stop
 case assign =>
  rintro lp pre x X K ⟨⟨u, hu, hrow, _⟩, h1, h6, h7⟩ hK
  dsimp only [encP]
  gi_wp2
  exact hK _ _ ((KeepsOthers.alloc _ _).from _) ⟨(Below.refl _ X).alloc h1.size _, Below.heap_alloc X _ _ (by omega)⟩ ⟨⟨u, hu.alloc _, hrow.alloc _, trivial⟩, h1.alloc h1.size _, by simp; omega, h7⟩ ⟨X.heap.size, World.alloc_heap_new X _, rfl⟩
 case body =>
  rintro lp pre x a' X hlp ⟨r, hr⟩ ⟨⟨u, hu, hrow, _⟩, h1, h6, h7⟩ ⟨Bx, bX, rfl⟩ hlt
  obtain ⟨⟨hp0, hp1⟩, hJ0, hJ1⟩ := hin x.1 x.2
  obtain ⟨⟨px, py⟩, hpm⟩ := x
  simp only at hp0 hp1 hJ0 hJ1 bX
  obtain ⟨Q, hQ⟩ : ∃ Q, py * W = Q := ⟨_, rfl⟩
  rw [hQ] at hp0 hp1 hJ0 hJ1
  obtain ⟨J, hJ⟩ : ∃ J, Q + px = J := ⟨_, rfl⟩
  rw [hJ] at hJ0 hJ1
  have w1 : wrap64 Q = Q := by clear hQ; unfold wrap64; omega
  have w2 : wrap64 J = J := by clear hQ; unfold wrap64; omega
  have w3 : wrap64 (8 * (nn : Int)) = 8 * (nn : Int) := by clear hQ; unfold wrap64; omega
  have w4 := (i64_w (8 * (nn : Int))).trans w3
  have w5' := (i64_w Q).trans w1
  have w6 := (i64_w J).trans w2
  have hbmX := blk_below hbmc h1
  have hbnX := blk_below hbnc h1
  have hAX := Kd.C_below hAc h1
  obtain ⟨ad, eA, b0⟩ := Kd.at_bool hAX J hJ0 hJ1
  have e1 := (blk_cell bX 1).trans rfl
  have e2 := (blk_cell bX 0).trans rfl
  have e3 := (blk_cell hbmX 0).trans rfl
  have e3' := (blk_cell hbmX 2).trans rfl
  have e4 := (blk_cell hbnX 0).trans rfl
  have e5 := hu.cell
  obtain ⟨Ar, cr, hur⟩ : ∃ Ar cr, u = .slice Ar pre.length cr := by
   obtain ⟨Ar, cr, e⟩ := Kd.R_slice (R_bits (by simp) hrow)
   exact ⟨Ar, cr, by rw [e]; simp [bitsAt]⟩
  subst hur
  replace hJ0 := eq_true hJ0
  replace hJ1 := eq_true hJ1
  cases eA
  dsimp only [encP]
  by_cases hlen : pre.length = 8 * nn
  ·have hb1 : ((pre.length : Int) == 8 * (nn : Int)) = true := beq_iff_eq.mpr (by omega)
   clear hpl hpn hlt h7 hl hn
   gi_wp2
   exact ⟨(KeepsOthers.refl _).from _, rfl, pre, _, rfl, hlen, ⟨_, hu, hrow, trivial⟩, h1, h6⟩
  ·have hb1 : ((pre.length : Int) == 8 * (nn : Int)) = false := beq_eq_false_iff_ne.mpr (by omega)
   have hlt8 : pre.length + 1 ≤ 8 * nn := by omega
   have hcap : pre.length + 1 ≤ 100000 := by omega
   obtain ⟨bv, hbv⟩ : ∃ bv, rdOf false l J = bv := ⟨_, rfl⟩
   rw [hbv] at b0
   have hbit : bitsAt W l ((pre ++ [(⟨⟨px, py⟩, hpm⟩ : { p : S45 // p ∈ ps })]).map (·.1)) = bitsAt W l (pre.map (·.1)) ++ [bv] := by
    simp only [bitsAt, List.map_append, List.map_cons, List.map_nil, hQ, hJ, hbv]
   clear hpl hpn hlt h7 hl hn hlen
   have hrowd : X.drew.ownsRow w5.heap.size 4 1 (.slice Ar pre.length cr) pre.length (vsB (bitsAt W l (pre.map (·.1)))) := hrow
   have hud : Boxed X.drew bb 22 (.slice Ar pre.length cr) := hu
   have h6d : w5.heap.size ≤ X.drew.heap.size := h6
   gi_wp2
   refine wpIn_region_apart 13 (by kernel_rfl) (by kernel_rfl) (by kernel_rfl) (fun w' => Boxed w' bb 22 (.slice Ar pre.length cr)) (.slice Ar pre.length cr) _ _ rfl rfl hud ⟨rfl, fun w' hw => by have hcw := hw.cell; go_simp⟩ (fun _ _ _ h => h) ?_
   simp only [List.take_succ_cons, List.take_zero, List.drop_succ_cons, List.drop_zero]
   repeat still_step
   try refine wpStill_nil ?_
   refine wpOpIn_step rfl (fun K hK => ?_)
   go_simp
   refine hK _ _ ⟨hud.alloc _, ?_⟩
   clear hK K
   gi_wp2_with (gi_at_builtin; refine wpListIn_append_own _ rfl _ _ 22 rfl w5.heap.size 4 i0 (.bool false) 1 1 hu22 hi hz0 hz1 hz2 rfl (by decide) _ _ _ rfl (hrowd.alloc _) ⟨X.heap.size, 0, none⟩ 1 1 [.bool bv] rfl rfl (cell_one_new X.drew _ _) (by simp [Value.oneCell']) (by simp [maxLen]; omega) (by omega) (by simp; omega) ?_; intro v' w1' hown' hgrow _; obtain ⟨g', cap', rfl⟩ := ownsRow_succ hown'; obtain ⟨hv1, hv2, hr2, hk2, hb2', hlow, hsz⟩ := app5 (n₁ := wc.heap.size) hud (by decide) hrowd h6d (by omega) (by omega) hown' hgrow; have hc1 := hv1.cell; have hf1 := hv1.frozen)
   exact ⟨((KeepsOthers.drew X).trans hk2).from _, ⟨(below_drew1 (Below.refl _ X)).trans hb2', hlow bs (by omega) (by omega)⟩, ⟨_, hv2, by rw [hbit]; simpa [vsB] using hr2, trivial⟩, (below_drew1 h1).trans hb2', Nat.le_trans h6d hsz, by simp; omega⟩
 case done =>
  rintro D ys X hD hys ⟨⟨u, hu, hrow, _⟩, h1, h6, h7⟩ hK
  have cu := hu.cell
  have hyt : ys.map (·.1) = ps.take (8 * nn) := by
   rw [hys, List.take_of_length_le]
   have := congrArg List.length hys
   simp at this
   omega
  have hyl : ys.length = 8 * nn := by
   have := congrArg List.length hyt
   simp at this
   omega
  rw [hyt, hyl] at hrow
  have hbl : (bitsAt W l (ps.take (8 * nn))).length = 8 * nn := by simp [bitsAt]; omega
  have hRb := R_bits (X := X) (base := w5.heap.size) (u := u) (W := W) (l := l) (qs := ps.take (8 * nn)) (k := 8 * nn) (by simp; omega) hrow
  obtain ⟨gB, cB, hub, _, _, _⟩ := Kd.R_form hRb (by omega)
  have hcB : (bitsAt W l (ps.take (8 * nn))).length ≤ cB ∧ Kd.C Kd.bool X (some ⟨gB, 0, none⟩) (bitsAt W l (ps.take (8 * nn))).length (bitsAt W l (ps.take (8 * nn))) := by
   obtain ⟨A9, c9, e9, hc9, hC9⟩ := Kd.R_reads hRb
   rw [hub] at e9
   cases e9
   exact ⟨hc9, hC9⟩
  rw [hbl] at hub hcB
  subst hub
  clear hRb hrow hpl hpn
  gi_wp2
  refine ⟨trivial, (words_in k ⟨gB, 0, none⟩ nn (8 * nn) cB (bitsAt W l (ps.take (8 * nn))) hn ⟨rfl⟩ hcB.1 X hcB.2 vf hvf).mono ?_⟩
  rintro e X2 ⟨u2, rfl, hR2, hb2⟩
  have hK2 := blk_below hK hb2
  gi_wp2
  refine ⟨by simp, .inl ⟨_, _, rfl, run_takeDeferred hK2, ?_⟩⟩
  have hX2 : Below w.heap.size w X2 := Bwc.trans (h1.mono Bwc.size) |>.trans (hb2.mono (by have := Bwc.size; have := h1.size; omega))
  have hRf : ∀ o', Kd.R (Kd.int .i64) 3 (X2.putObj D o') w.heap.size (fun _ => True) u2 ((List.range nn).map vf) := fun o' => by
   obtain ⟨g0, inner, hown, hr⟩ := Kd.R_lower (base' := w.heap.size) hR2 (by have := Bwc.size; have := h1.size; omega)
   exact ⟨g0, inner, ownsRow_putObj hown o' hK2 rfl, hr⟩
  exact ⟨_, results_tmp2 rfl _ _ _, u2, rfl, hRf _, hX2.trans (belowK_b (w := w5) (by have := Bwc.size; have := B5.size; omega) X2 D _ _ hD hK2 rfl rfl)⟩
 case stop =>
  rintro D cc xs X hD hpre ⟨rfl, pre, x, rfl, hlen, ⟨u, hu, hrow, _⟩, h1, h6⟩ hK
  have cu := hu.cell
  have hyt : pre.map (·.1) = ps.take (8 * nn) := by
   rw [List.map_append] at hpre
   have := List.prefix_iff_eq_take.1 ((List.prefix_append _ _).trans hpre)
   rw [this, List.length_map, hlen]
  rw [hyt, hlen] at hrow
  have hbl : (bitsAt W l (ps.take (8 * nn))).length = 8 * nn := by simp [bitsAt]; omega
  have hRb := R_bits (X := X) (base := w5.heap.size) (u := u) (W := W) (l := l) (qs := ps.take (8 * nn)) (k := 8 * nn) (by simp; omega) hrow
  obtain ⟨gB, cB, hub, _, _, _⟩ := Kd.R_form hRb (by omega)
  have hcB : (bitsAt W l (ps.take (8 * nn))).length ≤ cB ∧ Kd.C Kd.bool X (some ⟨gB, 0, none⟩) (bitsAt W l (ps.take (8 * nn))).length (bitsAt W l (ps.take (8 * nn))) := by
   obtain ⟨A9, c9, e9, hc9, hC9⟩ := Kd.R_reads hRb
   rw [hub] at e9
   cases e9
   exact ⟨hc9, hC9⟩
  rw [hbl] at hub hcB
  subst hub
  clear hRb hrow hpl hpn
  gi_wp2
  refine ⟨trivial, (words_in k ⟨gB, 0, none⟩ nn (8 * nn) cB (bitsAt W l (ps.take (8 * nn))) hn ⟨rfl⟩ hcB.1 X hcB.2 vf hvf).mono ?_⟩
  rintro e X2 ⟨u2, rfl, hR2, hb2⟩
  have hK2 := blk_below hK hb2
  gi_wp2
  refine ⟨by simp, .inl ⟨_, _, rfl, run_takeDeferred hK2, ?_⟩⟩
  have hX2 : Below w.heap.size w X2 := Bwc.trans (h1.mono Bwc.size) |>.trans (hb2.mono (by have := Bwc.size; have := h1.size; omega))
  have hRf : ∀ o', Kd.R (Kd.int .i64) 3 (X2.putObj D o') w.heap.size (fun _ => True) u2 ((List.range nn).map vf) := fun o' => by
   obtain ⟨g0, inner, hown, hr⟩ := Kd.R_lower (base' := w.heap.size) hR2 (by have := Bwc.size; have := h1.size; omega)
   exact ⟨g0, inner, ownsRow_putObj hown o' hK2 rfl, hr⟩
  exact ⟨_, results_tmp2 rfl _ _ _, u2, rfl, hRf _, hX2.trans (belowK_b (w := w5) (by have := Bwc.size; have := B5.size; omega) X2 D _ _ hD hK2 rfl rfl)⟩
end Go.Proofs.Ytbbnagjfjgkgjaa.L

/- qrlayout.Extract, walked: where nothing is extracted. -/
namespace Go.Proofs.Ytbbnagjfjgkgjaa.L
open Go.RowKit Go.Proofs.YtbbnagjfjgkgjaaW.PrintWords Go.Proofs.YtbbnagjfjgkgjaaW.PrintLast Go.Proofs.YtbbnagjfjgkgjaaW.PrintMore
set_option linter.unusedVariables false
set_option linter.unusedSimpArgs false
set_option maxRecDepth 100000 in
set_option maxHeartbeats 8000000 in
theorem extract_no (k : Nat) (W H : Int) (A : Option Addr) (c : Nat) (l : List Bool) (w : World) (hA : Kd.C Kd.bool w A l.length l) (hc : l.length ≤ c) (v s : Int) (al : List Int) (r : Int) (hr : r ≠ 0) (hs : qrlayout_sized.f k W H l = some (v, s, al, r)) :
  Calls Try.prog 32 #[.agg #[.int .i64 W, .int .i64 H, .slice A l.length c]] w fun e w' => e = .returned (.tuple #[.slice none 0 0, .int .i64 r]) ∧ Below w.heap.size w w' := by
 have hu24 := Try.underlying24
 have hu69 := Try.underlying69
 have hb0 : ∀ o, Below w.heap.size w (w.alloc o) := fun o => (Below.refl _ w).alloc (Nat.le_refl _) _
 have hr1 : (r != 0) = true := bne_iff_ne.mpr hr
 go_enter Try.func32, Try.ntmps32
 go_wp2_with (go_at_call 40; refine (qrlayout_sized.calls k W H A c l v s al r _ (Kd.C_below hA (hb0 _)) hc hs).mono ?_; rintro e q1 ⟨v1, rfl, hR1, hbq1⟩; have B1 : Below w.heap.size w q1 := (hb0 _).trans (hbq1.mono (hb0 _).size); obtain ⟨Aal, cal, rfl, hcal, hCal⟩ := Kd.R_reads hR1)
 go_ret2
 exact ⟨rfl, B1.alloc B1.size _⟩
end Go.Proofs.Ytbbnagjfjgkgjaa.L

/- The law of Fill and Extract, walked. -/
namespace Go.Proofs.Ytbbnagjfjgkgjaa.L
open Go.RowKit Go.Proofs.YtbbnagjfjgkgjaaW.PrintWords Go.Proofs.YtbbnagjfjgkgjaaW.PrintLast Go.Proofs.YtbbnagjfjgkgjaaW.PrintMore
set_option linter.unusedVariables false
set_option linter.unusedSimpArgs false

def Does30 (W H : Int) (l : List Bool) (ws : List Int) (r1 r2 : Int) (d : List Bool) (r4 : Int) : Prop := ∀ (A : Option Addr) (c : Nat) (A2 : Option Addr) (c2 : Nat) (w : World), Kd.C Kd.bool w A l.length l → l.length ≤ c → Kd.C (Kd.int .i64) w A2 ws.length ws → ws.length ≤ c2 →
 Calls Try.prog 30 #[.agg #[.int .i64 W, .int .i64 H, .slice A l.length c], .slice A2 ws.length c2] w fun e w' => ∃ A1 c1, e = .returned (.tuple #[.agg #[.int .i64 r1, .int .i64 r2, .slice A1 d.length c1], .int .i64 r4]) ∧ d.length ≤ c1 ∧ Kd.C Kd.bool w' A1 d.length d ∧ Below w.heap.size w w'
def Does32 (W H : Int) (l : List Bool) (x : List Int) (r : Int) : Prop := ∀ (A : Option Addr) (c : Nat) (w : World), Kd.C Kd.bool w A l.length l → l.length ≤ c →
 Calls Try.prog 32 #[.agg #[.int .i64 W, .int .i64 H, .slice A l.length c]] w fun e w' => ∃ A1 c1, e = .returned (.tuple #[.slice A1 x.length c1, .int .i64 r]) ∧ x.length ≤ c1 ∧ Kd.C (Kd.int .i64) w' A1 x.length x ∧ Below w.heap.size w w'
end Go.Proofs.Ytbbnagjfjgkgjaa.L

/- The law of Returns, walked. -/
namespace Go.Proofs.Ytbbnagjfjgkgjaa.L
open Go.RowKit Go.Proofs.YtbbnagjfjgkgjaaW.PrintWords Go.Proofs.YtbbnagjfjgkgjaaW.PrintLast Go.Proofs.YtbbnagjfjgkgjaaW.PrintMore
set_option linter.unusedVariables false
set_option linter.unusedSimpArgs false

set_option maxRecDepth 100000 in
set_option maxHeartbeats 8000000 in
/-- All is filled and signed. -/
theorem law9_main (k : Nat) (W H v mask xf : Int) (A : Option Addr) (c : Nat) (l da db dc : List Bool) (A2 : Option Addr) (c2 : Nat) (ws : List Int) (w : World) (hA : Kd.C Kd.bool w A l.length l) (hc : l.length ≤ c) (hA2 : Kd.C (Kd.int .i64) w A2 ws.length ws) (hc2 : ws.length ≤ c2) (hs : (l.length : Int) ≤ 40000) (hwl : (ws.length : Int) ≤ 4000)
  (hv : barscanref20_Version.f W H l = some (v, 0)) (h30a : Does30 W H l ws W H da 0) (h17b : qrlayout_Sign.f k W H da 3 mask = some (W, H, db, 0)) (h17c : qrlayout_Sign.f k W H l 3 mask = some (W, H, dc, 0)) (h30d : Does30 W H dc ws W H db 0) (h32 : Does32 W H db ws 0)
  (h14a : qrlayout_Faults.f k W H l = some (xf, 0)) (h14b : qrlayout_Faults.f k W H db = some (xf, 0)) (hln : ((db.length : Int) != (l.length : Int)) = false) (h19 : qrlayout_Read.f k W H db = some (v, 3, mask, 0)) (h16 : barscanref20_Same.f k W H db W H db = some true) (h34 : barscanref01_Ints.f k ws ws = some true) :
  Calls Try.prog 9 #[.agg #[.int .i64 W, .int .i64 H, .slice A l.length c], .slice A2 ws.length c2, .int .i64 mask] w fun e w' => e = .returned (.bool true) ∧ Below w.heap.size w w' := by
 have hu24 := Try.underlying24
 have hsm : barscanlaw20_small.f W H l = some true := by unfold barscanlaw20_small.f; rw [decide_eq_true hs]
 have hwl0 : decide ((4000 : Int) < (ws.length : Int)) = false := decide_eq_false (by omega)
 have hb0 : ∀ o, Below w.heap.size w (w.alloc o) := fun o => (Below.refl _ w).alloc (Nat.le_refl _) _
 go_enter Try.func9, Try.ntmps9
 go_upto_region 7 with (first
  | (go_at_call 35; refine (barscanref20_Version.calls W H A c l v 0 _ (Kd.C_below hA (hb0 _)) hc hv).mono ?_; rintro e w1 ⟨rfl, hb1⟩; have B1 : Below w.heap.size w w1 := (hb0 _).trans (hb1.mono (hb0 (.cells #[.int .i64 W, .int .i64 H, .slice A l.length c] 24)).size); have m1 := blk_below (blk_new w (.cells #[.int .i64 W, .int .i64 H, .slice A l.length c] 24)) hb1; have xm1_0 := (blk_cell m1 0).trans rfl; have xm1_1 := (blk_cell m1 1).trans rfl; have xm1_2 := (blk_cell m1 2).trans rfl)
  | (go_at_call 10; refine (barscanlaw20_small.calls W H A c l true _ (Kd.C_below hA (B1)) hc hsm).mono ?_; rintro e w2 ⟨rfl, hb2⟩; have B2 := B1.trans (hb2.mono B1.size); have m2 := blk_below (m1) hb2; clear m1 xm1_0 xm1_1 xm1_2 B1; have xm2_0 := (blk_cell m2 0).trans rfl; have xm2_1 := (blk_cell m2 1).trans rfl; have xm2_2 := (blk_cell m2 2).trans rfl)
  | (go_at_call 30; refine (h30a A c A2 c2 _ (Kd.C_below hA (B2)) hc (Kd.C_below hA2 (B2)) hc2).mono ?_; rintro e w3 ⟨Aa, ca, rfl, hca, hCa, hb3⟩; have B3 := B2.trans (hb3.mono B2.size); have m3 := blk_below (m2) hb3; clear m2 xm2_0 xm2_1 xm2_2 B2; have xm3_0 := (fun o => cell_alloc_a o ((blk_cell m3 0).trans rfl)); have xm3_1 := (fun o => cell_alloc_a o ((blk_cell m3 1).trans rfl)); have xm3_2 := (fun o => cell_alloc_a o ((blk_cell m3 2).trans rfl))))
 go_upto_region 10 with (go_at_call 17; refine (qrlayout_Sign.calls k W H Aa ca da 3 mask W H db 0 _ (Kd.C_alloc hCa _) hca h17b).mono ?_; rintro e w4 ⟨vb, rfl, hRb, hb4⟩; have B4 := (B3.alloc B3.size (.cells #[.int .i64 W, .int .i64 H, .slice Aa da.length ca] 24)).trans (hb4.mono (B3.alloc B3.size (.cells #[.int .i64 W, .int .i64 H, .slice Aa da.length ca] 24)).size); have m4 := blk_below (blk_alloc m3 _) hb4; have a4 := blk_below (blk_new w3 (.cells #[.int .i64 W, .int .i64 H, .slice Aa da.length ca] 24)) hb4; have CA4 := Kd.C_below (Kd.C_alloc hCa _) hb4; obtain ⟨Ab, cb, rfl, hcb, hCb⟩ := Kd.R_reads hRb; clear m3 hCa xm3_0 xm3_1 xm3_2 B3; have xm4_0 := (fun o => cell_alloc_a o ((blk_cell m4 0).trans rfl)); have xm4_1 := (fun o => cell_alloc_a o ((blk_cell m4 1).trans rfl)); have xm4_2 := (fun o => cell_alloc_a o ((blk_cell m4 2).trans rfl)))
 go_wp2_with (first
  | (go_at_call 17; refine (qrlayout_Sign.calls k W H A c l 3 mask W H dc 0 _ (Kd.C_below hA (B4.alloc B4.size _)) hc h17c).mono ?_; rintro e w5 ⟨vc, rfl, hRc, hb5⟩; have B5 := (B4.alloc B4.size (.cells #[.int .i64 W, .int .i64 H, .slice Ab db.length cb] 24)).trans (hb5.mono (B4.alloc B4.size (.cells #[.int .i64 W, .int .i64 H, .slice Ab db.length cb] 24)).size); have m5 := blk_below (blk_alloc m4 _) hb5; have b5 := blk_below (blk_new w4 (.cells #[.int .i64 W, .int .i64 H, .slice Ab db.length cb] 24)) hb5; have CA5 := Kd.C_below (Kd.C_alloc CA4 _) hb5; have CB5 := Kd.C_below (Kd.C_alloc hCb _) hb5; obtain ⟨Ac, cc, rfl, hcc, hCc⟩ := Kd.R_reads hRc; clear m4 CA4 hCb xm4_0 xm4_1 xm4_2 B4; have xm5_0 := (fun o => cell_alloc_a o ((blk_cell m5 0).trans rfl)); have xm5_1 := (fun o => cell_alloc_a o ((blk_cell m5 1).trans rfl)); have xm5_2 := (fun o => cell_alloc_a o ((blk_cell m5 2).trans rfl)); have xb5_0 := (fun o => cell_alloc_a o ((blk_cell b5 0).trans rfl)); have xb5_1 := (fun o => cell_alloc_a o ((blk_cell b5 1).trans rfl)); have xb5_2 := (fun o => cell_alloc_a o ((blk_cell b5 2).trans rfl)))
  | (go_at_call 30; refine (h30d Ac cc A2 c2 _ (Kd.C_alloc hCc _) hcc (Kd.C_below hA2 (B5.alloc B5.size _)) hc2).mono ?_; rintro e w6 ⟨Ad, cd, rfl, hcd, hCd, hb6⟩; have B6 := (B5.alloc B5.size (.cells #[.int .i64 W, .int .i64 H, .slice Ac dc.length cc] 24)).trans (hb6.mono (B5.alloc B5.size (.cells #[.int .i64 W, .int .i64 H, .slice Ac dc.length cc] 24)).size); have m6 := blk_below (blk_alloc m5 _) hb6; have b6 := blk_below (blk_alloc b5 _) hb6; have c6 := blk_below (blk_new w5 (.cells #[.int .i64 W, .int .i64 H, .slice Ac dc.length cc] 24)) hb6; have CA6 := Kd.C_below (Kd.C_alloc CA5 _) hb6; have CB6 := Kd.C_below (Kd.C_alloc CB5 _) hb6; have CC6 := Kd.C_below (Kd.C_alloc hCc _) hb6; clear m5 b5 CA5 CB5 hCc xm5_0 xm5_1 xm5_2 xb5_0 xb5_1 xb5_2 B5; have xm6_0 := (fun o => cell_alloc_a o ((blk_cell m6 0).trans rfl)); have xm6_1 := (fun o => cell_alloc_a o ((blk_cell m6 1).trans rfl)); have xm6_2 := (fun o => cell_alloc_a o ((blk_cell m6 2).trans rfl)); have xb6_0 := (fun o => cell_alloc_a o ((blk_cell b6 0).trans rfl)); have xb6_1 := (fun o => cell_alloc_a o ((blk_cell b6 1).trans rfl)); have xb6_2 := (fun o => cell_alloc_a o ((blk_cell b6 2).trans rfl)))
  | (go_at_call 32; refine (h32 Ab cb _ (Kd.C_alloc CB6 _) hcb).mono ?_; rintro e w7 ⟨Aw, cw, rfl, hcw, hCw, hb7⟩; have B7 := (B6.alloc B6.size (.cells #[.int .i64 W, .int .i64 H, .slice Ad db.length cd] 24)).trans (hb7.mono (B6.alloc B6.size (.cells #[.int .i64 W, .int .i64 H, .slice Ad db.length cd] 24)).size); have m7 := blk_below (blk_alloc m6 _) hb7; have b7 := blk_below (blk_alloc b6 _) hb7; have d7 := blk_below (blk_new w6 (.cells #[.int .i64 W, .int .i64 H, .slice Ad db.length cd] 24)) hb7; have CA7 := Kd.C_below (Kd.C_alloc CA6 _) hb7; have CB7 := Kd.C_below (Kd.C_alloc CB6 _) hb7; have CC7 := Kd.C_below (Kd.C_alloc CC6 _) hb7; have CD7 := Kd.C_below (Kd.C_alloc hCd _) hb7; clear m6 b6 CA6 CB6 CC6 hCd xm6_0 xm6_1 xm6_2 xb6_0 xb6_1 xb6_2 B6; have xm7_0 := (blk_cell m7 0).trans rfl; have xm7_1 := (blk_cell m7 1).trans rfl; have xm7_2 := (blk_cell m7 2).trans rfl; have xb7_0 := (blk_cell b7 0).trans rfl; have xb7_1 := (blk_cell b7 1).trans rfl; have xb7_2 := (blk_cell b7 2).trans rfl; have xd7_0 := (blk_cell d7 0).trans rfl; have xd7_1 := (blk_cell d7 1).trans rfl; have xd7_2 := (blk_cell d7 2).trans rfl)
  | (first | (go_at_call 14; refine (qrlayout_Faults.calls k W H A c l xf 0 _ (Kd.C_below hA (B7)) hc h14a).mono ?_; rintro e w8 ⟨rfl, hb8⟩; have B8 := B7.trans (hb8.mono B7.size); have m8 := blk_below (m7) hb8; have b8 := blk_below (b7) hb8; have d8 := blk_below (d7) hb8; have CA8 := Kd.C_below (CA7) hb8; have CB8 := Kd.C_below (CB7) hb8; have CC8 := Kd.C_below (CC7) hb8; have CD8 := Kd.C_below (CD7) hb8; have CW8 := Kd.C_below (hCw) hb8; clear m7 b7 d7 CA7 CB7 CC7 CD7 hCw xm7_0 xm7_1 xm7_2 xb7_0 xb7_1 xb7_2 xd7_0 xd7_1 xd7_2 B7; have xm8_0 := (blk_cell m8 0).trans rfl; have xm8_1 := (blk_cell m8 1).trans rfl; have xm8_2 := (blk_cell m8 2).trans rfl; have xb8_0 := (blk_cell b8 0).trans rfl; have xb8_1 := (blk_cell b8 1).trans rfl; have xb8_2 := (blk_cell b8 2).trans rfl; have xd8_0 := (blk_cell d8 0).trans rfl; have xd8_1 := (blk_cell d8 1).trans rfl; have xd8_2 := (blk_cell d8 2).trans rfl) | (go_at_call 14; refine (qrlayout_Faults.calls k W H Ab cb db xf 0 _ CB8 hcb h14b).mono ?_; rintro e w9 ⟨rfl, hb9⟩; have B9 := B8.trans (hb9.mono B8.size); have m9 := blk_below (m8) hb9; have b9 := blk_below (b8) hb9; have d9 := blk_below (d8) hb9; have CA9 := Kd.C_below (CA8) hb9; have CB9 := Kd.C_below (CB8) hb9; have CC9 := Kd.C_below (CC8) hb9; have CD9 := Kd.C_below (CD8) hb9; have CW9 := Kd.C_below (CW8) hb9; clear m8 b8 d8 CA8 CB8 CC8 CD8 CW8 xm8_0 xm8_1 xm8_2 xb8_0 xb8_1 xb8_2 xd8_0 xd8_1 xd8_2 B8; have xm9_0 := (blk_cell m9 0).trans rfl; have xm9_1 := (blk_cell m9 1).trans rfl; have xm9_2 := (blk_cell m9 2).trans rfl; have xb9_0 := (blk_cell b9 0).trans rfl; have xb9_1 := (blk_cell b9 1).trans rfl; have xb9_2 := (blk_cell b9 2).trans rfl; have xd9_0 := (blk_cell d9 0).trans rfl; have xd9_1 := (blk_cell d9 1).trans rfl; have xd9_2 := (blk_cell d9 2).trans rfl))
  | (go_at_call 19; refine (qrlayout_Read.calls k W H Ab cb db v 3 mask 0 _ CB9 hcb h19).mono ?_; rintro e w10 ⟨rfl, hb10⟩; have B10 := B9.trans (hb10.mono B9.size); have m10 := blk_below (m9) hb10; have b10 := blk_below (b9) hb10; have d10 := blk_below (d9) hb10; have CA10 := Kd.C_below (CA9) hb10; have CB10 := Kd.C_below (CB9) hb10; have CC10 := Kd.C_below (CC9) hb10; have CD10 := Kd.C_below (CD9) hb10; have CW10 := Kd.C_below (CW9) hb10; clear m9 b9 d9 CA9 CB9 CC9 CD9 CW9 xm9_0 xm9_1 xm9_2 xb9_0 xb9_1 xb9_2 xd9_0 xd9_1 xd9_2 B9; have xb10_0 := (blk_cell b10 0).trans rfl; have xb10_1 := (blk_cell b10 1).trans rfl; have xb10_2 := (blk_cell b10 2).trans rfl; have xd10_0 := (blk_cell d10 0).trans rfl; have xd10_1 := (blk_cell d10 1).trans rfl; have xd10_2 := (blk_cell d10 2).trans rfl)
  | (go_at_call 16; refine (barscanref20_Same.calls k W H Ab cb db W H Ad cd db true _ CB10 hcb CD10 hcd h16).mono ?_; rintro e w11 ⟨rfl, hb11⟩; have B11 := B10.trans (hb11.mono B10.size); have b11 := blk_below (b10) hb11; have d11 := blk_below (d10) hb11; have CA11 := Kd.C_below (CA10) hb11; have CB11 := Kd.C_below (CB10) hb11; have CC11 := Kd.C_below (CC10) hb11; have CD11 := Kd.C_below (CD10) hb11; have CW11 := Kd.C_below (CW10) hb11; clear b10 d10 CA10 CB10 CC10 CD10 CW10 xb10_0 xb10_1 xb10_2 xd10_0 xd10_1 xd10_2 B10)
  | (go_at_call 34; refine (barscanref01_Ints.calls k Aw cw ws A2 c2 ws true _ CW11 hcw (Kd.C_below hA2 (B11)) hc2 h34).mono ?_; rintro e w12 ⟨rfl, ⟨nd12, rfl⟩⟩; have B12 := pw_below_drewN B11 nd12)
  | (go_at_call 11; refine (barscanlaw20_alive.calls true _ rfl).mono ?_; rintro e w13 ⟨rfl, hb13⟩; have D13 := B12.trans (hb13.mono B12.size)))
 go_ret
 exact ⟨by simp, D13⟩
set_option maxRecDepth 100000 in
set_option maxHeartbeats 8000000 in
theorem law9_big (k : Nat) (W H v mask : Int) (A : Option Addr) (c : Nat) (l : List Bool) (A2 : Option Addr) (c2 : Nat) (ws : List Int) (w : World) (hA : Kd.C Kd.bool w A l.length l) (hc : l.length ≤ c) (hA2 : Kd.C (Kd.int .i64) w A2 ws.length ws) (hc2 : ws.length ≤ c2) (ev : Int) (hs : ¬ (l.length : Int) ≤ 40000) (hv : barscanref20_Version.f W H l = some (v, ev)) :
  Calls Try.prog 9 #[.agg #[.int .i64 W, .int .i64 H, .slice A l.length c], .slice A2 ws.length c2, .int .i64 mask] w fun e w' => e = .returned (.bool true) ∧ Below w.heap.size w w' := by
 have hu24 := Try.underlying24
 have hb0 : ∀ o, Below w.heap.size w (w.alloc o) := fun o => (Below.refl _ w).alloc (Nat.le_refl _) _
 have hsm : barscanlaw20_small.f W H l = some false := by unfold barscanlaw20_small.f; rw [decide_eq_false hs]
 clear hs
 go_enter Try.func9, Try.ntmps9
 go_wp2_with (first
  | (go_at_call 35; refine (barscanref20_Version.calls W H A c l v ev _ (Kd.C_below hA (hb0 _)) hc hv).mono ?_; rintro e w1 ⟨rfl, hb1⟩; have B1 : Below w.heap.size w w1 := (hb0 _).trans (hb1.mono (hb0 (.cells #[.int .i64 W, .int .i64 H, .slice A l.length c] 24)).size); have hm1 := blk_below (blk_new w (.cells #[.int .i64 W, .int .i64 H, .slice A l.length c] 24)) hb1; have x0 := (blk_cell hm1 0).trans rfl; have x1 := (blk_cell hm1 1).trans rfl; have x2 := (blk_cell hm1 2).trans rfl)
  | (go_at_call 10; refine (barscanlaw20_small.calls W H A c l false _ (Kd.C_below hA B1) hc hsm).mono ?_; rintro e w2 ⟨rfl, hb2⟩; have B2 := B1.trans (hb2.mono B1.size); have hm2 := blk_below hm1 hb2; have y0 := (blk_cell hm2 0).trans rfl; have y1 := (blk_cell hm2 1).trans rfl; have y2 := (blk_cell hm2 2).trans rfl)
  | (go_at_call 11; refine (barscanlaw20_alive.calls true _ rfl).mono ?_; rintro e w9 ⟨rfl, hb9⟩; have D9 := B2.trans (hb9.mono B2.size)))
 go_ret
 exact ⟨rfl, D9⟩
set_option maxRecDepth 100000 in
set_option maxHeartbeats 8000000 in
theorem law9_long (k : Nat) (W H v mask : Int) (A : Option Addr) (c : Nat) (l : List Bool) (A2 : Option Addr) (c2 : Nat) (ws : List Int) (w : World) (hA : Kd.C Kd.bool w A l.length l) (hc : l.length ≤ c) (hA2 : Kd.C (Kd.int .i64) w A2 ws.length ws) (hc2 : ws.length ≤ c2) (ev : Int) (hs : (l.length : Int) ≤ 40000) (hn : 4000 < (ws.length : Int)) (hv : barscanref20_Version.f W H l = some (v, ev)) :
  Calls Try.prog 9 #[.agg #[.int .i64 W, .int .i64 H, .slice A l.length c], .slice A2 ws.length c2, .int .i64 mask] w fun e w' => e = .returned (.bool true) ∧ Below w.heap.size w w' := by
 have hu24 := Try.underlying24
 have hb0 : ∀ o, Below w.heap.size w (w.alloc o) := fun o => (Below.refl _ w).alloc (Nat.le_refl _) _
 have hsm : barscanlaw20_small.f W H l = some true := by unfold barscanlaw20_small.f; rw [decide_eq_true hs]
 clear hs
 have hwl0 : decide ((4000 : Int) < (ws.length : Int)) = true := decide_eq_true hn
 clear hn
 go_enter Try.func9, Try.ntmps9
 go_wp2_with (first
  | (go_at_call 35; refine (barscanref20_Version.calls W H A c l v ev _ (Kd.C_below hA (hb0 _)) hc hv).mono ?_; rintro e w1 ⟨rfl, hb1⟩; have B1 : Below w.heap.size w w1 := (hb0 _).trans (hb1.mono (hb0 (.cells #[.int .i64 W, .int .i64 H, .slice A l.length c] 24)).size); have hm1 := blk_below (blk_new w (.cells #[.int .i64 W, .int .i64 H, .slice A l.length c] 24)) hb1; have x0 := (blk_cell hm1 0).trans rfl; have x1 := (blk_cell hm1 1).trans rfl; have x2 := (blk_cell hm1 2).trans rfl)
  | (go_at_call 10; refine (barscanlaw20_small.calls W H A c l true _ (Kd.C_below hA B1) hc hsm).mono ?_; rintro e w2 ⟨rfl, hb2⟩; have B2 := B1.trans (hb2.mono B1.size); have hm2 := blk_below hm1 hb2; have y0 := (blk_cell hm2 0).trans rfl; have y1 := (blk_cell hm2 1).trans rfl; have y2 := (blk_cell hm2 2).trans rfl)
  | (go_at_call 11; refine (barscanlaw20_alive.calls true _ rfl).mono ?_; rintro e w9 ⟨rfl, hb9⟩; have D9 := B2.trans (hb9.mono B2.size)))
 go_ret
 exact ⟨rfl, D9⟩
set_option maxRecDepth 100000 in
set_option maxHeartbeats 8000000 in
theorem law9_none (k : Nat) (W H v mask : Int) (A : Option Addr) (c : Nat) (l : List Bool) (A2 : Option Addr) (c2 : Nat) (ws : List Int) (w : World) (hA : Kd.C Kd.bool w A l.length l) (hc : l.length ≤ c) (hA2 : Kd.C (Kd.int .i64) w A2 ws.length ws) (hc2 : ws.length ≤ c2) (ev : Int) (hs : (l.length : Int) ≤ 40000) (hn : (ws.length : Int) ≤ 4000) (hev : ev ≠ 0) (hv : barscanref20_Version.f W H l = some (v, ev)) :
  Calls Try.prog 9 #[.agg #[.int .i64 W, .int .i64 H, .slice A l.length c], .slice A2 ws.length c2, .int .i64 mask] w fun e w' => e = .returned (.bool true) ∧ Below w.heap.size w w' := by
 have hu24 := Try.underlying24
 have hb0 : ∀ o, Below w.heap.size w (w.alloc o) := fun o => (Below.refl _ w).alloc (Nat.le_refl _) _
 have hsm : barscanlaw20_small.f W H l = some true := by unfold barscanlaw20_small.f; rw [decide_eq_true hs]
 clear hs
 have hwl0 : decide ((4000 : Int) < (ws.length : Int)) = false := decide_eq_false (by omega)
 have he0 : (ev != 0) = true := bne_iff_ne.mpr hev
 clear hn
 go_enter Try.func9, Try.ntmps9
 go_wp2_with (first
  | (go_at_call 35; refine (barscanref20_Version.calls W H A c l v ev _ (Kd.C_below hA (hb0 _)) hc hv).mono ?_; rintro e w1 ⟨rfl, hb1⟩; have B1 : Below w.heap.size w w1 := (hb0 _).trans (hb1.mono (hb0 (.cells #[.int .i64 W, .int .i64 H, .slice A l.length c] 24)).size); have hm1 := blk_below (blk_new w (.cells #[.int .i64 W, .int .i64 H, .slice A l.length c] 24)) hb1; have x0 := (blk_cell hm1 0).trans rfl; have x1 := (blk_cell hm1 1).trans rfl; have x2 := (blk_cell hm1 2).trans rfl)
  | (go_at_call 10; refine (barscanlaw20_small.calls W H A c l true _ (Kd.C_below hA B1) hc hsm).mono ?_; rintro e w2 ⟨rfl, hb2⟩; have B2 := B1.trans (hb2.mono B1.size); have hm2 := blk_below hm1 hb2; have y0 := (blk_cell hm2 0).trans rfl; have y1 := (blk_cell hm2 1).trans rfl; have y2 := (blk_cell hm2 2).trans rfl)
  | (go_at_call 11; refine (barscanlaw20_alive.calls true _ rfl).mono ?_; rintro e w9 ⟨rfl, hb9⟩; have D9 := B2.trans (hb9.mono B2.size)))
 go_ret
 exact ⟨rfl, D9⟩
set_option maxRecDepth 100000 in
set_option maxHeartbeats 8000000 in
theorem law9_nofill (k : Nat) (W H v mask : Int) (A : Option Addr) (c : Nat) (l : List Bool) (A2 : Option Addr) (c2 : Nat) (ws : List Int) (w : World) (hA : Kd.C Kd.bool w A l.length l) (hc : l.length ≤ c) (hA2 : Kd.C (Kd.int .i64) w A2 ws.length ws) (hc2 : ws.length ≤ c2) (hs : (l.length : Int) ≤ 40000) (hn : (ws.length : Int) ≤ 4000) (hv : barscanref20_Version.f W H l = some (v, 0)) (r1 r2 r4 : Int) (hr : r4 ≠ 0) (h30a : Does30 W H l ws r1 r2 [] r4) :
  Calls Try.prog 9 #[.agg #[.int .i64 W, .int .i64 H, .slice A l.length c], .slice A2 ws.length c2, .int .i64 mask] w fun e w' => e = .returned (.bool true) ∧ Below w.heap.size w w' := by
 have hu24 := Try.underlying24
 have hb0 : ∀ o, Below w.heap.size w (w.alloc o) := fun o => (Below.refl _ w).alloc (Nat.le_refl _) _
 have hsm : barscanlaw20_small.f W H l = some true := by unfold barscanlaw20_small.f; rw [decide_eq_true hs]
 have hwl0 : decide ((4000 : Int) < (ws.length : Int)) = false := decide_eq_false (by omega)
 have he0 : (r4 != 0) = true := bne_iff_ne.mpr hr
 clear hs hn hr
 go_enter Try.func9, Try.ntmps9
 go_wp2_with (first
  | (go_at_call 35; refine (barscanref20_Version.calls W H A c l v 0 _ (Kd.C_below hA (hb0 _)) hc hv).mono ?_; rintro e w1 ⟨rfl, hb1⟩; have B1 : Below w.heap.size w w1 := (hb0 _).trans (hb1.mono (hb0 (.cells #[.int .i64 W, .int .i64 H, .slice A l.length c] 24)).size); have hm1 := blk_below (blk_new w (.cells #[.int .i64 W, .int .i64 H, .slice A l.length c] 24)) hb1; have x0 := (blk_cell hm1 0).trans rfl; have x1 := (blk_cell hm1 1).trans rfl; have x2 := (blk_cell hm1 2).trans rfl)
  | (go_at_call 10; refine (barscanlaw20_small.calls W H A c l true _ (Kd.C_below hA B1) hc hsm).mono ?_; rintro e w2 ⟨rfl, hb2⟩; have B2 := B1.trans (hb2.mono B1.size); have hm2 := blk_below hm1 hb2; have y0 := (blk_cell hm2 0).trans rfl; have y1 := (blk_cell hm2 1).trans rfl; have y2 := (blk_cell hm2 2).trans rfl)
  | (go_at_call 30; refine (h30a A c A2 c2 _ (Kd.C_below hA B2) hc (Kd.C_below hA2 B2) hc2).mono ?_; rintro e w3 ⟨Aa, ca, rfl, hca, hCa, hb3⟩; have B3 := B2.trans (hb3.mono B2.size); have B3' := B3.alloc B3.size (.cells #[.int .i64 r1, .int .i64 r2, .slice Aa 0 ca] 24))
  | (go_at_call 11; refine (barscanlaw20_alive.calls true _ rfl).mono ?_; rintro e w9 ⟨rfl, hb9⟩; have D9 := B3'.trans (hb9.mono B3'.size)))
 go_ret
 exact ⟨rfl, D9⟩
set_option maxRecDepth 100000 in
set_option maxHeartbeats 8000000 in
theorem law9_nosign (k : Nat) (W H v mask : Int) (A : Option Addr) (c : Nat) (l : List Bool) (A2 : Option Addr) (c2 : Nat) (ws : List Int) (w : World) (hA : Kd.C Kd.bool w A l.length l) (hc : l.length ≤ c) (hA2 : Kd.C (Kd.int .i64) w A2 ws.length ws) (hc2 : ws.length ≤ c2) (hs : (l.length : Int) ≤ 40000) (hn : (ws.length : Int) ≤ 4000) (hv : barscanref20_Version.f W H l = some (v, 0)) (r1 r2 : Int) (da : List Bool) (h30a : Does30 W H l ws r1 r2 da 0) (s1 s2 es : Int) (ds : List Bool) (hes : es ≠ 0) (h17 : qrlayout_Sign.f k r1 r2 da 3 mask = some (s1, s2, ds, es)) (hm : mask < 0 ∨ (¬ mask < 0 ∧ 7 < mask)) :
  Calls Try.prog 9 #[.agg #[.int .i64 W, .int .i64 H, .slice A l.length c], .slice A2 ws.length c2, .int .i64 mask] w fun e w' => e = .returned (.bool true) ∧ Below w.heap.size w w' := by
 have hu24 := Try.underlying24
 have hb0 : ∀ o, Below w.heap.size w (w.alloc o) := fun o => (Below.refl _ w).alloc (Nat.le_refl _) _
 have hsm : barscanlaw20_small.f W H l = some true := by unfold barscanlaw20_small.f; rw [decide_eq_true hs]
 have hwl0 : decide ((4000 : Int) < (ws.length : Int)) = false := decide_eq_false (by omega)
 have he0 : (es != 0) = true := bne_iff_ne.mpr hes
 clear hs hn hes
 rcases hm with hm | ⟨hm, hm2⟩
 all_goals go_enter Try.func9, Try.ntmps9
 all_goals (go_wp2_with (first
  | (go_at_call 35; refine (barscanref20_Version.calls W H A c l v 0 _ (Kd.C_below hA (hb0 _)) hc hv).mono ?_; rintro e w1 ⟨rfl, hb1⟩; have B1 : Below w.heap.size w w1 := (hb0 _).trans (hb1.mono (hb0 (.cells #[.int .i64 W, .int .i64 H, .slice A l.length c] 24)).size); have hm1 := blk_below (blk_new w (.cells #[.int .i64 W, .int .i64 H, .slice A l.length c] 24)) hb1; have x0 := (blk_cell hm1 0).trans rfl; have x1 := (blk_cell hm1 1).trans rfl; have x2 := (blk_cell hm1 2).trans rfl)
  | (go_at_call 10; refine (barscanlaw20_small.calls W H A c l true _ (Kd.C_below hA B1) hc hsm).mono ?_; rintro e w2 ⟨rfl, hb2⟩; have B2 := B1.trans (hb2.mono B1.size); have hm2 := blk_below hm1 hb2; have y0 := (blk_cell hm2 0).trans rfl; have y1 := (blk_cell hm2 1).trans rfl; have y2 := (blk_cell hm2 2).trans rfl)
  | (go_at_call 30; refine (h30a A c A2 c2 _ (Kd.C_below hA B2) hc (Kd.C_below hA2 B2) hc2).mono ?_; rintro e w3 ⟨Aa, ca, rfl, hca, hCa, hb3⟩; have B3 := B2.trans (hb3.mono B2.size); have B3' := B3.alloc B3.size (.cells #[.int .i64 r1, .int .i64 r2, .slice Aa da.length ca] 24))
  | (go_at_call 17; refine (qrlayout_Sign.calls k r1 r2 Aa ca da 3 mask s1 s2 ds es _ (Kd.C_alloc hCa _) hca h17).mono ?_; rintro e w4 ⟨vb, rfl, hRb, hb4⟩; obtain ⟨Ab, cb, rfl, hcb, hCb⟩ := Kd.R_reads hRb; have B4 := B3'.trans (hb4.mono B3'.size); have B4' := B4.alloc B4.size (.cells #[.int .i64 s1, .int .i64 s2, .slice Ab ds.length cb] 24))
  | (go_at_call 11; refine (barscanlaw20_alive.calls true _ rfl).mono ?_; rintro e w9 ⟨rfl, hb9⟩; have D9 := B4'.trans (hb9.mono B4'.size))))
 all_goals go_ret
 all_goals exact ⟨rfl, D9⟩
end Go.Proofs.Ytbbnagjfjgkgjaa.L
