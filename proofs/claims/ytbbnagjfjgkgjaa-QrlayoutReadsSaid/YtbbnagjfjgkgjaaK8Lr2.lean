/- The law of Reads, walked: where there is no such version, and where the marks are refused. -/
import Derived.RangeFuncBox
import Derived.StillTailTactics
import Derived.Test.YtbbnagjfjgkgjaaK8Lx16
import Derived.Test.YtbbnagjfjgkgjaaK8Lx9
import Derived.Test.YtbbnagjfjgkgjaaK8Lx12
import Derived.Test.YtbbnagjfjgkgjaaK8Lx18
import Derived.Test.YtbbnagjfjgkgjaaK8Lx20
import Derived.Test.YtbbnagjfjgkgjaaK8Lb0
import Derived.Test.YtbbnagjfjgkgjaaK8Alv
import Derived.Deep.Cut
namespace Go.Proofs.Ytbbnagjfjgkgjaa.L
open Go.RowKit Go.Proofs.YtbbnagjfjgkgjaaW.PrintWords Go.Proofs.YtbbnagjfjgkgjaaW.PrintLast Go.Proofs.YtbbnagjfjgkgjaaW.PrintMore
set_option linter.unusedVariables false
set_option linter.unusedSimpArgs false

structure S43 where
 f0 : Int
 f1 : Int
 f2 : Bool
def z43 : S43 := ⟨0, 0, false⟩
def k43 : Kd S43 := Kd.iso (Kd.pair (Kd.int .i64) (Kd.pair (Kd.int .i64) Kd.bool)) (fun x : S43 => (x.f0, (x.f1, x.f2)))
theorem k43_open {w : World} {x : S43} {cs : List Value} (h : k43.K w x cs) : cs = [.int .i64 x.f0, .int .i64 x.f1, .bool x.f2] := by
 obtain ⟨_, _, rfl, rfl, _, _, rfl, rfl, rfl⟩ := h
 rfl
theorem k43_mk (w : World) (x : S43) : k43.K w x [.int .i64 x.f0, .int .i64 x.f1, .bool x.f2] := ⟨[.int .i64 x.f0], [.int .i64 x.f1, .bool x.f2], rfl, rfl, [.int .i64 x.f1], [.bool x.f2], rfl, rfl, rfl⟩
def rd_43 (l : List S43) (i : Int) : S43 := rdOf z43 l i
theorem at_43 {w : World} {A : Option Addr} {n : Nat} {xs : List S43} (h : Kd.C k43 w A n xs) (i : Int) (h0 : 0 ≤ i) (h1 : i < n) : ∃ ad , A = some ad ∧ w.cell? (ad.add (i.toNat * 3)) = some (.int .i64 (rd_43 xs i).f0) ∧ w.cell? ⟨(ad.add (i.toNat * 3)).block, (ad.add (i.toNat * 3)).off + 1, none⟩ = some (.int .i64 (rd_43 xs i).f1) ∧ w.cell? ⟨(ad.add (i.toNat * 3)).block, (ad.add (i.toNat * 3)).off + 2, none⟩ = some (.bool (rd_43 xs i).f2) := by
 obtain ⟨ad, c, e, _, hK, hc0⟩ := Kd.C_get h z43 i h0 h1
 have hc : ∀ j u, c[j]? = some u → w.cell? (ad.add (i.toNat * 3 + j)) = some u := hc0
 obtain rfl := k43_open hK
 exact ⟨ad, e, hc 0 _ rfl, by rw [← add_field _ _ 1 (by omega)]; exact hc 1 _ rfl, by rw [← add_field _ _ 2 (by omega)]; exact hc 2 _ rfl⟩

set_option maxRecDepth 100000 in
set_option maxHeartbeats 8000000 in
/-- No such version. -/
theorem law5_no (k : Nat) (x0 x1 x2 : Int) (A : Option Addr) (n c : Nat) (W1 H1 e1 : Int) (d1 : List Bool) (w : World) (h1 : barscanref20_Blank.f k x0 = some (W1, H1, d1, e1)) (he : e1 ≠ 0) :
  Calls Try.prog 5 #[.agg #[.int .i64 x0, .int .i64 x1, .int .i64 x2], .slice A n c] w fun e w' => e = .returned (.bool true) ∧ Below w.heap.size w w' := by
 have hu24 := Try.underlying24
 have he0 : (e1 != 0) = true := bne_iff_ne.mpr he
 have hb0 : ∀ o m, Below w.heap.size w ((w.alloc o).drewN m) := fun o m => pw_below_drewN ((Below.refl _ w).alloc (Nat.le_refl _) _) m
 go_enter Try.func5, Try.ntmps5
 try go_wp2
 go_quiet (fail)
 go_wp2_with (first
  | (go_at_call 13; refine (barscanref20_Blank.calls k x0 W1 H1 d1 e1 _ h1).mono ?_; rintro e q1 ⟨v1, rfl, hR1, hb⟩; have B1 : Below w.heap.size w q1 := (hb0 _ _).trans (hb.mono (hb0 _ _).size); obtain ⟨A1, c1, rfl, hc1, hC1⟩ := Kd.R_reads hR1; clear hR1)
  | (go_at_call 11; refine (barscanlaw20_alive.calls true _ rfl).mono ?_; rintro e w7 ⟨rfl, hb7⟩; have D7 : Below w.heap.size w w7 := (B1.alloc B1.size _).trans (hb7.mono (B1.alloc B1.size _).size)))
 go_ret
 exact ⟨rfl, D7⟩
set_option maxRecDepth 100000 in
set_option maxHeartbeats 8000000 in
/-- More than fifty spots. -/
theorem law5_many (k : Nat) (x0 x1 x2 : Int) (A : Option Addr) (n c : Nat) (W1 H1 : Int) (d1 : List Bool) (w : World) (h1 : barscanref20_Blank.f k x0 = some (W1, H1, d1, 0)) (hn : 50 < n) :
  Calls Try.prog 5 #[.agg #[.int .i64 x0, .int .i64 x1, .int .i64 x2], .slice A n c] w fun e w' => e = .returned (.bool true) ∧ Below w.heap.size w w' := by
 have hu24 := Try.underlying24
 have hn0 : decide ((50 : Int) < (n : Int)) = true := decide_eq_true (by omega)
 have hb0 : ∀ o m, Below w.heap.size w ((w.alloc o).drewN m) := fun o m => pw_below_drewN ((Below.refl _ w).alloc (Nat.le_refl _) _) m
 go_enter Try.func5, Try.ntmps5
 try go_wp2
 go_quiet (fail)
 go_wp2_with (first
  | (go_at_call 13; refine (barscanref20_Blank.calls k x0 W1 H1 d1 0 _ h1).mono ?_; rintro e q1 ⟨v1, rfl, hR1, hb⟩; have B1 : Below w.heap.size w q1 := (hb0 _ _).trans (hb.mono (hb0 _ _).size); obtain ⟨A1, c1, rfl, hc1, hC1⟩ := Kd.R_reads hR1; clear hR1)
  | (go_at_call 11; refine (barscanlaw20_alive.calls true _ rfl).mono ?_; rintro e w7 ⟨rfl, hb7⟩; have D7 : Below w.heap.size w w7 := (B1.alloc B1.size _).trans (hb7.mono (B1.alloc B1.size _).size)))
 go_ret
 exact ⟨rfl, D7⟩
set_option maxRecDepth 100000 in
set_option maxHeartbeats 8000000 in
/-- The marks are refused. -/
theorem law5_bad (k : Nat) (x0 x1 x2 : Int) (A : Option Addr) (n c : Nat) (W1 H1 e1 W2 H2 : Int) (d1 d2 : List Bool) (w : World) (h1 : barscanref20_Blank.f k x0 = some (W1, H1, d1, 0)) (h2 : qrlayout_Sign.f k W1 H1 d1 x1 x2 = some (W2, H2, d2, e1)) (hn : n ≤ 50) (he : e1 ≠ 0) (hx : x1 < 1 ∨ 4 < x1 ∨ x2 < 0 ∨ 7 < x2) :
  Calls Try.prog 5 #[.agg #[.int .i64 x0, .int .i64 x1, .int .i64 x2], .slice A n c] w fun e w' => e = .returned (.bool true) ∧ Below w.heap.size w w' := by
 have hu24 := Try.underlying24
 have hn0 : decide ((50 : Int) < (n : Int)) = false := decide_eq_false (by omega)
 have he0 : (e1 != 0) = true := bne_iff_ne.mpr he
 have hb0 : ∀ o m, Below w.heap.size w ((w.alloc o).drewN m) := fun o m => pw_below_drewN ((Below.refl _ w).alloc (Nat.le_refl _) _) m
 have hx' : (x1 < 1) ∨ (¬ x1 < 1 ∧ 4 < x1) ∨ (¬ x1 < 1 ∧ ¬ 4 < x1 ∧ x2 < 0) ∨ (¬ x1 < 1 ∧ ¬ 4 < x1 ∧ ¬ x2 < 0 ∧ 7 < x2) := by omega
 clear hx hn
 rcases hx' with y1 | ⟨y1, y2⟩ | ⟨y1, y2, y3⟩ | ⟨y1, y2, y3, y4⟩
 all_goals go_enter Try.func5, Try.ntmps5
 all_goals try go_wp2
 all_goals go_quiet (fail)
 all_goals (go_wp2_with (first
  | (go_at_call 13; refine (barscanref20_Blank.calls k x0 W1 H1 d1 0 _ h1).mono ?_; rintro e q1 ⟨v1, rfl, hR1, hb⟩; have B1 : Below w.heap.size w q1 := (hb0 _ _).trans (hb.mono (hb0 _ _).size); obtain ⟨A1, c1, rfl, hc1, hC1⟩ := Kd.R_reads hR1; clear hR1)
  | (go_at_call 17; refine (qrlayout_Sign.calls k W1 H1 A1 c1 d1 x1 x2 W2 H2 d2 e1 _ (Kd.C_alloc hC1 _) hc1 h2).mono ?_; rintro e q2 ⟨v2, rfl, hR2, hb⟩; have B2 : Below w.heap.size w q2 := (B1.alloc B1.size _).trans (hb.mono (B1.alloc B1.size _).size); obtain ⟨A2, c2, rfl, hc2, hC2⟩ := Kd.R_reads hR2; clear hR2)
  | (go_at_call 11; refine (barscanlaw20_alive.calls true _ rfl).mono ?_; rintro e w7 ⟨rfl, hb7⟩; have D7 : Below w.heap.size w w7 := (B2.alloc B2.size _).trans (hb7.mono (B2.alloc B2.size _).size))))
 all_goals go_ret
 all_goals exact ⟨rfl, D7⟩
end Go.Proofs.Ytbbnagjfjgkgjaa.L

/- The law of Reads, walked: over the spots. -/
namespace Go.Proofs.Ytbbnagjfjgkgjaa.L
open Go.RowKit Go.Proofs.YtbbnagjfjgkgjaaW.PrintWords Go.Proofs.YtbbnagjfjgkgjaaW.PrintLast Go.Proofs.YtbbnagjfjgkgjaaW.PrintMore
set_option linter.unusedVariables false
set_option linter.unusedSimpArgs false

def BR (w : World) (g : Nat) (l : List Bool) : Prop := ∃ cs, w.heap[g]? = some (.cells cs 4 (0, 0)) ∧ ∀ i, i < l.length → cs[i]? = some (.bool (l.getD i false))
theorem BR.of_R {w : World} {base : Nat} {ok : Nat → Prop} {g N cap : Nat} {l : List Bool} {cells : Array Value} (h : Kd.R Kd.bool 4 w base ok (.slice (some ⟨g, 0, none⟩) N cap) l) (hh : w.heap[g]? = some (.cells cells 4 (0, 0))) (hl : l.length = N) : BR w g l :=
 ⟨cells, hh, fun i hi => by
  have := (Kd.R_celln false h (i : Int) (by omega) (by omega)).1
  rw [Int.toNat_natCast, blk_cell hh] at this
  simpa [rdOf] using this⟩
theorem BR.cell {w : World} {g : Nat} {l : List Bool} (h : BR w g l) (J : Int) (h0 : 0 ≤ J) (h1 : J < l.length) : w.cell? ⟨g, J.toNat, none⟩ = some (.bool (rdOf false l J)) ∧ w.frozen? ⟨g, J.toNat, none⟩ = false := by
 obtain ⟨cs, hh, hc⟩ := h
 exact ⟨(blk_cell hh _).trans (hc _ (by omega)), blk_frozen hh _⟩
theorem BR.put {w : World} {g : Nat} {l : List Bool} (h : BR w g l) (J : Nat) (hJ : J < l.length) (b : Bool) : BR (w.setCell ⟨g, J, none⟩ (.bool b)) g (l.set J b) := by
 obtain ⟨cs, hh, hc⟩ := h
 refine ⟨_, blk_set hh _ _, fun i hi => ?_⟩
 rw [List.length_set] at hi
 have h2 := hc i hi
 rw [Array.getElem?_setIfInBounds, List.getD_eq_getElem?_getD, List.getElem?_set]
 by_cases e : J = i
 ·subst e
  have := (Array.getElem?_eq_some_iff.1 h2).1
  simp [this, hi]
 ·rw [if_neg e, if_neg e, h2, List.getD_eq_getElem?_getD]
theorem BR.far {w : World} {g : Nat} {l : List Bool} (h : BR w g l) {p : Addr} (hp : g ≠ p.block) (u : Value) : BR (w.setCell p u) g l := by
 obtain ⟨cs, hh, hc⟩ := h
 exact ⟨cs, blk_far hh hp u, hc⟩
theorem BR.below {w w1 : World} {g : Nat} {l : List Bool} (h : BR w g l) (hb : Below w.heap.size w w1) : BR w1 g l := by
 obtain ⟨cs, hh, hc⟩ := h
 exact ⟨cs, blk_below hh hb, hc⟩
theorem BR.alloc {w : World} {g : Nat} {l : List Bool} (h : BR w g l) (o : Obj) : BR (w.alloc o) g l := by
 obtain ⟨cs, hh, hc⟩ := h
 exact ⟨cs, blk_alloc hh o, hc⟩
theorem BR.lt {w : World} {g : Nat} {l : List Bool} (h : BR w g l) : g < w.heap.size := by
 obtain ⟨cs, hh, hc⟩ := h
 exact blk_lt hh
theorem BR.C {w : World} {g : Nat} {l : List Bool} (h : BR w g l) (hl : l.length ≤ 100000) : Kd.C Kd.bool w (some ⟨g, 0, none⟩) l.length l := by
 obtain ⟨cs, hh, hc⟩ := h
 refine ⟨rfl, by omega, fun _ => ⟨_, rfl, fun j p hj => ⟨[.bool p], rfl, rfl, fun i u hu => ?_⟩⟩⟩
 have hjl : j < l.length := (List.getElem?_eq_some_iff.1 hj).1
 match i, hu with
 | 0, hu =>
  simp only [List.getElem?_cons_zero, Option.some.injEq] at hu
  subst hu
  have h2 := hc j hjl
  rw [List.getD_eq_getElem?_getD, hj] at h2
  have h3 := (blk_cell hh j).trans h2
  show w.cell? ((⟨g, 0, none⟩ : Addr).add (j * 1 + 0)) = _
  rw [Nat.mul_one, Nat.add_zero]
  simp only [Addr.add, Nat.zero_add]
  split
  ·rename_i h0
   rw [h0] at h3
   exact h3
  ·exact h3

def bump (n : Nat → Int) (g : Nat) : Nat → Int := fun j => if j = g then n j + 1 else n j
def Hit (Inv : Nat → (Nat → Int) → List Bool → List Bool → Prop) (i g : Nat) (J : Int) : Prop := ∀ n S D, Inv i n S D →
 (n g < 3 → rdOf false S J = false → Inv (i + 1) (bump n g) (S.set J.toNat true) (D.set J.toNat (!rdOf false D J))) ∧ ((¬ n g < 3 ∨ rdOf false S J = true) → Inv (i + 1) n S D)
def Spotted (k : Nat) (Inv : Nat → (Nat → Int) → List Bool → List Bool → Prop) (x0 W : Int) (N i : Nat) (q : S43) : Prop := ∃ cc : Int, (cc = 0 ∨ cc = 1) ∧ Go.bits .and .i64 q.f0 1 = cc ∧
 (((q.f2 = true ∧ (x0 < 7 ∨ (¬ x0 < 7 ∧ q.f1 < 0) ∨ (¬ x0 < 7 ∧ ¬ q.f1 < 0 ∧ 18 ≤ q.f1)) ∨ q.f2 = false ∧ (q.f1 < 0 ∨ (¬ q.f1 < 0 ∧ 15 ≤ q.f1))) ∧ ∀ n S D, Inv i n S D → Inv (i + 1) n S D)
 ∨ ∃ px py J : Int, (py * W + px = J ∧ 0 ≤ J ∧ J < (N : Int) ∧ 0 ≤ py * W ∧ py * W ≤ 40000) ∧
  ((q.f2 = true ∧ 7 ≤ x0 ∧ 0 ≤ q.f1 ∧ q.f1 < 18 ∧ barscanref20_VersionAt.f W cc q.f1 = some (px, py) ∧ Hit Inv i (cc + 2).toNat J)
  ∨ (q.f2 = false ∧ 0 ≤ q.f1 ∧ q.f1 < 15 ∧ barscanref20_FormatAt.f k W cc q.f1 = some (px, py) ∧ Hit Inv i cc.toNat J)))

theorem cell_dr {w : World} {a : Addr} {v : Value} (h : w.cell? a = some v) (o : Obj) : World.cell? { heap := (w.alloc o).heap, tape := w.tape, drawn := w.drawn + 1, os := (w.alloc o).os, output := (w.alloc o).output } a = some v := cell_alloc_a o h
theorem cell_dw {w : World} {a : Addr} {v : Value} (h : w.cell? a = some v) : World.cell? { heap := w.heap, tape := w.tape, drawn := w.drawn + 1, os := w.os, output := w.output } a = some v := h
set_option maxRecDepth 100000 in
set_option maxHeartbeats 8000000 in
/-- The walk over the spots. -/
theorem law5_main (k : Nat) (x0 x1 x2 W H : Int) (N : Nat) (A : Option Addr) (c : Nat) (L : List S43) (d1 d2 : List Bool) (w : World) (hL : Kd.C k43 w A L.length L) (hn : L.length ≤ 50)
  (h1 : barscanref20_Blank.f k x0 = some (W, H, d1, 0)) (h2 : qrlayout_Sign.f k W H d1 x1 x2 = some (W, H, d2, 0)) (hd1 : d1.length = N) (hd2 : d2.length = N) (hN : 0 < N ∧ N ≤ 40000) (hW : 0 ≤ W ∧ W ≤ 177)
  (Inv : Nat → (Nat → Int) → List Bool → List Bool → Prop) (hI0 : Inv 0 (fun _ => 0) (List.replicate N false) d2)
  (hI1 : ∀ i n S D, Inv i n S D → S.length = N ∧ D.length = N ∧ ∀ g, g < 4 → 0 ≤ n g ∧ n g ≤ 3)
  (hI2 : ∀ i, i < L.length → Spotted k Inv x0 W N i (rd_43 L (i : Int)))
  (hI3 : ∀ n S D, Inv L.length n S D → qrlayout_Read.f k W H D = some (x0, x1, x2, 0)) :
  Calls Try.prog 5 #[.agg #[.int .i64 x0, .int .i64 x1, .int .i64 x2], .slice A L.length c] w fun e w' => e = .returned (.bool true) ∧ Below w.heap.size w w' := by
 have hu24 := Try.underlying24
 have hu43 : Try.prog.underlying 43 = _ := Try.underlying43
 have hu40 := Try.underlying40
 have hu45 := Try.underlying45
 have hu41 := Try.underlying41
 have hn0 : decide ((50 : Int) < (L.length : Int)) = false := decide_eq_false (by omega)
 have hb0 : ∀ o m, Below w.heap.size w ((w.alloc o).drewN m) := fun o m => pw_below_drewN ((Below.refl _ w).alloc (Nat.le_refl _) _) m
 go_enter Try.func5, Try.ntmps5
 try go_wp2
 go_quiet (fail)
 go_wp2_with (first
  | (go_at_call 13; refine (barscanref20_Blank.calls k x0 W H d1 0 _ h1).mono ?_; rintro e q1 ⟨v1, rfl, hR1, hb⟩; have B1 : Below w.heap.size w q1 := (hb0 _ _).trans (hb.mono (hb0 _ _).size); obtain ⟨A1, c1, rfl, hc1, hC1⟩ := Kd.R_reads hR1; clear hR1; rw [hd1] at hc1)
  | (go_at_call 17; rw [← hd1]; refine (qrlayout_Sign.calls k W H A1 c1 d1 x1 x2 W H d2 0 _ (Kd.C_alloc hC1 _) (by omega) h2).mono ?_; rintro e q2 ⟨v2, rfl, hR2, hb⟩; have B2 : Below w.heap.size w q2 := (B1.alloc B1.size _).trans (hb.mono (B1.alloc B1.size _).size); rw [hd1]; obtain ⟨gd, cd, rfl, hgd0, hgd1, cellsd, hcd⟩ := Kd.R_form hR2 (by omega); have hcd9 : d2.length ≤ cd := (by obtain ⟨A9, c9, e9, hc9, _⟩ := Kd.R_reads hR2; cases e9; exact hc9); rw [hd2] at hR2 hcd9 ⊢; have gmq := blk_below (blk_new q1 (.cells #[.int .i64 W, .int .i64 H, .slice A1 d1.length c1] 24)) hb; have m2 := (fun o => cell_alloc_a o ((blk_cell gmq 2).trans rfl)))
  | ((with_reducible refine gate_dst (N := 78) rfl ?_); refine Kd.R_make Kd.bool (w0 := q2) q2.heap.size 4 rfl (N := 78) rfl 22 _ _ rfl (N : Int) rfl rfl Try.underlying22 (.bool false) 1 info4 rfl (by decide) (by omega) false (ok := fun _ => True) (okp := fun _ => True) rfl (fun _ hk => hk) trivial (by omega) (by simp only [Int.toNat_natCast]; omega) (((Below.refl _ q2).alloc (Nat.le_refl _) _).alloc (by simp) _) (by simp; omega) ?_; intro v3 q4 hR4 hb4 hgr4 ⟨gs', hgs1, hgs2⟩; obtain ⟨gs, cs, rfl, hgs0, hgs3, cellss, hcs⟩ := Kd.R_form hR4 (by simp only [List.length_replicate, Int.toNat_natCast]; omega); simp only [List.length_replicate, Int.toNat_natCast] at hR4 hgs1; obtain rfl : gs = gs' := (by simpa [Value.ownBlock] using hgs1); have hgm := blk_grown (blk_alloc (blk_alloc gmq _) _) hgr4 nofun; have hgx := blk_grown (blk_alloc (blk_new q2 _) _) hgr4 nofun; have hgn := blk_grown (blk_new (q2.alloc _) _) hgr4 nofun))
 have hgmd : q1.heap.size < gd := Nat.lt_of_lt_of_le (by simp) hgd0
 have hgxs : q2.heap.size + 1 < gs := Nat.lt_of_lt_of_le (by simp) hgs2
 have es : ∀ o, (q2.alloc o).heap.size = q2.heap.size + 1 := fun o => by simp
 rw [es] at hgn
 clear es
 have hS0 : BR q4 gs (List.replicate N false) := BR.of_R hR4 hcs (by simp)
 have hD0 : BR q4 gd d2 := by
  have h := BR.of_R hR2 hcd hd2
  obtain ⟨ca, ha, hc⟩ := h
  exact ⟨ca, blk_grown (blk_alloc (blk_alloc ha _) _) hgr4 nofun, hc⟩
 obtain ⟨gm, egm⟩ : ∃ gm, q1.heap.size = gm := ⟨_, rfl⟩
 obtain ⟨gx, egx⟩ : ∃ gx, q2.heap.size = gx := ⟨_, rfl⟩
 have B4 : Below w.heap.size w q4 := B2.trans (hb4.mono B2.size)
 have hwm : w.heap.size ≤ gm := by rw [← egm]; exact B1.size
 rw [egm] at hgm hgmd ⊢
 rw [egx] at hgx hgn hgxs hgd1 ⊢
 clear egm egx hgr4 hR4 hgs1 hgs2 hgs0 hgd0 hb hb4 hR2 hcd hcs gmq m2 hC1
 go_loopg [81] (L.length + 1) (fun kq v81 w' => ∃ (i : Nat) (ii : Int) (nn : Nat → Int) (S D : List Bool), v81 = .int .i64 ii ∧ Aside0 (ii = (i : Int)) ∧ Aside0 (i + kq = L.length + 1 ∧ i ≤ L.length) ∧ Aside0 (Inv i nn S D) ∧ Aside0 (w'.heap[gm]? = some (.cells #[.int .i64 W, .int .i64 H, .slice A1 d1.length c1] 24 (0, 0))) ∧ Aside0 (w'.heap[gx]? = some (.cells #[.int .i64 W, .int .i64 H, .slice (some ⟨gd, 0, none⟩) N cd] 24 (0, 0))) ∧ Aside0 (w'.heap[gx + 1]? = some (.cells #[.int .i64 (nn 0), .int .i64 (nn 1), .int .i64 (nn 2), .int .i64 (nn 3)] 41 (0, 0))) ∧ Aside0 (BR w' gs S) ∧ Aside0 (BR w' gd D) ∧ Aside0 (Below w.heap.size w w'))
 case atStart => exact ⟨0, 0, fun _ => 0, _, _, rfl, ⟨rfl⟩, ⟨by omega, by omega⟩, ⟨hI0⟩, ⟨hgm⟩, ⟨hgx⟩, ⟨hgn⟩, ⟨hS0⟩, ⟨hD0⟩, ⟨B4⟩⟩
 case round =>
  clear hgm hgx hgn hS0 hD0 B4 hI0
  obtain ⟨i, ii, nn, S, D, rfl, hii, hI, hInv, Hm, Hx, Hn, HS, HD, hB⟩ := hrel
  by_cases hi : i < L.length
  ·cases gk with
   | zero => exact absurd hI.out (by omega)
   | succ k1 =>
   have hii' := hii.out
   have hi0 : 0 ≤ ii := by omega
   have hi1 : ii < (L.length : Int) := by omega
   have hInv' := hInv.out
   have Hm' := Hm.out
   have Hx' := Hx.out
   have Hn' := Hn.out
   have HS' := HS.out
   have HD' := HD.out
   have hB' := hB.out
   have F1 : Kd.C k43 wr A L.length L := Kd.C_below hL hB'
   obtain ⟨ad, eA, y0, y1, y2⟩ := at_43 F1 ii hi0 hi1
   have hsp := hI2 i hi
   rw [← hii'] at hsp
   generalize rd_43 L ii = q at hsp y0 y1 y2
   obtain ⟨qc, qb, qv⟩ := q
   simp only at y0 y1 y2
   obtain ⟨cc, hcc, hand, hcase⟩ := hsp
   simp only at hand hcase
   cases eA
   have z0 := fun o => cell_alloc_a o y0
   have z1 := fun o => cell_alloc_a o y1
   have z2 := fun o => cell_alloc_a o y2
   have m0 := fun o => cell_alloc_a o ((blk_cell Hm' 0).trans rfl)
   have dm0 := cell_dr ((blk_cell Hm' 0).trans rfl)
   have dz1 := cell_dr y1
   obtain ⟨hSl, hDl, hnb⟩ := hI1 i nn S D hInv'
   have lm := blk_lt Hm'
   have lx := blk_lt Hx'
   have ln := blk_lt Hn'
   have ls := HS'.lt
   have ld := HD'.lt
   have nem : gm ≠ wr.heap.size := by omega
   have nex : gx ≠ wr.heap.size := by omega
   have nen : gx + 1 ≠ wr.heap.size := by omega
   have nes : gs ≠ wr.heap.size := by omega
   have ned : gd ≠ wr.heap.size := by omega
   have nns : gx + 1 ≠ gs := by omega
   have nds : gd ≠ gs := by omega
   have ndn : gd ≠ gx + 1 := by omega
   have nms : gm ≠ gs := by omega
   have nmn : gm ≠ gx + 1 := by omega
   have nxs : gx ≠ gs := by omega
   have nxn : gx ≠ gx + 1 := by omega
   have nmd : gm ≠ gd := by omega
   have nxd : gx ≠ gd := by omega
   have hwd : w.heap.size ≤ gd := by omega
   have hws : w.heap.size ≤ gs := by omega
   have hwn : w.heap.size ≤ gx + 1 := by omega
   have hw : wrap64 (ii + 1) = ii + 1 := by unfold wrap64; omega
   replace hi0 := eq_true hi0
   replace hi1 := eq_true hi1
   clear hii' F1 hInv Hm Hx Hn HS HD hB hI1 hI2 hI3 hL
   rcases hcase with ⟨hno, hstep⟩ | ⟨px, py, J, ⟨hJ, hJ0, hJ1, hp0, hp1⟩, hyes⟩
   ·rcases hno with ⟨rfl, hx7⟩ | ⟨rfl, hx7⟩
    ·rcases hx7 with v1 | ⟨v1, v2⟩ | ⟨v1, v2, v3⟩
     ·go_wp2
      go_roundg k1
      case measure => have := hI.out; omega
      case rel => exact ⟨i + 1, ii + 1, nn, S, D, by first | rfl | (rw [hw]) | (simp only [i64_w, hw]), ⟨by have := hii.out; omega⟩, ⟨by have := hI.out; omega, by omega⟩, ⟨hstep nn S D hInv'⟩, ⟨blk_alloc Hm' _⟩, ⟨blk_alloc Hx' _⟩, ⟨blk_alloc Hn' _⟩, ⟨HS'.alloc _⟩, ⟨HD'.alloc _⟩, ⟨hB'.alloc hB'.size _⟩⟩
     ·go_wp2
      go_roundg k1
      case measure => have := hI.out; omega
      case rel => exact ⟨i + 1, ii + 1, nn, S, D, by first | rfl | (rw [hw]) | (simp only [i64_w, hw]), ⟨by have := hii.out; omega⟩, ⟨by have := hI.out; omega, by omega⟩, ⟨hstep nn S D hInv'⟩, ⟨blk_alloc Hm' _⟩, ⟨blk_alloc Hx' _⟩, ⟨blk_alloc Hn' _⟩, ⟨HS'.alloc _⟩, ⟨HD'.alloc _⟩, ⟨hB'.alloc hB'.size _⟩⟩
     ·go_wp2
      go_roundg k1
      case measure => have := hI.out; omega
      case rel => exact ⟨i + 1, ii + 1, nn, S, D, by first | rfl | (rw [hw]) | (simp only [i64_w, hw]), ⟨by have := hii.out; omega⟩, ⟨by have := hI.out; omega, by omega⟩, ⟨hstep nn S D hInv'⟩, ⟨blk_alloc Hm' _⟩, ⟨blk_alloc Hx' _⟩, ⟨blk_alloc Hn' _⟩, ⟨HS'.alloc _⟩, ⟨HD'.alloc _⟩, ⟨hB'.alloc hB'.size _⟩⟩
    ·rcases hx7 with v1 | ⟨v1, v2⟩
     ·go_wp2
      go_roundg k1
      case measure => have := hI.out; omega
      case rel => exact ⟨i + 1, ii + 1, nn, S, D, by first | rfl | (rw [hw]) | (simp only [i64_w, hw]), ⟨by have := hii.out; omega⟩, ⟨by have := hI.out; omega, by omega⟩, ⟨hstep nn S D hInv'⟩, ⟨blk_alloc Hm' _⟩, ⟨blk_alloc Hx' _⟩, ⟨blk_alloc Hn' _⟩, ⟨HS'.alloc _⟩, ⟨HD'.alloc _⟩, ⟨hB'.alloc hB'.size _⟩⟩
     ·go_wp2
      go_roundg k1
      case measure => have := hI.out; omega
      case rel => exact ⟨i + 1, ii + 1, nn, S, D, by first | rfl | (rw [hw]) | (simp only [i64_w, hw]), ⟨by have := hii.out; omega⟩, ⟨by have := hI.out; omega, by omega⟩, ⟨hstep nn S D hInv'⟩, ⟨blk_alloc Hm' _⟩, ⟨blk_alloc Hx' _⟩, ⟨blk_alloc Hn' _⟩, ⟨HS'.alloc _⟩, ⟨HD'.alloc _⟩, ⟨hB'.alloc hB'.size _⟩⟩
   ·rcases hyes with ⟨rfl, g7, b0, b1, hVA, hHit⟩ | ⟨rfl, b0, b1, hFA, hHit⟩
    ·rcases hcc with rfl | rfl
     ·replace hHit : Hit Inv i 2 J := hHit
      try go_wp2
      go_still_tail 8, (by kernel_rfl)
      change wpList _ _ _ _ _ (World.drew _)
      clear z0 z1 z2 m0 dm0 dz1
      go_upto_region 22 with (first | (go_at_call 21; refine (barscanref20_VersionAt.calls W 0 qb px py _ hVA).mono ?_; rintro e w5 ⟨rfl, hb5⟩; have Hp5 := blk_below (blk_drew (blk_new wr (.cells #[.int .i64 0, .int .i64 0] 45))) hb5; have Hm5 := blk_below (blk_drew (blk_alloc Hm' _)) hb5; have Hx5 := blk_below (blk_drew (blk_alloc Hx' _)) hb5; have Hn5 := blk_below (blk_drew (blk_alloc Hn' _)) hb5; have HS5 := BR.below (w := World.drew (wr.alloc (.cells #[.int .i64 0, .int .i64 0] 45))) (HS'.alloc _) hb5; have HD5 := BR.below (w := World.drew (wr.alloc (.cells #[.int .i64 0, .int .i64 0] 45))) (HD'.alloc _) hb5; have B5 : Below w.heap.size w w5 := (below_drew1 (hB'.alloc hB'.size (.cells #[.int .i64 0, .int .i64 0] 45))).trans (hb5.mono (hB'.alloc hB'.size _).size); have a0 := (blk_cell Hp5 0).trans rfl; have a1 := blk_frozen Hp5 0; have a2 := (blk_cell (blk_put Hp5 0 (.int .i64 px) rfl) 1).trans rfl; have a3 := blk_frozen (blk_put Hp5 0 (.int .i64 px) rfl) 1))
      have Hp6 := blk_put (blk_put Hp5 0 (.int .i64 px) rfl) 1 (.int .i64 py) rfl
      have Hm6 := blk_far (blk_far Hm5 (p := ⟨wr.heap.size, 0, none⟩) nem (.int .i64 px)) (p := ⟨wr.heap.size, 1, none⟩) nem (.int .i64 py)
      have Hx6 := blk_far (blk_far Hx5 (p := ⟨wr.heap.size, 0, none⟩) nex (.int .i64 px)) (p := ⟨wr.heap.size, 1, none⟩) nex (.int .i64 py)
      have Hn6 := blk_far (blk_far Hn5 (p := ⟨wr.heap.size, 0, none⟩) nen (.int .i64 px)) (p := ⟨wr.heap.size, 1, none⟩) nen (.int .i64 py)
      have HS6 := (HS5.far (p := ⟨wr.heap.size, 0, none⟩) nes (.int .i64 px)).far (p := ⟨wr.heap.size, 1, none⟩) nes (.int .i64 py)
      have HD6 := (HD5.far (p := ⟨wr.heap.size, 0, none⟩) ned (.int .i64 px)).far (p := ⟨wr.heap.size, 1, none⟩) ned (.int .i64 py)
      have B6 := (B5.setCell (p := ⟨wr.heap.size, 0, none⟩) hB'.size (.int .i64 px)).setCell (p := ⟨wr.heap.size, 1, none⟩) hB'.size (.int .i64 py)
      clear a0 a1 a2 a3 Hp5 Hm5 Hx5 Hn5 HS5 HD5 B5
      generalize (w5.setCell ⟨wr.heap.size, 0, none⟩ (.int .i64 px)).setCell ⟨wr.heap.size, 1, none⟩ (.int .i64 py) = w6 at *
      have p0 := (blk_cell Hp6 0).trans rfl
      have p1 := (blk_cell Hp6 1).trans rfl
      have p2 := (blk_cell Hm6 0).trans rfl
      have p3 := (blk_cell Hn6 2).trans rfl
      obtain ⟨p4, p5⟩ := HS6.cell J hJ0 (by omega)
      have hst := hHit nn S D hInv'
      clear hHit hVA
      by_cases c3 : nn 2 < 3
      ·cases c4 : rdOf false S J with
       | true =>
        rw [c4] at p4
        go_wp2
        go_roundg k1
        case measure => have := hI.out; omega
        case rel => exact ⟨i + 1, ii + 1, nn, S, D, by first | rfl | (rw [hw]) | (simp only [i64_w, hw]), ⟨by have := hii.out; omega⟩, ⟨by have := hI.out; omega, by omega⟩, ⟨hst.2 (Or.inr c4)⟩, ⟨Hm6⟩, ⟨Hx6⟩, ⟨Hn6⟩, ⟨HS6⟩, ⟨HD6⟩, ⟨B6⟩⟩
       | false =>
        rw [c4] at p4
        have p6 := (blk_cell (blk_far Hn6 (p := ⟨gs, J.toNat, none⟩) nns (.bool true)) 2).trans rfl
        have p7 := blk_frozen (blk_far Hn6 (p := ⟨gs, J.toNat, none⟩) nns (.bool true)) 2
        have c5 : wrap64 (nn 2 + 1) = nn 2 + 1 := by have := hnb 2 (by decide); unfold wrap64; omega
        have c6 := (i64_w (nn 2 + 1)).trans c5
        go_upto_region 26 with (fail)
        have HS8 := (HS6.put J.toNat (by omega) true).far (p := ⟨gx + 1, 2, none⟩) (fun e => nns e.symm) (.int .i64 (nn 2 + 1))
        have HD8 := (HD6.far (p := ⟨gs, J.toNat, none⟩) nds (.bool true)).far (p := ⟨gx + 1, 2, none⟩) ndn (.int .i64 (nn 2 + 1))
        have Hm8 := blk_far (blk_far Hm6 (p := ⟨gs, J.toNat, none⟩) nms (.bool true)) (p := ⟨gx + 1, 2, none⟩) nmn (.int .i64 (nn 2 + 1))
        have Hx8 := blk_far (blk_far Hx6 (p := ⟨gs, J.toNat, none⟩) nxs (.bool true)) (p := ⟨gx + 1, 2, none⟩) nxn (.int .i64 (nn 2 + 1))
        have Hn8 := blk_put (blk_far Hn6 (p := ⟨gs, J.toNat, none⟩) nns (.bool true)) 2 (.int .i64 (nn 2 + 1)) rfl
        have B8 := (B6.setCell (p := ⟨gs, J.toNat, none⟩) hws (.bool true)).setCell (p := ⟨gx + 1, 2, none⟩) hwn (.int .i64 (nn 2 + 1))
        clear p0 p1 p2 p3 p4 p5 p6 p7 HS6 HD6 Hm6 Hx6 Hn6 Hp6 B6
        generalize (w6.setCell ⟨gs, J.toNat, none⟩ (.bool true)).setCell ⟨gx + 1, 2, none⟩ (.int .i64 (nn 2 + 1)) = w8 at *
        have r0 := (blk_cell Hx8 2).trans rfl
        obtain ⟨r1, r2⟩ := HD8.cell J hJ0 (by omega)
        have dr0 := cell_dw r0
        have dr1 := cell_dw r1
        go_still_tail 10, (by kernel_rfl)
        change wpList _ _ _ _ _ (World.drew _)
        go_wp2
        go_roundg k1
        case measure => have := hI.out; omega
        case rel => exact ⟨i + 1, ii + 1, bump nn 2, _, _, by first | rfl | (rw [hw]) | (simp only [i64_w, hw]), ⟨by have := hii.out; omega⟩, ⟨by have := hI.out; omega, by omega⟩, ⟨hst.1 c3 c4⟩, ⟨blk_far (blk_drew Hm8) nmd _⟩, ⟨blk_far (blk_drew Hx8) nxd _⟩, ⟨blk_far (blk_drew Hn8) (fun e => ndn e.symm) _⟩, ⟨BR.far (w := World.drew _) HS8 (fun e => nds e.symm) _⟩, ⟨BR.put (w := World.drew _) HD8 J.toNat (by omega) _⟩, ⟨Below.setCell (below_drew1 B8) hwd _⟩⟩
      ·go_wp2
       go_roundg k1
       case measure => have := hI.out; omega
       case rel => exact ⟨i + 1, ii + 1, nn, S, D, by first | rfl | (rw [hw]) | (simp only [i64_w, hw]), ⟨by have := hii.out; omega⟩, ⟨by have := hI.out; omega, by omega⟩, ⟨hst.2 (Or.inl c3)⟩, ⟨Hm6⟩, ⟨Hx6⟩, ⟨Hn6⟩, ⟨HS6⟩, ⟨HD6⟩, ⟨B6⟩⟩
     ·replace hHit : Hit Inv i 3 J := hHit
      try go_wp2
      go_still_tail 8, (by kernel_rfl)
      change wpList _ _ _ _ _ (World.drew _)
      clear z0 z1 z2 m0 dm0 dz1
      go_upto_region 22 with (first | (go_at_call 21; refine (barscanref20_VersionAt.calls W 1 qb px py _ hVA).mono ?_; rintro e w5 ⟨rfl, hb5⟩; have Hp5 := blk_below (blk_drew (blk_new wr (.cells #[.int .i64 0, .int .i64 0] 45))) hb5; have Hm5 := blk_below (blk_drew (blk_alloc Hm' _)) hb5; have Hx5 := blk_below (blk_drew (blk_alloc Hx' _)) hb5; have Hn5 := blk_below (blk_drew (blk_alloc Hn' _)) hb5; have HS5 := BR.below (w := World.drew (wr.alloc (.cells #[.int .i64 0, .int .i64 0] 45))) (HS'.alloc _) hb5; have HD5 := BR.below (w := World.drew (wr.alloc (.cells #[.int .i64 0, .int .i64 0] 45))) (HD'.alloc _) hb5; have B5 : Below w.heap.size w w5 := (below_drew1 (hB'.alloc hB'.size (.cells #[.int .i64 0, .int .i64 0] 45))).trans (hb5.mono (hB'.alloc hB'.size _).size); have a0 := (blk_cell Hp5 0).trans rfl; have a1 := blk_frozen Hp5 0; have a2 := (blk_cell (blk_put Hp5 0 (.int .i64 px) rfl) 1).trans rfl; have a3 := blk_frozen (blk_put Hp5 0 (.int .i64 px) rfl) 1))
      have Hp6 := blk_put (blk_put Hp5 0 (.int .i64 px) rfl) 1 (.int .i64 py) rfl
      have Hm6 := blk_far (blk_far Hm5 (p := ⟨wr.heap.size, 0, none⟩) nem (.int .i64 px)) (p := ⟨wr.heap.size, 1, none⟩) nem (.int .i64 py)
      have Hx6 := blk_far (blk_far Hx5 (p := ⟨wr.heap.size, 0, none⟩) nex (.int .i64 px)) (p := ⟨wr.heap.size, 1, none⟩) nex (.int .i64 py)
      have Hn6 := blk_far (blk_far Hn5 (p := ⟨wr.heap.size, 0, none⟩) nen (.int .i64 px)) (p := ⟨wr.heap.size, 1, none⟩) nen (.int .i64 py)
      have HS6 := (HS5.far (p := ⟨wr.heap.size, 0, none⟩) nes (.int .i64 px)).far (p := ⟨wr.heap.size, 1, none⟩) nes (.int .i64 py)
      have HD6 := (HD5.far (p := ⟨wr.heap.size, 0, none⟩) ned (.int .i64 px)).far (p := ⟨wr.heap.size, 1, none⟩) ned (.int .i64 py)
      have B6 := (B5.setCell (p := ⟨wr.heap.size, 0, none⟩) hB'.size (.int .i64 px)).setCell (p := ⟨wr.heap.size, 1, none⟩) hB'.size (.int .i64 py)
      clear a0 a1 a2 a3 Hp5 Hm5 Hx5 Hn5 HS5 HD5 B5
      generalize (w5.setCell ⟨wr.heap.size, 0, none⟩ (.int .i64 px)).setCell ⟨wr.heap.size, 1, none⟩ (.int .i64 py) = w6 at *
      have p0 := (blk_cell Hp6 0).trans rfl
      have p1 := (blk_cell Hp6 1).trans rfl
      have p2 := (blk_cell Hm6 0).trans rfl
      have p3 := (blk_cell Hn6 3).trans rfl
      obtain ⟨p4, p5⟩ := HS6.cell J hJ0 (by omega)
      have hst := hHit nn S D hInv'
      clear hHit hVA
      by_cases c3 : nn 3 < 3
      ·cases c4 : rdOf false S J with
       | true =>
        rw [c4] at p4
        go_wp2
        go_roundg k1
        case measure => have := hI.out; omega
        case rel => exact ⟨i + 1, ii + 1, nn, S, D, by first | rfl | (rw [hw]) | (simp only [i64_w, hw]), ⟨by have := hii.out; omega⟩, ⟨by have := hI.out; omega, by omega⟩, ⟨hst.2 (Or.inr c4)⟩, ⟨Hm6⟩, ⟨Hx6⟩, ⟨Hn6⟩, ⟨HS6⟩, ⟨HD6⟩, ⟨B6⟩⟩
       | false =>
        rw [c4] at p4
        have p6 := (blk_cell (blk_far Hn6 (p := ⟨gs, J.toNat, none⟩) nns (.bool true)) 3).trans rfl
        have p7 := blk_frozen (blk_far Hn6 (p := ⟨gs, J.toNat, none⟩) nns (.bool true)) 3
        have c5 : wrap64 (nn 3 + 1) = nn 3 + 1 := by have := hnb 3 (by decide); unfold wrap64; omega
        have c6 := (i64_w (nn 3 + 1)).trans c5
        go_upto_region 26 with (fail)
        have HS8 := (HS6.put J.toNat (by omega) true).far (p := ⟨gx + 1, 3, none⟩) (fun e => nns e.symm) (.int .i64 (nn 3 + 1))
        have HD8 := (HD6.far (p := ⟨gs, J.toNat, none⟩) nds (.bool true)).far (p := ⟨gx + 1, 3, none⟩) ndn (.int .i64 (nn 3 + 1))
        have Hm8 := blk_far (blk_far Hm6 (p := ⟨gs, J.toNat, none⟩) nms (.bool true)) (p := ⟨gx + 1, 3, none⟩) nmn (.int .i64 (nn 3 + 1))
        have Hx8 := blk_far (blk_far Hx6 (p := ⟨gs, J.toNat, none⟩) nxs (.bool true)) (p := ⟨gx + 1, 3, none⟩) nxn (.int .i64 (nn 3 + 1))
        have Hn8 := blk_put (blk_far Hn6 (p := ⟨gs, J.toNat, none⟩) nns (.bool true)) 3 (.int .i64 (nn 3 + 1)) rfl
        have B8 := (B6.setCell (p := ⟨gs, J.toNat, none⟩) hws (.bool true)).setCell (p := ⟨gx + 1, 3, none⟩) hwn (.int .i64 (nn 3 + 1))
        clear p0 p1 p2 p3 p4 p5 p6 p7 HS6 HD6 Hm6 Hx6 Hn6 Hp6 B6
        generalize (w6.setCell ⟨gs, J.toNat, none⟩ (.bool true)).setCell ⟨gx + 1, 3, none⟩ (.int .i64 (nn 3 + 1)) = w8 at *
        have r0 := (blk_cell Hx8 2).trans rfl
        obtain ⟨r1, r2⟩ := HD8.cell J hJ0 (by omega)
        have dr0 := cell_dw r0
        have dr1 := cell_dw r1
        go_still_tail 10, (by kernel_rfl)
        change wpList _ _ _ _ _ (World.drew _)
        go_wp2
        go_roundg k1
        case measure => have := hI.out; omega
        case rel => exact ⟨i + 1, ii + 1, bump nn 3, _, _, by first | rfl | (rw [hw]) | (simp only [i64_w, hw]), ⟨by have := hii.out; omega⟩, ⟨by have := hI.out; omega, by omega⟩, ⟨hst.1 c3 c4⟩, ⟨blk_far (blk_drew Hm8) nmd _⟩, ⟨blk_far (blk_drew Hx8) nxd _⟩, ⟨blk_far (blk_drew Hn8) (fun e => ndn e.symm) _⟩, ⟨BR.far (w := World.drew _) HS8 (fun e => nds e.symm) _⟩, ⟨BR.put (w := World.drew _) HD8 J.toNat (by omega) _⟩, ⟨Below.setCell (below_drew1 B8) hwd _⟩⟩
      ·go_wp2
       go_roundg k1
       case measure => have := hI.out; omega
       case rel => exact ⟨i + 1, ii + 1, nn, S, D, by first | rfl | (rw [hw]) | (simp only [i64_w, hw]), ⟨by have := hii.out; omega⟩, ⟨by have := hI.out; omega, by omega⟩, ⟨hst.2 (Or.inl c3)⟩, ⟨Hm6⟩, ⟨Hx6⟩, ⟨Hn6⟩, ⟨HS6⟩, ⟨HD6⟩, ⟨B6⟩⟩
    ·rcases hcc with rfl | rfl
     ·replace hHit : Hit Inv i 0 J := hHit
      try go_wp2
      go_still_tail 8, (by kernel_rfl)
      change wpList _ _ _ _ _ (World.drew _)
      clear z0 z1 z2 m0 dm0 dz1
      go_upto_region 22 with (first | (go_at_call 22; refine (barscanref20_FormatAt.calls k W 0 qb px py _ hFA).mono ?_; rintro e w5 ⟨rfl, hb5⟩; have Hp5 := blk_below (blk_drew (blk_new wr (.cells #[.int .i64 0, .int .i64 0] 45))) hb5; have Hm5 := blk_below (blk_drew (blk_alloc Hm' _)) hb5; have Hx5 := blk_below (blk_drew (blk_alloc Hx' _)) hb5; have Hn5 := blk_below (blk_drew (blk_alloc Hn' _)) hb5; have HS5 := BR.below (w := World.drew (wr.alloc (.cells #[.int .i64 0, .int .i64 0] 45))) (HS'.alloc _) hb5; have HD5 := BR.below (w := World.drew (wr.alloc (.cells #[.int .i64 0, .int .i64 0] 45))) (HD'.alloc _) hb5; have B5 : Below w.heap.size w w5 := (below_drew1 (hB'.alloc hB'.size (.cells #[.int .i64 0, .int .i64 0] 45))).trans (hb5.mono (hB'.alloc hB'.size _).size); have a0 := (blk_cell Hp5 0).trans rfl; have a1 := blk_frozen Hp5 0; have a2 := (blk_cell (blk_put Hp5 0 (.int .i64 px) rfl) 1).trans rfl; have a3 := blk_frozen (blk_put Hp5 0 (.int .i64 px) rfl) 1))
      have Hp6 := blk_put (blk_put Hp5 0 (.int .i64 px) rfl) 1 (.int .i64 py) rfl
      have Hm6 := blk_far (blk_far Hm5 (p := ⟨wr.heap.size, 0, none⟩) nem (.int .i64 px)) (p := ⟨wr.heap.size, 1, none⟩) nem (.int .i64 py)
      have Hx6 := blk_far (blk_far Hx5 (p := ⟨wr.heap.size, 0, none⟩) nex (.int .i64 px)) (p := ⟨wr.heap.size, 1, none⟩) nex (.int .i64 py)
      have Hn6 := blk_far (blk_far Hn5 (p := ⟨wr.heap.size, 0, none⟩) nen (.int .i64 px)) (p := ⟨wr.heap.size, 1, none⟩) nen (.int .i64 py)
      have HS6 := (HS5.far (p := ⟨wr.heap.size, 0, none⟩) nes (.int .i64 px)).far (p := ⟨wr.heap.size, 1, none⟩) nes (.int .i64 py)
      have HD6 := (HD5.far (p := ⟨wr.heap.size, 0, none⟩) ned (.int .i64 px)).far (p := ⟨wr.heap.size, 1, none⟩) ned (.int .i64 py)
      have B6 := (B5.setCell (p := ⟨wr.heap.size, 0, none⟩) hB'.size (.int .i64 px)).setCell (p := ⟨wr.heap.size, 1, none⟩) hB'.size (.int .i64 py)
      clear a0 a1 a2 a3 Hp5 Hm5 Hx5 Hn5 HS5 HD5 B5
      generalize (w5.setCell ⟨wr.heap.size, 0, none⟩ (.int .i64 px)).setCell ⟨wr.heap.size, 1, none⟩ (.int .i64 py) = w6 at *
      have p0 := (blk_cell Hp6 0).trans rfl
      have p1 := (blk_cell Hp6 1).trans rfl
      have p2 := (blk_cell Hm6 0).trans rfl
      have p3 := (blk_cell Hn6 0).trans rfl
      obtain ⟨p4, p5⟩ := HS6.cell J hJ0 (by omega)
      have hst := hHit nn S D hInv'
      clear hHit hFA
      by_cases c3 : nn 0 < 3
      ·cases c4 : rdOf false S J with
       | true =>
        rw [c4] at p4
        go_wp2
        go_roundg k1
        case measure => have := hI.out; omega
        case rel => exact ⟨i + 1, ii + 1, nn, S, D, by first | rfl | (rw [hw]) | (simp only [i64_w, hw]), ⟨by have := hii.out; omega⟩, ⟨by have := hI.out; omega, by omega⟩, ⟨hst.2 (Or.inr c4)⟩, ⟨Hm6⟩, ⟨Hx6⟩, ⟨Hn6⟩, ⟨HS6⟩, ⟨HD6⟩, ⟨B6⟩⟩
       | false =>
        rw [c4] at p4
        have p6 := (blk_cell (blk_far Hn6 (p := ⟨gs, J.toNat, none⟩) nns (.bool true)) 0).trans rfl
        have p7 := blk_frozen (blk_far Hn6 (p := ⟨gs, J.toNat, none⟩) nns (.bool true)) 0
        have c5 : wrap64 (nn 0 + 1) = nn 0 + 1 := by have := hnb 0 (by decide); unfold wrap64; omega
        have c6 := (i64_w (nn 0 + 1)).trans c5
        go_upto_region 26 with (fail)
        have HS8 := (HS6.put J.toNat (by omega) true).far (p := ⟨gx + 1, 0, none⟩) (fun e => nns e.symm) (.int .i64 (nn 0 + 1))
        have HD8 := (HD6.far (p := ⟨gs, J.toNat, none⟩) nds (.bool true)).far (p := ⟨gx + 1, 0, none⟩) ndn (.int .i64 (nn 0 + 1))
        have Hm8 := blk_far (blk_far Hm6 (p := ⟨gs, J.toNat, none⟩) nms (.bool true)) (p := ⟨gx + 1, 0, none⟩) nmn (.int .i64 (nn 0 + 1))
        have Hx8 := blk_far (blk_far Hx6 (p := ⟨gs, J.toNat, none⟩) nxs (.bool true)) (p := ⟨gx + 1, 0, none⟩) nxn (.int .i64 (nn 0 + 1))
        have Hn8 := blk_put (blk_far Hn6 (p := ⟨gs, J.toNat, none⟩) nns (.bool true)) 0 (.int .i64 (nn 0 + 1)) rfl
        have B8 := (B6.setCell (p := ⟨gs, J.toNat, none⟩) hws (.bool true)).setCell (p := ⟨gx + 1, 0, none⟩) hwn (.int .i64 (nn 0 + 1))
        clear p0 p1 p2 p3 p4 p5 p6 p7 HS6 HD6 Hm6 Hx6 Hn6 Hp6 B6
        generalize (w6.setCell ⟨gs, J.toNat, none⟩ (.bool true)).setCell ⟨gx + 1, 0, none⟩ (.int .i64 (nn 0 + 1)) = w8 at *
        have r0 := (blk_cell Hx8 2).trans rfl
        obtain ⟨r1, r2⟩ := HD8.cell J hJ0 (by omega)
        have dr0 := cell_dw r0
        have dr1 := cell_dw r1
        go_still_tail 10, (by kernel_rfl)
        change wpList _ _ _ _ _ (World.drew _)
        go_wp2
        go_roundg k1
        case measure => have := hI.out; omega
        case rel => exact ⟨i + 1, ii + 1, bump nn 0, _, _, by first | rfl | (rw [hw]) | (simp only [i64_w, hw]), ⟨by have := hii.out; omega⟩, ⟨by have := hI.out; omega, by omega⟩, ⟨hst.1 c3 c4⟩, ⟨blk_far (blk_drew Hm8) nmd _⟩, ⟨blk_far (blk_drew Hx8) nxd _⟩, ⟨blk_far (blk_drew Hn8) (fun e => ndn e.symm) _⟩, ⟨BR.far (w := World.drew _) HS8 (fun e => nds e.symm) _⟩, ⟨BR.put (w := World.drew _) HD8 J.toNat (by omega) _⟩, ⟨Below.setCell (below_drew1 B8) hwd _⟩⟩
      ·go_wp2
       go_roundg k1
       case measure => have := hI.out; omega
       case rel => exact ⟨i + 1, ii + 1, nn, S, D, by first | rfl | (rw [hw]) | (simp only [i64_w, hw]), ⟨by have := hii.out; omega⟩, ⟨by have := hI.out; omega, by omega⟩, ⟨hst.2 (Or.inl c3)⟩, ⟨Hm6⟩, ⟨Hx6⟩, ⟨Hn6⟩, ⟨HS6⟩, ⟨HD6⟩, ⟨B6⟩⟩
     ·replace hHit : Hit Inv i 1 J := hHit
      try go_wp2
      go_still_tail 8, (by kernel_rfl)
      change wpList _ _ _ _ _ (World.drew _)
      clear z0 z1 z2 m0 dm0 dz1
      go_upto_region 22 with (first | (go_at_call 22; refine (barscanref20_FormatAt.calls k W 1 qb px py _ hFA).mono ?_; rintro e w5 ⟨rfl, hb5⟩; have Hp5 := blk_below (blk_drew (blk_new wr (.cells #[.int .i64 0, .int .i64 0] 45))) hb5; have Hm5 := blk_below (blk_drew (blk_alloc Hm' _)) hb5; have Hx5 := blk_below (blk_drew (blk_alloc Hx' _)) hb5; have Hn5 := blk_below (blk_drew (blk_alloc Hn' _)) hb5; have HS5 := BR.below (w := World.drew (wr.alloc (.cells #[.int .i64 0, .int .i64 0] 45))) (HS'.alloc _) hb5; have HD5 := BR.below (w := World.drew (wr.alloc (.cells #[.int .i64 0, .int .i64 0] 45))) (HD'.alloc _) hb5; have B5 : Below w.heap.size w w5 := (below_drew1 (hB'.alloc hB'.size (.cells #[.int .i64 0, .int .i64 0] 45))).trans (hb5.mono (hB'.alloc hB'.size _).size); have a0 := (blk_cell Hp5 0).trans rfl; have a1 := blk_frozen Hp5 0; have a2 := (blk_cell (blk_put Hp5 0 (.int .i64 px) rfl) 1).trans rfl; have a3 := blk_frozen (blk_put Hp5 0 (.int .i64 px) rfl) 1))
      have Hp6 := blk_put (blk_put Hp5 0 (.int .i64 px) rfl) 1 (.int .i64 py) rfl
      have Hm6 := blk_far (blk_far Hm5 (p := ⟨wr.heap.size, 0, none⟩) nem (.int .i64 px)) (p := ⟨wr.heap.size, 1, none⟩) nem (.int .i64 py)
      have Hx6 := blk_far (blk_far Hx5 (p := ⟨wr.heap.size, 0, none⟩) nex (.int .i64 px)) (p := ⟨wr.heap.size, 1, none⟩) nex (.int .i64 py)
      have Hn6 := blk_far (blk_far Hn5 (p := ⟨wr.heap.size, 0, none⟩) nen (.int .i64 px)) (p := ⟨wr.heap.size, 1, none⟩) nen (.int .i64 py)
      have HS6 := (HS5.far (p := ⟨wr.heap.size, 0, none⟩) nes (.int .i64 px)).far (p := ⟨wr.heap.size, 1, none⟩) nes (.int .i64 py)
      have HD6 := (HD5.far (p := ⟨wr.heap.size, 0, none⟩) ned (.int .i64 px)).far (p := ⟨wr.heap.size, 1, none⟩) ned (.int .i64 py)
      have B6 := (B5.setCell (p := ⟨wr.heap.size, 0, none⟩) hB'.size (.int .i64 px)).setCell (p := ⟨wr.heap.size, 1, none⟩) hB'.size (.int .i64 py)
      clear a0 a1 a2 a3 Hp5 Hm5 Hx5 Hn5 HS5 HD5 B5
      generalize (w5.setCell ⟨wr.heap.size, 0, none⟩ (.int .i64 px)).setCell ⟨wr.heap.size, 1, none⟩ (.int .i64 py) = w6 at *
      have p0 := (blk_cell Hp6 0).trans rfl
      have p1 := (blk_cell Hp6 1).trans rfl
      have p2 := (blk_cell Hm6 0).trans rfl
      have p3 := (blk_cell Hn6 1).trans rfl
      obtain ⟨p4, p5⟩ := HS6.cell J hJ0 (by omega)
      have hst := hHit nn S D hInv'
      clear hHit hFA
      by_cases c3 : nn 1 < 3
      ·cases c4 : rdOf false S J with
       | true =>
        rw [c4] at p4
        go_wp2
        go_roundg k1
        case measure => have := hI.out; omega
        case rel => exact ⟨i + 1, ii + 1, nn, S, D, by first | rfl | (rw [hw]) | (simp only [i64_w, hw]), ⟨by have := hii.out; omega⟩, ⟨by have := hI.out; omega, by omega⟩, ⟨hst.2 (Or.inr c4)⟩, ⟨Hm6⟩, ⟨Hx6⟩, ⟨Hn6⟩, ⟨HS6⟩, ⟨HD6⟩, ⟨B6⟩⟩
       | false =>
        rw [c4] at p4
        have p6 := (blk_cell (blk_far Hn6 (p := ⟨gs, J.toNat, none⟩) nns (.bool true)) 1).trans rfl
        have p7 := blk_frozen (blk_far Hn6 (p := ⟨gs, J.toNat, none⟩) nns (.bool true)) 1
        have c5 : wrap64 (nn 1 + 1) = nn 1 + 1 := by have := hnb 1 (by decide); unfold wrap64; omega
        have c6 := (i64_w (nn 1 + 1)).trans c5
        go_upto_region 26 with (fail)
        have HS8 := (HS6.put J.toNat (by omega) true).far (p := ⟨gx + 1, 1, none⟩) (fun e => nns e.symm) (.int .i64 (nn 1 + 1))
        have HD8 := (HD6.far (p := ⟨gs, J.toNat, none⟩) nds (.bool true)).far (p := ⟨gx + 1, 1, none⟩) ndn (.int .i64 (nn 1 + 1))
        have Hm8 := blk_far (blk_far Hm6 (p := ⟨gs, J.toNat, none⟩) nms (.bool true)) (p := ⟨gx + 1, 1, none⟩) nmn (.int .i64 (nn 1 + 1))
        have Hx8 := blk_far (blk_far Hx6 (p := ⟨gs, J.toNat, none⟩) nxs (.bool true)) (p := ⟨gx + 1, 1, none⟩) nxn (.int .i64 (nn 1 + 1))
        have Hn8 := blk_put (blk_far Hn6 (p := ⟨gs, J.toNat, none⟩) nns (.bool true)) 1 (.int .i64 (nn 1 + 1)) rfl
        have B8 := (B6.setCell (p := ⟨gs, J.toNat, none⟩) hws (.bool true)).setCell (p := ⟨gx + 1, 1, none⟩) hwn (.int .i64 (nn 1 + 1))
        clear p0 p1 p2 p3 p4 p5 p6 p7 HS6 HD6 Hm6 Hx6 Hn6 Hp6 B6
        generalize (w6.setCell ⟨gs, J.toNat, none⟩ (.bool true)).setCell ⟨gx + 1, 1, none⟩ (.int .i64 (nn 1 + 1)) = w8 at *
        have r0 := (blk_cell Hx8 2).trans rfl
        obtain ⟨r1, r2⟩ := HD8.cell J hJ0 (by omega)
        have dr0 := cell_dw r0
        have dr1 := cell_dw r1
        go_still_tail 10, (by kernel_rfl)
        change wpList _ _ _ _ _ (World.drew _)
        go_wp2
        go_roundg k1
        case measure => have := hI.out; omega
        case rel => exact ⟨i + 1, ii + 1, bump nn 1, _, _, by first | rfl | (rw [hw]) | (simp only [i64_w, hw]), ⟨by have := hii.out; omega⟩, ⟨by have := hI.out; omega, by omega⟩, ⟨hst.1 c3 c4⟩, ⟨blk_far (blk_drew Hm8) nmd _⟩, ⟨blk_far (blk_drew Hx8) nxd _⟩, ⟨blk_far (blk_drew Hn8) (fun e => ndn e.symm) _⟩, ⟨BR.far (w := World.drew _) HS8 (fun e => nds e.symm) _⟩, ⟨BR.put (w := World.drew _) HD8 J.toNat (by omega) _⟩, ⟨Below.setCell (below_drew1 B8) hwd _⟩⟩
      ·go_wp2
       go_roundg k1
       case measure => have := hI.out; omega
       case rel => exact ⟨i + 1, ii + 1, nn, S, D, by first | rfl | (rw [hw]) | (simp only [i64_w, hw]), ⟨by have := hii.out; omega⟩, ⟨by have := hI.out; omega, by omega⟩, ⟨hst.2 (Or.inl c3)⟩, ⟨Hm6⟩, ⟨Hx6⟩, ⟨Hn6⟩, ⟨HS6⟩, ⟨HD6⟩, ⟨B6⟩⟩
  ·have hii1 : ¬ ii < (L.length : Int) := by have := hii.out; omega
   have hie : i = L.length := by have := hI.out; omega
   subst hie
   have hInv' := hInv.out
   have Hx' := Hx.out
   have HD' := HD.out
   have hB' := hB.out
   have hR := hI3 nn S D hInv'
   obtain ⟨hSl, hDl, hnb⟩ := hI1 _ nn S D hInv'
   have FD := HD'.C (by omega)
   have y0 := (blk_cell Hx' 0).trans rfl
   have y1 := (blk_cell Hx' 1).trans rfl
   have y2 := (blk_cell Hx' 2).trans rfl
   clear hii hI hInv Hm Hx Hn HS HD hB hI1 hI2 hI3 hInv'
   subst hDl
   go_wp2_with (first
    | (go_at_call 19; refine (qrlayout_Read.calls k W H (some ⟨gd, 0, none⟩) cd D x0 x1 x2 0 _ FD hcd9 hR).mono ?_; rintro e w5 ⟨rfl, hb5⟩; have B5 := hB'.trans (hb5.mono hB'.size))
    | (go_at_call 11; refine (barscanlaw20_alive.calls true _ rfl).mono ?_; rintro e w7 ⟨rfl, hb7⟩; have D7 := B5.trans (hb7.mono B5.size)))
   go_ret
   exact ⟨rfl, D7⟩
end Go.Proofs.Ytbbnagjfjgkgjaa.L
