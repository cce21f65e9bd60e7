/- The law of Covers, walked. -/
import Derived.RangeFuncBox
import Derived.Test.YtbbnagjfjgkgjaaK7Lc0
import Derived.Test.YtbbnagjfjgkgjaaK7Lx15
import Derived.Test.YtbbnagjfjgkgjaaK7Lv0
import Derived.Test.YtbbnagjfjgkgjaaK7Alv
namespace Go.Proofs.Ytbbnagjfjgkgjaa.L
open Go.RowKit Go.Proofs.YtbbnagjfjgkgjaaW.PrintWords Go.Proofs.YtbbnagjfjgkgjaaW.PrintLast Go.Proofs.YtbbnagjfjgkgjaaW.PrintMore
set_option linter.unusedVariables false
set_option linter.unusedSimpArgs false

set_option maxRecDepth 100000 in
set_option maxHeartbeats 8000000 in
/-- The law's walk at a version that is none. -/
theorem law7_no (k : Nat) (v : Int) (w : World) (h1 : qrlayout_Cells.f k v = some ([], 14)) (h2 : qrlayout_Path.f k v = some ([], 14)) (h3 : barscanref17_Codewords.f k v = some (0, 0, 14)) :
  Calls Try.prog 7 #[.int .i64 v] w fun e w' => e = .returned (.bool true) ∧ Below w.heap.size w w' := by
 go_enter Try.func7, Try.ntmps7
 go_wp2_with (first
  | (go_at_call 23; refine (qrlayout_Cells.calls k v [] 14 _ h1).mono ?_; rintro e w1 ⟨v1, rfl, hR1, hb1⟩; obtain ⟨A1, c1, rfl, hc1, hC1⟩ := Kd.R_reads hR1; clear hR1)
  | (go_at_call 25; refine (qrlayout_Path.calls k v [] 14 _ h2).mono ?_; rintro e w2 ⟨v2, rfl, hR2, hb2⟩; obtain ⟨A2, c2, rfl, hc2, hC2⟩ := Kd.R_reads hR2; clear hR2)
  | (go_at_call 28; refine (barscanref17_Codewords.calls k v 0 0 14 _ h3).mono ?_; rintro e w3 ⟨rfl, hb3⟩)
  | (go_at_call 11; refine (barscanlaw20_alive.calls true _ rfl).mono ?_; rintro e w7 ⟨rfl, hb7⟩; have B2 := hb1.trans (hb2.mono hb1.size); have B3 := B2.trans (hb3.mono B2.size); have D7 := B3.trans (hb7.mono B3.size)))
 go_ret
 exact ⟨rfl, D7⟩

def seenT (S : Int) (P : List S45) (N i : Nat) : List Bool := (List.range N).map fun j : Nat => (P.take i).any fun p => p.f1 * S + p.f0 == (j : Int)
theorem seenT_zero (S : Int) (P : List S45) (N : Nat) : seenT S P N 0 = List.replicate N false := by
 refine List.ext_getElem (by simp [seenT]) fun j h1 h2 => ?_
 simp [seenT]
theorem rdT_mem (P : List S45) (i : Nat) (h : i < P.length) : rd_T45 P (i : Int) ∈ P := by
 have : rd_T45 P (i : Int) = P[i] := by simp [rd_T45, List.getD_eq_getElem?_getD, h]
 rw [this]
 exact List.getElem_mem h
theorem seenT_get (S : Int) (P : List S45) (N i : Nat) (J : Int) (h0 : 0 ≤ J) (h1 : J < (N : Int)) : rdOf false (seenT S P N i) J = (P.take i).any fun p => p.f1 * S + p.f0 == J := by
 obtain ⟨j, rfl⟩ := Int.eq_ofNat_of_zero_le h0
 have hj : j < N := by omega
 simp [rdOf, seenT, List.getD_eq_getElem?_getD, hj]
theorem seenT_succ (S : Int) (P : List S45) (N i : Nat) (h : i < P.length) (h0 : 0 ≤ (rd_T45 P (i : Int)).f1 * S + (rd_T45 P (i : Int)).f0) : seenT S P N (i + 1) = (seenT S P N i).set ((rd_T45 P (i : Int)).f1 * S + (rd_T45 P (i : Int)).f0).toNat true := by
 have e : rd_T45 P (i : Int) = P[i] := by simp [rd_T45, List.getD_eq_getElem?_getD, h]
 rw [e] at h0 ⊢
 refine List.ext_getElem (by simp [seenT]) fun j h1 h2 => ?_
 rw [List.getElem_set]
 simp only [seenT, List.getElem_map, List.getElem_range]
 rw [List.take_add_one, List.getElem?_eq_getElem h, List.any_append]
 simp only [Option.toList_some, List.any_cons, List.any_nil, Bool.or_false]
 by_cases hj : (P[i].f1 * S + P[i].f0).toNat = j
 ·rw [if_pos hj]
  have : P[i].f1 * S + P[i].f0 = (j : Int) := by omega
  rw [this]
  simp
 ·rw [if_neg hj]
  have : ¬ P[i].f1 * S + P[i].f0 = (j : Int) := by omega
  simp [this]
theorem countT (G : List Int) (j : Nat) (h : j < G.length) : ∀ c : Int, (((G.take (j + 1)).count c : Nat) : Int) = ((G.take j).count c : Nat) + if rd G (j : Int) = c then 1 else 0 := by
 intro c
 have e : rd G (j : Int) = G[j] := by simp [rd, List.getD_eq_getElem?_getD, h]
 rw [e, List.take_add_one, List.count_append, List.getElem?_eq_getElem h]
 simp only [Option.toList_some, List.count_singleton, beq_iff_eq]
 split <;> simp_all
theorem countT_all {G : List Int} {j : Nat} {m1 m2 m3 m4 m5 m6 m7 c : Int} (h : m1 = ((G.take j).count 1 : Nat) ∧ m2 = ((G.take j).count 2 : Nat) ∧ m3 = ((G.take j).count 3 : Nat) ∧ m4 = ((G.take j).count 4 : Nat) ∧ m5 = ((G.take j).count 5 : Nat) ∧ m6 = ((G.take j).count 6 : Nat) ∧ m7 = ((G.take j).count 7 : Nat))
  (hc : ∀ d : Int, (((G.take (j + 1)).count d : Nat) : Int) = ((G.take j).count d : Nat) + if c = d then 1 else 0) {p1 p2 p3 p4 p5 p6 p7 : Int} (hp : p1 = m1 + (if c = 1 then 1 else 0) ∧ p2 = m2 + (if c = 2 then 1 else 0) ∧ p3 = m3 + (if c = 3 then 1 else 0) ∧ p4 = m4 + (if c = 4 then 1 else 0) ∧ p5 = m5 + (if c = 5 then 1 else 0) ∧ p6 = m6 + (if c = 6 then 1 else 0) ∧ p7 = m7 + (if c = 7 then 1 else 0)) :
  p1 = ((G.take (j + 1)).count 1 : Nat) ∧ p2 = ((G.take (j + 1)).count 2 : Nat) ∧ p3 = ((G.take (j + 1)).count 3 : Nat) ∧ p4 = ((G.take (j + 1)).count 4 : Nat) ∧ p5 = ((G.take (j + 1)).count 5 : Nat) ∧ p6 = ((G.take (j + 1)).count 6 : Nat) ∧ p7 = ((G.take (j + 1)).count 7 : Nat) := by
 obtain ⟨a1, a2, a3, a4, a5, a6, a7⟩ := h
 obtain ⟨b1, b2, b3, b4, b5, b6, b7⟩ := hp
 subst a1 a2 a3 a4 a5 a6 a7
 exact ⟨b1.trans (hc 1).symm, b2.trans (hc 2).symm, b3.trans (hc 3).symm, b4.trans (hc 4).symm, b5.trans (hc 5).symm, b6.trans (hc 6).symm, b7.trans (hc 7).symm⟩
theorem wrapQ (L : Nat) (h : L ≤ 7) : ∃ Q Q3 R : Int, wrap64 ((L : Int) * (L : Int)) = Q ∧ wrap64 (Q - 3) = Q3 ∧ wrap64 (25 * Q3) = R ∧ 25 * ((L : Int) * (L : Int) - 3) = R := by
 have : L = 0 ∨ L = 1 ∨ L = 2 ∨ L = 3 ∨ L = 4 ∨ L = 5 ∨ L = 6 ∨ L = 7 := by omega
 rcases this with rfl | rfl | rfl | rfl | rfl | rfl | rfl | rfl <;> exact ⟨_, _, _, rfl, rfl, rfl, by decide +kernel⟩
theorem takeC_le (G : List Int) (j : Nat) (c : Int) : (G.take j).count c ≤ j := Nat.le_trans List.count_le_length (by simp; omega)
set_option maxRecDepth 100000 in
set_option maxHeartbeats 8000000 in
/-- The law's walk at a version. -/
theorem law7_yes (k : Nat) (v n r S : Int) (N : Nat) (G : List Int) (P : List S45) (al : List Int) (ea : Int) (w : World) (hv : 1 ≤ v ∧ v ≤ 40) (hS : S = 17 + 4 * v) (hN : S * S = (N : Int))
  (h1 : qrlayout_Cells.f k v = some (G, 0)) (h2 : qrlayout_Path.f k v = some (P, 0)) (h3 : barscanref17_Codewords.f k v = some (n, r, 0)) (h4 : barscanref17_Aligns.f k v = some (al, ea))
  (hn : 0 ≤ n ∧ n ≤ 4000 ∧ 0 ≤ r ∧ r ≤ 7) (hG : G.length = N) (hP : (P.length : Int) = 8 * n + r)
  (hp : ∀ p ∈ P, (0 ≤ p.f0 ∧ p.f0 < S) ∧ (0 ≤ p.f1 ∧ p.f1 < S) ∧ rd G (p.f1 * S + p.f0) = 1)
  (hd : ∀ i, i < P.length → ((P.take i).any fun q => q.f1 * S + q.f0 == (rd_T45 P (i : Int)).f1 * S + (rd_T45 P (i : Int)).f0) = false)
  (hJ0 : ∀ x y : Int, (0 ≤ x ∧ x < S) → (0 ≤ y ∧ y < S) → 0 ≤ y * S + x ∧ y * S + x < (N : Int))
  (hg : ∀ j : Nat, j < N → 1 ≤ rd G (j : Int) ∧ rd G (j : Int) ≤ 7) (hsn : ∀ j : Nat, j < N → ((∃ p ∈ P, p.f1 * S + p.f0 = (j : Int)) ↔ rd G (j : Int) = 1))
  (hL : al.length ≤ 7) (kc2 : (G.count 2 : Int) = 192) (kc4 : (G.count 4 : Int) = if 0 < al.length then 25 * ((al.length : Int) * (al.length : Int) - 3) else 0) (kc5 : (G.count 5 : Int) = 30) (kc6 : (G.count 6 : Int) = if 7 ≤ v then 36 else 0) (kc7 : (G.count 7 : Int) = 1) :
  Calls Try.prog 7 #[.int .i64 v] w fun e w' => e = .returned (.bool true) ∧ Below w.heap.size w w' := by
 have w1 : wrap64 (4 * v) = 4 * v := by unfold wrap64; omega
 have w2 : wrap64 (17 + 4 * v) = S := by unfold wrap64; omega
 have hNb : N ≤ 40000 := by
  have hSb : 21 ≤ S ∧ S ≤ 177 := by omega
  clear hS w1 w2
  have h := Int.mul_le_mul (a := S) (b := S) (c := 200) (d := 200) (by omega) (by omega) (by omega) (by omega)
  rw [hN] at h
  omega
 have hSb : 21 ≤ S ∧ S ≤ 177 := by omega
 have hN0 : 0 < N := by
  have hSb : 21 ≤ S ∧ S ≤ 177 := by omega
  clear hS w1 w2
  have h := Int.mul_le_mul (a := 21) (b := 21) (c := S) (d := S) (by omega) (by omega) (by omega) (by omega)
  rw [hN] at h
  omega
 have w3 : wrap64 (S * S) = (N : Int) := by rw [hN]; unfold wrap64; omega
 have w4 : wrap64 (8 * n) = 8 * n := by unfold wrap64; omega
 have w5 : wrap64 (8 * n + r) = (P.length : Int) := by unfold wrap64; omega
 have hG' : (G.length : Int) = (N : Int) := by rw [hG]
 have z3 : IntKind.i64.wrap (S * S) = (N : Int) := (i64_w _).trans w3
 replace hP := hP.symm
 clear hN
 subst hS
 have hu45 := Try.underlying45
 go_enter Try.func7, Try.ntmps7
 go_wp2_with (first
  | (go_at_call 23; refine (qrlayout_Cells.calls k v G 0 _ h1).mono ?_; rintro e q1 ⟨v1, rfl, hR1, hb1⟩; obtain ⟨A1, c1, rfl, hc1, hC1⟩ := Kd.R_reads hR1; clear hR1)
  | (go_at_call 25; refine (qrlayout_Path.calls k v P 0 _ h2).mono ?_; rintro e q2 ⟨v2, rfl, hR2, hb2⟩; obtain ⟨A2, c2, rfl, hc2, hC2⟩ := Kd.R_reads hR2; clear hR2; have C1 := Kd.C_below hC1 hb2)
  | (go_at_call 28; refine (barscanref17_Codewords.calls k v n r 0 _ h3).mono ?_; rintro e q3 ⟨rfl, hb3⟩; have D1 := Kd.C_below C1 hb3; have D2 := Kd.C_below hC2 hb3; have B2 := hb1.trans (hb2.mono hb1.size); have B3 := B2.trans (hb3.mono B2.size))
  | ((with_reducible refine gate_dst (N := 79) rfl ?_); refine Kd.R_make Kd.bool q3.heap.size 4 rfl (N := 79) rfl 22 _ _ rfl (N : Int) (by first | rfl | (show Value.int .i64 _ = _; rw [z3]) | trace_state) (by first | rfl | (show Value.int .i64 _ = _; rw [z3])) Try.underlying22 (.bool false) 1 info4 rfl (by decide) (by omega) false (ok := fun _ => True) (okp := fun _ => True) rfl (fun _ hk => hk) trivial (by omega) (by simp only [Int.toNat_natCast]; omega) (Below.refl _ _) (Nat.le_refl _) ?_; intro v3 q4 hR4 hb4 _ _; obtain ⟨g, cap, rfl, hg0, hg1, cells4, hcl4⟩ := Kd.R_form hR4 (by simp only [List.length_replicate, Int.toNat_natCast]; omega); rw [List.length_replicate, Int.toNat_natCast] at hR4; have E1 := Kd.C_below D1 hb4; have E2 := Kd.C_below D2 hb4))
 go_loopg [82] (P.length + 1) (fun kq v82 w' => ∃ (i : Nat) (ii : Int), v82 = .int .i64 ii ∧ Aside0 (ii = (i : Int)) ∧ Aside0 (i + kq = P.length + 1 ∧ i ≤ P.length) ∧ Aside0 (Kd.R Kd.bool 4 w' q3.heap.size (fun _ => True) (.slice (some ⟨g, 0, none⟩) N cap) (seenT (17 + 4 * v) P N i)) ∧ Aside0 (Below q3.heap.size q3 w'))
 case atStart => exact ⟨0, 0, rfl, ⟨rfl⟩, ⟨by omega, by omega⟩, ⟨by rw [seenT_zero]; exact hR4⟩, ⟨hb4⟩⟩
 case round =>
  obtain ⟨i, ii, rfl, hii, hI, hR, hB⟩ := hrel
  by_cases hi : i < P.length
  ·cases gk with
   | zero => exact absurd hI.out (by omega)
   | succ k1 =>
   have hR' := hR.out
   have hB' := hB.out
   have F1 := Kd.C_below D1 hB'
   have F2 := Kd.C_below D2 hB'
   have hmem := hp (rd_T45 P (i : Int)) (rdT_mem P i hi)
   have hdi := hd i hi
   have hi0 : 0 ≤ ii := by have := hii.out; omega
   have hi1 : ii < (P.length : Int) := by have := hii.out; omega
   obtain ⟨ad2, e2, x0, x1⟩ := at_T45 F2 ii hi0 hi1
   rw [hii.out] at x0 x1
   rw [show ((i : Int)).toNat = ii.toNat by rw [hii.out]] at x0 x1
   have hstep := seenT_succ (17 + 4 * v) P N i hi (hJ0 _ _ hmem.1 hmem.2.1).1
   generalize (rd_T45 P (i : Int)) = p at x0 x1 hmem hdi hstep
   obtain ⟨px, py⟩ := p
   obtain ⟨hx, hy, hgr⟩ := hmem
   simp only at x0 x1 hx hy hgr hdi hstep
   have hy1 : py * (17 + 4 * v) ≤ 40000 := by
    have := Int.mul_le_mul (a := py) (b := 17 + 4 * v) (c := 200) (d := 200) (by omega) (by omega) (by omega) (by omega)
    omega
   have hy0 : 0 ≤ py * (17 + 4 * v) := Int.mul_nonneg hy.1 (by omega)
   have y1 : wrap64 (py * (17 + 4 * v)) = py * (17 + 4 * v) := by unfold wrap64; omega
   have y2 : wrap64 (py * (17 + 4 * v) + px) = py * (17 + 4 * v) + px := by unfold wrap64; omega
   have hJ := hJ0 px py hx hy
   obtain ⟨J, hJe⟩ : ∃ J, py * (17 + 4 * v) + px = J := ⟨_, rfl⟩
   rw [hJe] at y2 hgr hdi hstep hJ
   obtain ⟨ad1, e1, x2⟩ := Kd.at_int F1 J hJ.1 (by omega)
   obtain ⟨f0, f1⟩ := Kd.R_celln false hR' J hJ.1 hJ.2
   rw [seenT_get _ _ _ _ _ hJ.1 hJ.2, hdi] at f0
   cases e1
   cases e2
   rw [hgr] at x2
   have c1b : decide (ii < (P.length : Int)) = true := decide_eq_true hi1
   replace hi0 := eq_true hi0
   replace hi1 := eq_true hi1
   try go_wp2
   repeat (go_quiet (fail); try go_wp2)
   go_roundg k1
   case measure => have := hI.out; omega
   case rel =>
    have hw : wrap64 (ii + 1) = ii + 1 := by have := hii.out; have := of_eq_true hi1; unfold wrap64; omega
    exact ⟨i + 1, ii + 1, by first | rfl | (rw [hw]) | (simp only [i64_w, hw]), ⟨by have := hii.out; omega⟩, ⟨by have := hI.out; omega, by omega⟩, ⟨by rw [hstep]; exact Kd.R_putn (Kd.R_drewN hR' _) J true⟩, ⟨(pw_below_drewN hB' _).setCell (p := ⟨g, J.toNat, none⟩) hg0 _⟩⟩
  ·have hii1 : ¬ ii < (P.length : Int) := by have := hii.out; omega
   have hie : i = P.length := by have := hI.out; omega
   subst hie
   have hR' := hR.out
   have hB' := hB.out
   have F1 := Kd.C_below D1 hB'
   obtain ⟨hsl, hsc, F2⟩ := Kd.R_reads' hR'
   rw [← hsl] at F2
   clear hsl
   have hSF : ∀ j : Int, 0 ≤ j → j < (N : Int) → rdOf false (seenT (17 + 4 * v) P N P.length) j = decide (rd G j = 1) := fun j h0 h1 => by
    rw [seenT_get _ _ _ _ _ h0 h1, List.take_length, Bool.eq_iff_iff, List.any_eq_true, decide_eq_true_eq]
    obtain ⟨jn, rfl⟩ := Int.eq_ofNat_of_zero_le h0
    rw [← hsn jn (by omega)]
    simp only [beq_iff_eq]
   generalize seenT (17 + 4 * v) P N P.length = SF at F2 hSF hR hR'
   have hu59 := Try.underlying59
   have hu55 := Try.underlying55
   go_wp2
   have hwq := hB'
   have F1q := F1
   clear hB hB' hR hR' hI hii
   rename World => wq
   go_loopg [143] (N + 1) (fun kq v143 w' => ∃ (j : Nat) (jj m0 m1 m2 m3 m4 m5 m6 m7 : Int), v143 = .int .i64 jj ∧ Aside0 (jj = (j : Int)) ∧ Aside0 (j + kq = N + 1 ∧ j ≤ N) ∧ Aside0 (w'.heap[wq.heap.size]? = some (.cells #[.int .i64 m0, .int .i64 m1, .int .i64 m2, .int .i64 m3, .int .i64 m4, .int .i64 m5, .int .i64 m6, .int .i64 m7] 59 (0, 0))) ∧ Aside0 (m1 = ((G.take j).count 1 : Nat) ∧ m2 = ((G.take j).count 2 : Nat) ∧ m3 = ((G.take j).count 3 : Nat) ∧ m4 = ((G.take j).count 4 : Nat) ∧ m5 = ((G.take j).count 5 : Nat) ∧ m6 = ((G.take j).count 6 : Nat) ∧ m7 = ((G.take j).count 7 : Nat)) ∧ Aside0 (Below wq.heap.size wq w'))
   case atStart => exact ⟨0, 0, 0, 0, 0, 0, 0, 0, 0, 0, rfl, ⟨rfl⟩, ⟨by omega, by omega⟩, ⟨blk_new _ _⟩, ⟨by simp⟩, ⟨(Below.refl _ wq).alloc (Nat.le_refl _) _⟩⟩
   case round =>
    obtain ⟨j, jj, m0, m1, m2, m3, m4, m5, m6, m7, rfl, hjj, hJ, hM, hcm, hB⟩ := hrel
    by_cases hj : j < N
    ·cases gk with
     | zero => exact absurd hJ.out (by omega)
     | succ k1 =>
     have hB' := hB.out
     have hM' := hM.out
     have hj0 : 0 ≤ jj := by have := hjj.out; omega
     have hj1 : jj < (N : Int) := by have := hjj.out; omega
     obtain ⟨ad1, e1, x2⟩ := Kd.at_int (Kd.C_below F1q hB') jj hj0 (by omega)
     obtain ⟨ad2, e2, x3⟩ := Kd.at_bool (Kd.C_below F2 hB') jj hj0 hj1
     have hr7 := hg j hj
     rw [← hjj.out] at hr7
     have hcs := countT G j (by omega)
     rw [← hjj.out] at hcs
     obtain ⟨c, hc⟩ : ∃ c, rd G jj = c := ⟨_, rfl⟩
     rw [hc] at x2 hr7 hcs
     have n1 := (blk_cell hM' 1).trans rfl
     have n2 := (blk_cell hM' 2).trans rfl
     have n3 := (blk_cell hM' 3).trans rfl
     have n4 := (blk_cell hM' 4).trans rfl
     have n5 := (blk_cell hM' 5).trans rfl
     have n6 := (blk_cell hM' 6).trans rfl
     have n7 := (blk_cell hM' 7).trans rfl
     cases e1
     cases e2
     have x3' : wr.cell? ⟨g, jj.toNat, none⟩ = some (.bool (rdOf false SF jj)) := by have h := x3; simp only [Addr.add, Nat.zero_add] at h; split at h; (· rename_i h0; rw [h0]; exact h); exact h
     rw [hSF jj (of_eq_true (eq_true hj0)) hj1, hc] at x3'
     clear x3
     have hmb : (0 ≤ m1 ∧ m1 ≤ 40000) ∧ (0 ≤ m2 ∧ m2 ≤ 40000) ∧ (0 ≤ m3 ∧ m3 ≤ 40000) ∧ (0 ≤ m4 ∧ m4 ≤ 40000) ∧ (0 ≤ m5 ∧ m5 ≤ 40000) ∧ (0 ≤ m6 ∧ m6 ≤ 40000) ∧ (0 ≤ m7 ∧ m7 ≤ 40000) := by
      have h := hcm.out
      have h' := fun c => takeC_le G j c
      have t1 := h' 1; have t2 := h' 2; have t3 := h' 3; have t4 := h' 4; have t5 := h' 5; have t6 := h' 6; have t7 := h' 7
      omega
     have hw : wrap64 (jj + 1) = jj + 1 := by unfold wrap64; omega
     replace hj0 := eq_true hj0
     replace hj1 := eq_true hj1
     have hc7' : c = 1 ∨ c = 2 ∨ c = 3 ∨ c = 4 ∨ c = 5 ∨ c = 6 ∨ c = 7 := by omega
     obtain ⟨b1, b2, b3, b4, b5, b6, b7⟩ := hmb
     clear hr7 hG' hd hp hsn hSF hn hJ0 hg kc2 kc4 kc5 kc6 kc7 hL
     rcases hc7' with rfl | rfl | rfl | rfl | rfl | rfl | rfl
     ·replace x3' : wr.cell? ⟨g, jj.toNat, none⟩ = some (.bool true) := x3'
      have fz := blk_frozen hM' 1
      try go_wp2
      repeat (go_quiet (fail); try go_wp2)
      go_roundg k1
      case measure => have := hJ.out; omega
      case rel => exact ⟨j + 1, jj + 1, m0, m1 + 1, m2, m3, m4, m5, m6, m7, by first | rfl | (rw [hw]) | (simp only [i64_w, hw]), ⟨by have := hjj.out; omega⟩, ⟨by have := hJ.out; omega, by omega⟩, ⟨blk_put (blk_drewN hM' _) 1 (.int .i64 (m1 + 1)) rfl⟩, ⟨countT_all hcm.out hcs (by simp)⟩, ⟨below_set (pw_below_drewN hB' _) (Nat.le_refl _)⟩⟩
     ·replace x3' : wr.cell? ⟨g, jj.toNat, none⟩ = some (.bool false) := x3'
      have fz := blk_frozen hM' 2
      try go_wp2
      repeat (go_quiet (fail); try go_wp2)
      go_roundg k1
      case measure => have := hJ.out; omega
      case rel => exact ⟨j + 1, jj + 1, m0, m1, m2 + 1, m3, m4, m5, m6, m7, by first | rfl | (rw [hw]) | (simp only [i64_w, hw]), ⟨by have := hjj.out; omega⟩, ⟨by have := hJ.out; omega, by omega⟩, ⟨blk_put (blk_drewN hM' _) 2 (.int .i64 (m2 + 1)) rfl⟩, ⟨countT_all hcm.out hcs (by simp)⟩, ⟨below_set (pw_below_drewN hB' _) (Nat.le_refl _)⟩⟩
     ·replace x3' : wr.cell? ⟨g, jj.toNat, none⟩ = some (.bool false) := x3'
      have fz := blk_frozen hM' 3
      try go_wp2
      repeat (go_quiet (fail); try go_wp2)
      go_roundg k1
      case measure => have := hJ.out; omega
      case rel => exact ⟨j + 1, jj + 1, m0, m1, m2, m3 + 1, m4, m5, m6, m7, by first | rfl | (rw [hw]) | (simp only [i64_w, hw]), ⟨by have := hjj.out; omega⟩, ⟨by have := hJ.out; omega, by omega⟩, ⟨blk_put (blk_drewN hM' _) 3 (.int .i64 (m3 + 1)) rfl⟩, ⟨countT_all hcm.out hcs (by simp)⟩, ⟨below_set (pw_below_drewN hB' _) (Nat.le_refl _)⟩⟩
     ·replace x3' : wr.cell? ⟨g, jj.toNat, none⟩ = some (.bool false) := x3'
      have fz := blk_frozen hM' 4
      try go_wp2
      repeat (go_quiet (fail); try go_wp2)
      go_roundg k1
      case measure => have := hJ.out; omega
      case rel => exact ⟨j + 1, jj + 1, m0, m1, m2, m3, m4 + 1, m5, m6, m7, by first | rfl | (rw [hw]) | (simp only [i64_w, hw]), ⟨by have := hjj.out; omega⟩, ⟨by have := hJ.out; omega, by omega⟩, ⟨blk_put (blk_drewN hM' _) 4 (.int .i64 (m4 + 1)) rfl⟩, ⟨countT_all hcm.out hcs (by simp)⟩, ⟨below_set (pw_below_drewN hB' _) (Nat.le_refl _)⟩⟩
     ·replace x3' : wr.cell? ⟨g, jj.toNat, none⟩ = some (.bool false) := x3'
      have fz := blk_frozen hM' 5
      try go_wp2
      repeat (go_quiet (fail); try go_wp2)
      go_roundg k1
      case measure => have := hJ.out; omega
      case rel => exact ⟨j + 1, jj + 1, m0, m1, m2, m3, m4, m5 + 1, m6, m7, by first | rfl | (rw [hw]) | (simp only [i64_w, hw]), ⟨by have := hjj.out; omega⟩, ⟨by have := hJ.out; omega, by omega⟩, ⟨blk_put (blk_drewN hM' _) 5 (.int .i64 (m5 + 1)) rfl⟩, ⟨countT_all hcm.out hcs (by simp)⟩, ⟨below_set (pw_below_drewN hB' _) (Nat.le_refl _)⟩⟩
     ·replace x3' : wr.cell? ⟨g, jj.toNat, none⟩ = some (.bool false) := x3'
      have fz := blk_frozen hM' 6
      try go_wp2
      repeat (go_quiet (fail); try go_wp2)
      go_roundg k1
      case measure => have := hJ.out; omega
      case rel => exact ⟨j + 1, jj + 1, m0, m1, m2, m3, m4, m5, m6 + 1, m7, by first | rfl | (rw [hw]) | (simp only [i64_w, hw]), ⟨by have := hjj.out; omega⟩, ⟨by have := hJ.out; omega, by omega⟩, ⟨blk_put (blk_drewN hM' _) 6 (.int .i64 (m6 + 1)) rfl⟩, ⟨countT_all hcm.out hcs (by simp)⟩, ⟨below_set (pw_below_drewN hB' _) (Nat.le_refl _)⟩⟩
     ·replace x3' : wr.cell? ⟨g, jj.toNat, none⟩ = some (.bool false) := x3'
      have fz := blk_frozen hM' 7
      try go_wp2
      repeat (go_quiet (fail); try go_wp2)
      go_roundg k1
      case measure => have := hJ.out; omega
      case rel => exact ⟨j + 1, jj + 1, m0, m1, m2, m3, m4, m5, m6, m7 + 1, by first | rfl | (rw [hw]) | (simp only [i64_w, hw]), ⟨by have := hjj.out; omega⟩, ⟨by have := hJ.out; omega, by omega⟩, ⟨blk_put (blk_drewN hM' _) 7 (.int .i64 (m7 + 1)) rfl⟩, ⟨countT_all hcm.out hcs (by simp)⟩, ⟨below_set (pw_below_drewN hB' _) (Nat.le_refl _)⟩⟩
    ·have hjj1 : ¬ jj < (N : Int) := by have := hjj.out; omega
     have hje : j = N := by have := hJ.out; omega
     subst hje
     have hB' := hB.out
     have hM' := hM.out
     have hm := hcm.out
     rw [List.take_of_length_le (by omega)] at hm
     obtain ⟨k1, k2, k3, k4, k5, k6, k7⟩ := hm
     rw [kc2] at k2
     rw [kc4] at k4
     rw [kc5] at k5
     rw [kc6] at k6
     rw [kc7] at k7
     subst k2 k5 k7
     have n2 := (blk_cell hM' 2).trans rfl
     have n4 := (blk_cell hM' 4).trans rfl
     have n5 := (blk_cell hM' 5).trans rfl
     have n6 := (blk_cell hM' 6).trans rfl
     have n7 := (blk_cell hM' 7).trans rfl
     have hu60 := Try.underlying60
     clear hd hp hsn hSF hJ0 hg kc2 kc4 kc5 kc6 kc7 hcm
     have Bq := hB.out
     have Bw : Below q3.heap.size q3 wr := hwq.trans (Bq.mono hwq.size)
     have Bz : Below w.heap.size w wr := B3.trans (Bw.mono B3.size)
     obtain ⟨Q, Q3, R, hQw, hQ3, hQ25, hR⟩ := wrapQ al.length hL
     have z1 := (i64_w ((al.length : Int) * (al.length : Int))).trans hQw
     have z2 := (i64_w (Q - 3)).trans hQ3
     have z4 := (i64_w (25 * Q3)).trans hQ25
     clear hL hn hNb hN0 hP w3 w4 w5 z3 hG' hii1 hjj hJ
     by_cases hl : 0 < al.length <;> by_cases h7 : 7 ≤ v
     all_goals first | rw [if_pos hl, hR] at k4 | rw [if_neg hl] at k4
     all_goals first | rw [if_pos h7] at k6 | rw [if_neg h7] at k6
     all_goals clear hR
     all_goals subst k4 k6
     all_goals (go_wp2_with (first
       | (go_at_call 29; refine (barscanref17_Aligns.calls k v al ea _ h4).mono ?_; rintro e q5 ⟨v5, rfl, hR5, hb5⟩; obtain ⟨A5, c5, rfl, hc5, hC5⟩ := Kd.R_reads hR5; clear hR5; have o2 := (blk_cell (blk_below hM' hb5) 2).trans rfl; have o4 := (blk_cell (blk_below hM' hb5) 4).trans rfl; have o5 := (blk_cell (blk_below hM' hb5) 5).trans rfl; have o6 := (blk_cell (blk_below hM' hb5) 6).trans rfl; have o7 := (blk_cell (blk_below hM' hb5) 7).trans rfl; have B5 := Bz.trans (hb5.mono Bz.size))
       | (go_at_call 11; refine (barscanlaw20_alive.calls true _ rfl).mono ?_; rintro e q7 ⟨rfl, hb7⟩; have D7 := B5.trans (hb7.mono B5.size))))
     all_goals go_ret
     all_goals exact ⟨rfl, D7⟩
end Go.Proofs.Ytbbnagjfjgkgjaa.L
