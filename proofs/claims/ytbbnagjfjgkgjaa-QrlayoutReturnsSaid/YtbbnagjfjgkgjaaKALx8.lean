-- Written by a program of this session out of the kit's print of the loaded functions (see wip/).
import Derived.Test.YtbbnagjfjgkgjaaKALx0
namespace Go.Proofs.Ytbbnagjfjgkgjaa.L
open Go.RowKit Go.Proofs.YtbbnagjfjgkgjaaW.PrintWords Go.Proofs.YtbbnagjfjgkgjaaW.PrintLast Go.Proofs.YtbbnagjfjgkgjaaW.PrintMore
attribute [local go_sem] max2_int min2_int max_two min_two max_three min_three max_four min_four   -- for this text's walks alone
set_option linter.unusedVariables false
set_option linter.unusedSimpArgs false

def fmtP (x : Int) : S45 := if x < 6 then ⟨8, x⟩ else if x < 8 then ⟨8, wrap64 (x + 1)⟩ else if x = 8 then ⟨7, 8⟩ else ⟨wrap64 (14 - x), 8⟩
def fmtQ (s x : Int) : S45 := if 8 ≤ x then ⟨8, wrap64 ((wrap64 (s - 15)) + x)⟩ else ⟨wrap64 ((wrap64 (s - 1)) - x), 8⟩
theorem fmt_cases (s x P1 P2 Q1 Q2 : Int) (hP : fmtP x = ⟨P1, P2⟩) (hQ : fmtQ s x = ⟨Q1, Q2⟩) :
  (decide (x < 6) = true ∧ decide (8 ≤ x) = false ∧ P1 = 8 ∧ P2 = x ∧ Q1 = wrap64 ((wrap64 (s - 1)) - x) ∧ Q2 = 8) ∨
  (decide (x < 6) = false ∧ decide (x < 8) = true ∧ decide (8 ≤ x) = false ∧ P1 = 8 ∧ P2 = wrap64 (x + 1) ∧ Q1 = wrap64 ((wrap64 (s - 1)) - x) ∧ Q2 = 8) ∨
  (decide (x < 6) = false ∧ decide (x < 8) = false ∧ (x == 8) = true ∧ decide (8 ≤ x) = true ∧ P1 = 7 ∧ P2 = 8 ∧ Q1 = 8 ∧ Q2 = wrap64 ((wrap64 (s - 15)) + x)) ∨
  (decide (x < 6) = false ∧ decide (x < 8) = false ∧ (x == 8) = false ∧ decide (8 ≤ x) = true ∧ P1 = wrap64 (14 - x) ∧ P2 = 8 ∧ Q1 = 8 ∧ Q2 = wrap64 ((wrap64 (s - 15)) + x)) := by
 unfold fmtP at hP
 unfold fmtQ at hQ
 by_cases h1 : x < 6
 ·rw [if_pos h1] at hP
  rw [if_neg (by omega)] at hQ
  injection hP with e1 e2
  injection hQ with e3 e4
  exact Or.inl ⟨decide_eq_true h1, decide_eq_false (by omega), e1.symm, e2.symm, e3.symm, e4.symm⟩
 ·rw [if_neg h1] at hP
  by_cases h2 : x < 8
  ·rw [if_pos h2] at hP
   rw [if_neg (by omega)] at hQ
   injection hP with e1 e2
   injection hQ with e3 e4
   exact Or.inr (Or.inl ⟨decide_eq_false h1, decide_eq_true h2, decide_eq_false (by omega), e1.symm, e2.symm, e3.symm, e4.symm⟩)
  ·rw [if_neg h2] at hP
   rw [if_pos (by omega)] at hQ
   injection hQ with e3 e4
   by_cases h3 : x = 8
   ·rw [if_pos h3] at hP
    injection hP with e1 e2
    exact Or.inr (Or.inr (Or.inl ⟨decide_eq_false h1, decide_eq_false h2, beq_iff_eq.mpr h3, decide_eq_true (by omega), e1.symm, e2.symm, e3.symm, e4.symm⟩))
   ·rw [if_neg h3] at hP
    injection hP with e1 e2
    exact Or.inr (Or.inr (Or.inr ⟨decide_eq_false h1, decide_eq_false h2, beq_eq_false_iff_ne.mpr h3, decide_eq_true (by omega), e1.symm, e2.symm, e3.symm, e4.symm⟩))
def qrlayout_frame_format.l0 (s : Int) : Nat → Int → List (S45) → List (S45) → Option ((List (S45)) × (List (S45)))
 | 0, _, _, _ => none
 | k + 1, x10, x240000, x240001 => if x10 < 15 then ((some ([fmtP x10] : List (S45))).bind fun y242 => (if x240000.length + y242.length < 8796093022208 then ((some ([fmtQ s x10] : List (S45))).bind fun y248 => (if x240001.length + y248.length < 8796093022208 then (qrlayout_frame_format.l0 s k (wrap64 (x10 + 1)) (x240000 ++ y242) (x240001 ++ y248)) else (none))) else (none))) else (some (x240000, x240001))
def qrlayout_frame_format.f (k : Nat) (a0_0 : Int) (a0_1 : Int) (l0_2 : List Int) : Option ((List (S45)) × (List (S45))) := qrlayout_frame_format.l0 a0_1 k 0 ([] : List (S45)) ([] : List (S45))
def qrlayout_frame_format.T17 : Bool × List (List Nat × List Nat) := (true, [([], []), ([0], [0]), ([], []), ([2], [2]), ([1, 3], [1, 3]), ([], []), ([5], [5]), ([], []), ([7], [7]), ([6, 8, 4], [6, 8]), ([0, 1, 2, 3, 4, 5, 6], []), ([10, 4, 9, 0, 1, 2, 3, 4, 5, 6], [4, 10]), ([0, 1, 2, 3, 4, 5, 6, 7, 8, 9, 10, 11], []), ([12, 9, 11, 0, 1, 2, 3, 4, 5, 6, 7, 8, 9, 10, 11], [9, 12])])
def qrlayout_frame_format.B17 : List Nat := [0, 1, 0, 4, 15, 0, 32, 0, 128, 511, 127, 2047, 4095, 8191]
theorem qrlayout_frame_format.tab17 : rtab .any (opsOf Try.f46 17) = qrlayout_frame_format.T17 := by kernel_rfl
theorem qrlayout_frame_format.bits17 : waitsOk qrlayout_frame_format.T17.2 qrlayout_frame_format.B17 = true := by kernel_rfl
set_option maxHeartbeats 8000000 in
set_option maxRecDepth 100000 in
theorem qrlayout_frame_format.calls (k : Nat) (a0_0 : Int) (a0_1 : Int) (A0_2 : Option Addr) (c0_2 : Nat) (l0_2 : List Int) (r1 : List (S45)) (r2 : List (S45)) (w : World) (hr0_2 : Kd.C (Kd.int .i64) w A0_2 l0_2.length l0_2) (hc0_2 : l0_2.length ≤ c0_2) (h : qrlayout_frame_format.f k a0_0 a0_1 l0_2 = some (r1, r2)) :
  Calls Try.prog 46 #[.agg #[.int .i64 a0_0, .int .i64 a0_1, .slice A0_2 l0_2.length c0_2]] w fun e w' => ∃ v0_ v1_ : Value, e = .returned (.agg #[v0_, v1_]) ∧ Kd.R k45 45 w' w.heap.size (fun k_ => some k_ ≠ (v1_ : Value).ownBlock) v0_ r1 ∧ Kd.R k45 45 w' w.heap.size (fun k_ => some k_ ≠ (v0_ : Value).ownBlock) v1_ r2 ∧ Below w.heap.size w w' := by
 have hu69 := Try.underlying69
 have hu81 := Try.underlying81
 have hu45 := Try.underlying45
 have HR0_2 := Aside0.mk hr0_2
 have HC0_2 := Aside0.mk hc0_2
 clear hr0_2 hc0_2
 have HB := Aside0.mk (Below.refl w.heap.size w)
 have H : (qrlayout_frame_format.l0 a0_1 k 0 ([] : List (S45)) ([] : List (S45))) = some (r1, r2) := h
 clear h
 have H' := Aside0.mk H
 clear H
 go_enter Try.func46, Try.ntmps46
 go_wp2_with (first | ((with_reducible refine gate_dst (N := 1) rfl ?_); refine boxE (N := 1) (cs := #[.int .i64 a0_0, .int .i64 a0_1, .slice A0_2 l0_2.length c0_2]) (t := 69) ?_; intro gb237 hg w2 hbox hb; have BK237 := Aside0.mk (hbox); have GW237 := Aside0.mk ((szA hg HB.out : w.heap.size ≤ gb237)); have GE237 := Aside0.mk ((szA hg HB.out : w.heap.size ≤ gb237)); replace HB := Aside0.mk (below_step (belA HB.out) hb); clear hb hbox hg) | ((with_reducible refine gate_dst (N := 2) rfl ?_); refine boxE (N := 2) (cs := #[.slice none 0 0, .slice none 0 0]) (t := 81) ?_; intro gb238 hg w3 hbox hb; have BK238 := Aside0.mk (hbox); have GW238 := Aside0.mk ((szA hg HB.out : w.heap.size ≤ gb238)); have GE238 := Aside0.mk ((szA hg HB.out : w.heap.size ≤ gb238)); have NB237_238 := Aside0.mk ((neL hg BK237.out : gb237 ≠ gb238)); have NB238_237 := Aside0.mk ((neG hg BK237.out : gb238 ≠ gb237)); replace BK237 := Aside0.mk (blk_below (g := gb237) (o := .cells #[.int .i64 a0_0, .int .i64 a0_1, .slice A0_2 l0_2.length c0_2] 69 (0, 0)) (blkA BK237.out) hb); replace HB := Aside0.mk (below_step (belA HB.out) hb); clear hb hbox hg; have hnb4 := NB237_238.out; have hnc4 := NB238_237.out; obtain ⟨hcz5_0, hcz5_1, hcz5_2, hfz5_0, hfz5_1, hfz5_2⟩ := bk3 BK237.out) | ((with_reducible refine gate_dst (N := 4) rfl ?_); refine boxE (N := 4) (cs := #[.slice none 0 0, .slice none 0 0]) (t := 81) ?_; intro gb239 hg w6 hbox hb; have BK239 := Aside0.mk (hbox); have GW239 := Aside0.mk ((szA hg HB.out : w.heap.size ≤ gb239)); have GE239 := Aside0.mk ((szA hg HB.out : w.heap.size ≤ gb239)); have NB237_239 := Aside0.mk ((neL hg BK237.out : gb237 ≠ gb239)); have NB239_237 := Aside0.mk ((neG hg BK237.out : gb239 ≠ gb237)); have NB238_239 := Aside0.mk ((neL hg BK238.out : gb238 ≠ gb239)); have NB239_238 := Aside0.mk ((neG hg BK238.out : gb239 ≠ gb238)); replace BK237 := Aside0.mk (blk_below (g := gb237) (o := .cells #[.int .i64 a0_0, .int .i64 a0_1, .slice A0_2 l0_2.length c0_2] 69 (0, 0)) (blkA BK237.out) hb); replace BK238 := Aside0.mk (blk_below (g := gb238) (o := .cells #[.slice none 0 0, .slice none 0 0] 81 (0, 0)) (blkA BK238.out) hb); replace HB := Aside0.mk (below_step (belA HB.out) hb); clear hb hbox hg))
 go_loopg [10] k (fun kq v10 w' => ∃ (x10_1 : Int) (x240000_1 : List (S45)) (x240001_1 : List (S45)) (u240000 : Value) (u240001 : Value), v10 = .int .i64 x10_1 ∧ Aside0 (qrlayout_frame_format.l0 a0_1 kq x10_1 x240000_1 x240001_1 = some (r1, r2)) ∧ Aside0 (kq ≤ k) ∧ Aside0 (Kd.R k45 45 w' w.heap.size (fun k_ => some k_ ≠ (u240001 : Value).ownBlock) u240000 x240000_1) ∧ Aside0 (Kd.R k45 45 w' w.heap.size (fun k_ => some k_ ≠ (u240000 : Value).ownBlock) u240001 x240001_1) ∧ Aside0 (w'.heap[gb237]? = some (.cells #[.int .i64 a0_0, .int .i64 a0_1, (.slice A0_2 l0_2.length c0_2)] 69 (0, 0))) ∧ Aside0 (w'.heap[gb238]? = some (.cells #[(.slice none 0 0), (.slice none 0 0)] 81 (0, 0))) ∧ Aside0 (w'.heap[gb239]? = some (.cells #[u240000, u240001] 81 (0, 0))) ∧ Aside0 (Below w.heap.size w w'))
 case atStart => exact ⟨(0), (([] : List (S45))), (([] : List (S45))), (.slice none 0 0), (.slice none 0 0), smpA, H', ⟨Nat.le_refl _⟩, ⟨nilA⟩, ⟨nilA⟩, ⟨blkA BK237.out⟩, ⟨blkA BK238.out⟩, ⟨blkA BK239.out⟩, ⟨belA HB.out⟩⟩
 case round =>
  clear H'
  try clear p2
  try clear c4
  try clear hcz5_0
  try clear hcz5_1
  try clear hcz5_2
  try clear hfz5_0
  try clear hfz5_1
  try clear hfz5_2
  obtain ⟨x10_1, x240000_1, x240001_1, u240000, u240001, rfl, HA, HK1, HO_240000, HO_240001, BK237, BK238, BK239, HB⟩ := hrel
  cases gk with
  | zero => exact absurd HA.out (by simp [qrlayout_frame_format.l0])
  | succ k1 =>
   have H := HA.out
   clear HA
   simp only [qrlayout_frame_format.l0] at H
   obtain ⟨P1, P2, hP⟩ : ∃ P1 P2 : Int, fmtP x10_1 = (⟨P1, P2⟩ : S45) := ⟨_, _, rfl⟩
   obtain ⟨Q1, Q2, hQ⟩ : ∃ Q1 Q2 : Int, fmtQ a0_1 x10_1 = (⟨Q1, Q2⟩ : S45) := ⟨_, _, rfl⟩
   rw [hP, hQ] at H
   have hcases := fmt_cases a0_1 x10_1 P1 P2 Q1 Q2 hP hQ
   clear hP hQ
   by_cases c7 : x10_1 < 15
   ·rw [if_pos c7] at H
    have c7b0 : decide (x10_1 < 15) = true := decide_eq_true c7
    clear c7
    obtain ⟨y242, hy242⟩ : ∃ y_ : List (S45), y_ = (([(⟨P1, P2⟩ : S45)] : List (S45))) := ⟨_, rfl⟩
    replace H : (if x240000_1.length + y242.length < 8796093022208 then ((some (([(⟨Q1, Q2⟩ : S45)] : List (S45)) : List (S45))).bind fun y248 => (if x240001_1.length + y248.length < 8796093022208 then (qrlayout_frame_format.l0 a0_1 k1 (wrap64 (x10_1 + 1)) (x240000_1 ++ y242) (x240001_1 ++ y248)) else (none))) else (none)) = some (r1, r2) := by first | (rw [hy242]; with_reducible exact H) | (have H2_ := (Option.bind_some _ _).symm.trans H; rw [hy242]; with_reducible exact H2_) | (have H2_ := (Option.bind_some _ _).symm.trans H; with_reducible exact H2_) | with_reducible exact H | (rw [hy242]; exact H) | exact H
    have Ny242 := Aside0.mk hy242
    clear hy242
    by_cases c8 : x240000_1.length + y242.length < 8796093022208
    ·rw [if_pos c8] at H
     have LMc8 := Aside0.mk c8
     clear c8
     obtain ⟨y245, hy245⟩ : ∃ y_ : List (S45), y_ = (x240000_1 ++ y242) := ⟨_, rfl⟩
     replace H : ((some (([(⟨Q1, Q2⟩ : S45)] : List (S45)) : List (S45))).bind fun y248 => (if x240001_1.length + y248.length < 8796093022208 then (qrlayout_frame_format.l0 a0_1 k1 (wrap64 (x10_1 + 1)) y245 (x240001_1 ++ y248)) else (none))) = some (r1, r2) := by first | (rw [hy245]; with_reducible exact H) | (have H2_ := (Option.bind_some _ _).symm.trans H; rw [hy245]; with_reducible exact H2_) | (have H2_ := (Option.bind_some _ _).symm.trans H; with_reducible exact H2_) | with_reducible exact H | (rw [hy245]; exact H) | exact H
     have Ny245 := Aside0.mk hy245
     clear hy245
     obtain ⟨y248, hy248⟩ : ∃ y_ : List (S45), y_ = (([(⟨Q1, Q2⟩ : S45)] : List (S45))) := ⟨_, rfl⟩
     replace H : (if x240001_1.length + y248.length < 8796093022208 then (qrlayout_frame_format.l0 a0_1 k1 (wrap64 (x10_1 + 1)) y245 (x240001_1 ++ y248)) else (none)) = some (r1, r2) := by first | (rw [hy248]; with_reducible exact H) | (have H2_ := (Option.bind_some _ _).symm.trans H; rw [hy248]; with_reducible exact H2_) | (have H2_ := (Option.bind_some _ _).symm.trans H; with_reducible exact H2_) | with_reducible exact H | (rw [hy248]; exact H) | exact H
     have Ny248 := Aside0.mk hy248
     clear hy248
     by_cases c9 : x240001_1.length + y248.length < 8796093022208
     ·rw [if_pos c9] at H
      have LMc9 := Aside0.mk c9
      clear c9
      obtain ⟨y251, hy251⟩ : ∃ y_ : List (S45), y_ = (x240001_1 ++ y248) := ⟨_, rfl⟩
      replace H : (qrlayout_frame_format.l0 a0_1 k1 (wrap64 (x10_1 + 1)) y245 y251) = some (r1, r2) := by first | (rw [hy251]; with_reducible exact H) | (have H2_ := (Option.bind_some _ _).symm.trans H; rw [hy251]; with_reducible exact H2_) | (have H2_ := (Option.bind_some _ _).symm.trans H; with_reducible exact H2_) | with_reducible exact H | (rw [hy251]; exact H) | exact H
      have Ny251 := Aside0.mk hy251
      clear hy251
      have H' := Aside0.mk H
      clear H
      rcases hcases with ⟨d1_, d2_, e1_, e2_, e3_, e4_⟩ | ⟨d1_, d2_, d3_, e1_, e2_, e3_, e4_⟩ | ⟨d1_, d2_, d3_, d4_, e1_, e2_, e3_, e4_⟩ | ⟨d1_, d2_, d3_, d4_, e1_, e2_, e3_, e4_⟩
      focus
       go_wp2_with (first | ((with_reducible refine gate_dst (N := 6) rfl ?_); refine boxE (N := 6) (cs := #[.int .i64 0, .int .i64 0]) (t := 45) ?_; intro gb240 hg w10 hbox hb; have BK240 := Aside0.mk (hbox); have GW240 := Aside0.mk ((szA hg HB.out : w.heap.size ≤ gb240)); have GE240 := Aside0.mk ((szA hg HB.out : w.heap.size ≤ gb240)); have NB237_240 := Aside0.mk ((neL hg BK237.out : gb237 ≠ gb240)); have NB240_237 := Aside0.mk ((neG hg BK237.out : gb240 ≠ gb237)); have NB238_240 := Aside0.mk ((neL hg BK238.out : gb238 ≠ gb240)); have NB240_238 := Aside0.mk ((neG hg BK238.out : gb240 ≠ gb238)); have NB239_240 := Aside0.mk ((neL hg BK239.out : gb239 ≠ gb240)); have NB240_239 := Aside0.mk ((neG hg BK239.out : gb240 ≠ gb239)); replace HO_240000 := Aside0.mk (Kd.R_below (Kd.R_elderB (rowA HO_240000.out) gb240 (Nat.le_of_eq hg.symm)) hb); replace HO_240001 := Aside0.mk (Kd.R_below (Kd.R_elderB (rowA HO_240001.out) gb240 (Nat.le_of_eq hg.symm)) hb); replace BK237 := Aside0.mk (blk_below (g := gb237) (o := .cells #[.int .i64 a0_0, .int .i64 a0_1, .slice A0_2 l0_2.length c0_2] 69 (0, 0)) (blkA BK237.out) hb); replace BK238 := Aside0.mk (blk_below (g := gb238) (o := .cells #[.slice none 0 0, .slice none 0 0] 81 (0, 0)) (blkA BK238.out) hb); replace BK239 := Aside0.mk (blk_below (g := gb239) (o := .cells #[u240000, u240001] 81 (0, 0)) (blkA BK239.out) hb); replace HB := Aside0.mk (below_step (belA HB.out) hb); clear hb hbox hg; have hnb11 := NB240_237.out; have hnc11 := NB237_240.out; have hnb12 := NB240_238.out; have hnc12 := NB238_240.out; have hnb13 := NB240_239.out; have hnc13 := NB239_240.out; obtain ⟨hcz14_0, hcz14_1, hfz14_0, hfz14_1⟩ := bk2 BK240.out) | ((with_reducible refine gate_dst (N := 7) rfl ?_); refine boxE (N := 7) (cs := #[.int .i64 0, .int .i64 0]) (t := 45) ?_; intro gb241 hg w15 hbox hb; have BK241 := Aside0.mk (hbox); have GW241 := Aside0.mk ((szA hg HB.out : w.heap.size ≤ gb241)); have GE241 := Aside0.mk ((szA hg HB.out : w.heap.size ≤ gb241)); have NB237_241 := Aside0.mk ((neL hg BK237.out : gb237 ≠ gb241)); have NB241_237 := Aside0.mk ((neG hg BK237.out : gb241 ≠ gb237)); have NB238_241 := Aside0.mk ((neL hg BK238.out : gb238 ≠ gb241)); have NB241_238 := Aside0.mk ((neG hg BK238.out : gb241 ≠ gb238)); have NB239_241 := Aside0.mk ((neL hg BK239.out : gb239 ≠ gb241)); have NB241_239 := Aside0.mk ((neG hg BK239.out : gb241 ≠ gb239)); have NB240_241 := Aside0.mk ((neL hg BK240.out : gb240 ≠ gb241)); have NB241_240 := Aside0.mk ((neG hg BK240.out : gb241 ≠ gb240)); replace HO_240000 := Aside0.mk (Kd.R_below (Kd.R_elderB (by (with_reducible repeat (first | apply Kd.R_alloc | apply Kd.R_drewN | apply Kd.R_drew)); exact (Kd.R_mono (Kd.R_far (p := ⟨gb240, 1, none⟩) (Kd.R_far (p := ⟨gb240, 0, none⟩) (Kd.R_mono HO_240000.out (fun k_ hk => (⟨hk, hk.2⟩ : _ ∧ k_ ≠ gb240))) (fun _ hk => hk.2) (.int .i64 8)) (fun _ hk => hk.2) (.int .i64 x10_1)) (fun _ h_ => h_.1))) gb241 (Nat.le_of_eq hg.symm)) hb); replace HO_240001 := Aside0.mk (Kd.R_below (Kd.R_elderB (by (with_reducible repeat (first | apply Kd.R_alloc | apply Kd.R_drewN | apply Kd.R_drew)); exact (Kd.R_mono (Kd.R_far (p := ⟨gb240, 1, none⟩) (Kd.R_far (p := ⟨gb240, 0, none⟩) (Kd.R_mono HO_240001.out (fun k_ hk => (⟨hk, hk.2⟩ : _ ∧ k_ ≠ gb240))) (fun _ hk => hk.2) (.int .i64 8)) (fun _ hk => hk.2) (.int .i64 x10_1)) (fun _ h_ => h_.1))) gb241 (Nat.le_of_eq hg.symm)) hb); replace BK237 := Aside0.mk (blk_below (g := gb237) (o := .cells #[.int .i64 a0_0, .int .i64 a0_1, .slice A0_2 l0_2.length c0_2] 69 (0, 0)) (blkB BK237.out) hb); replace BK238 := Aside0.mk (blk_below (g := gb238) (o := .cells #[.slice none 0 0, .slice none 0 0] 81 (0, 0)) (blkB BK238.out) hb); replace BK239 := Aside0.mk (blk_below (g := gb239) (o := .cells #[u240000, u240001] 81 (0, 0)) (blkB BK239.out) hb); replace BK240 := Aside0.mk (blk_below (g := gb240) (o := .cells #[.int .i64 8, .int .i64 x10_1] 45 (0, 0)) (blkB BK240.out) hb); replace HB := Aside0.mk (below_step (belA HB.out) hb); clear hb hbox hg; have hnb16 := NB241_237.out; have hnc16 := NB237_241.out; have hnb17 := NB241_238.out; have hnc17 := NB238_241.out; have hnb18 := NB241_239.out; have hnc18 := NB239_241.out; have hnb19 := NB241_240.out; have hnc19 := NB240_241.out; obtain ⟨hcz20_0, hcz20_1, hfz20_0, hfz20_1⟩ := bk2 BK241.out; obtain ⟨Ao21, co21, eo21⟩ := Kd.R_slice HO_240000.out; subst eo21; obtain ⟨Ao22, co22, eo22⟩ := Kd.R_slice HO_240001.out; subst eo22))
       have n0_ : Aside0 (Kd.R k45 45 ((w15.setCell ⟨gb241, 0, none⟩ (.int .i64 (wrap64 ((wrap64 (a0_1 - 1)) - x10_1)))).setCell ⟨gb241, 1, none⟩ (.int .i64 8)) w.heap.size (fun k_ => some k_ ≠ (.slice Ao22 x240001_1.length co22 : Value).ownBlock ∧ k_ ≠ gb240 ∧ k_ ≠ gb241) (.slice Ao21 x240000_1.length co21) x240000_1) := ⟨by (with_reducible repeat (first | apply Kd.R_alloc | apply Kd.R_drewN | apply Kd.R_drew)); exact Kd.R_mono (Kd.R_far (p := ⟨gb241, 1, none⟩) (Kd.R_far (p := ⟨gb241, 0, none⟩) (Kd.R_mono HO_240000.out (fun k_ hk => (⟨hk, hk.2⟩ : _ ∧ k_ ≠ gb241))) (fun _ hk => hk.2) (.int .i64 (wrap64 ((wrap64 (a0_1 - 1)) - x10_1)))) (fun _ hk => hk.2) (.int .i64 8)) (fun _ hk => ⟨hk.1.1.1, ⟨hk.1.1.2, hk.1.2⟩⟩)⟩
       have n1_ : Aside0 (Kd.R k45 45 ((w15.setCell ⟨gb241, 0, none⟩ (.int .i64 (wrap64 ((wrap64 (a0_1 - 1)) - x10_1)))).setCell ⟨gb241, 1, none⟩ (.int .i64 8)) w.heap.size (fun k_ => some k_ ≠ (.slice Ao21 x240000_1.length co21 : Value).ownBlock ∧ k_ ≠ gb240 ∧ k_ ≠ gb241) (.slice Ao22 x240001_1.length co22) x240001_1) := ⟨by (with_reducible repeat (first | apply Kd.R_alloc | apply Kd.R_drewN | apply Kd.R_drew)); exact Kd.R_mono (Kd.R_far (p := ⟨gb241, 1, none⟩) (Kd.R_far (p := ⟨gb241, 0, none⟩) (Kd.R_mono HO_240001.out (fun k_ hk => (⟨hk, hk.2⟩ : _ ∧ k_ ≠ gb241))) (fun _ hk => hk.2) (.int .i64 (wrap64 ((wrap64 (a0_1 - 1)) - x10_1)))) (fun _ hk => hk.2) (.int .i64 8)) (fun _ hk => ⟨hk.1.1.1, ⟨hk.1.1.2, hk.1.2⟩⟩)⟩
       have n2_ : Aside0 (((w15.setCell ⟨gb241, 0, none⟩ (.int .i64 (wrap64 ((wrap64 (a0_1 - 1)) - x10_1)))).setCell ⟨gb241, 1, none⟩ (.int .i64 8)).heap[gb237]? = some (.cells #[.int .i64 a0_0, .int .i64 a0_1, .slice A0_2 l0_2.length c0_2] 69 (0, 0))) := ⟨blkB BK237.out⟩
       have n3_ : Aside0 (((w15.setCell ⟨gb241, 0, none⟩ (.int .i64 (wrap64 ((wrap64 (a0_1 - 1)) - x10_1)))).setCell ⟨gb241, 1, none⟩ (.int .i64 8)).heap[gb238]? = some (.cells #[.slice none 0 0, .slice none 0 0] 81 (0, 0))) := ⟨blkB BK238.out⟩
       have n4_ : Aside0 (((w15.setCell ⟨gb241, 0, none⟩ (.int .i64 (wrap64 ((wrap64 (a0_1 - 1)) - x10_1)))).setCell ⟨gb241, 1, none⟩ (.int .i64 8)).heap[gb239]? = some (.cells #[.slice Ao21 x240000_1.length co21, .slice Ao22 x240001_1.length co22] 81 (0, 0))) := ⟨blkB BK239.out⟩
       have n5_ : Aside0 (((w15.setCell ⟨gb241, 0, none⟩ (.int .i64 (wrap64 ((wrap64 (a0_1 - 1)) - x10_1)))).setCell ⟨gb241, 1, none⟩ (.int .i64 8)).heap[gb240]? = some (.cells #[.int .i64 8, .int .i64 x10_1] 45 (0, 0))) := ⟨blkB BK240.out⟩
       have n6_ : Aside0 (((w15.setCell ⟨gb241, 0, none⟩ (.int .i64 (wrap64 ((wrap64 (a0_1 - 1)) - x10_1)))).setCell ⟨gb241, 1, none⟩ (.int .i64 8)).heap[gb241]? = some (.cells #[.int .i64 (wrap64 ((wrap64 (a0_1 - 1)) - x10_1)), .int .i64 8] 45 (0, 0))) := ⟨blkB BK241.out⟩
       have n7_ : Aside0 (Below w.heap.size w ((w15.setCell ⟨gb241, 0, none⟩ (.int .i64 (wrap64 ((wrap64 (a0_1 - 1)) - x10_1)))).setCell ⟨gb241, 1, none⟩ (.int .i64 8))) := ⟨belA HB.out⟩
       (try clear HO_240000)
       (try clear HO_240001)
       (try clear BK237)
       (try clear BK238)
       (try clear BK239)
       (try clear BK240)
       (try clear BK241)
       (try clear HB)
       generalize ((w15.setCell ⟨gb241, 0, none⟩ (.int .i64 (wrap64 ((wrap64 (a0_1 - 1)) - x10_1)))).setCell ⟨gb241, 1, none⟩ (.int .i64 8)) = w23 at n0_ n1_ n2_ n3_ n4_ n5_ n6_ n7_ ⊢
       have HO_240000 := n0_
       have HO_240001 := n1_
       have BK237 := n2_
       have BK238 := n3_
       have BK239 := n4_
       have BK240 := n5_
       have BK241 := n6_
       have HB := n7_
       clear n0_ n1_ n2_ n3_ n4_ n5_ n6_ n7_
       replace BK240 : Aside0 (w23.heap[gb240]? = some (.cells #[.int .i64 P1, .int .i64 P2] 45 (0, 0))) := ⟨by rw [e1_, e2_]; exact BK240.out⟩
       replace BK241 : Aside0 (w23.heap[gb241]? = some (.cells #[.int .i64 Q1, .int .i64 Q2] 45 (0, 0))) := ⟨by rw [e3_, e4_]; exact BK241.out⟩
       clear e1_ e2_ e3_ e4_
      rotate_left
      focus
       go_wp2_with (first | ((with_reducible refine gate_dst (N := 6) rfl ?_); refine boxE (N := 6) (cs := #[.int .i64 0, .int .i64 0]) (t := 45) ?_; intro gb240 hg w10 hbox hb; have BK240 := Aside0.mk (hbox); have GW240 := Aside0.mk ((szA hg HB.out : w.heap.size ≤ gb240)); have GE240 := Aside0.mk ((szA hg HB.out : w.heap.size ≤ gb240)); have NB237_240 := Aside0.mk ((neL hg BK237.out : gb237 ≠ gb240)); have NB240_237 := Aside0.mk ((neG hg BK237.out : gb240 ≠ gb237)); have NB238_240 := Aside0.mk ((neL hg BK238.out : gb238 ≠ gb240)); have NB240_238 := Aside0.mk ((neG hg BK238.out : gb240 ≠ gb238)); have NB239_240 := Aside0.mk ((neL hg BK239.out : gb239 ≠ gb240)); have NB240_239 := Aside0.mk ((neG hg BK239.out : gb240 ≠ gb239)); replace HO_240000 := Aside0.mk (Kd.R_below (Kd.R_elderB (rowA HO_240000.out) gb240 (Nat.le_of_eq hg.symm)) hb); replace HO_240001 := Aside0.mk (Kd.R_below (Kd.R_elderB (rowA HO_240001.out) gb240 (Nat.le_of_eq hg.symm)) hb); replace BK237 := Aside0.mk (blk_below (g := gb237) (o := .cells #[.int .i64 a0_0, .int .i64 a0_1, .slice A0_2 l0_2.length c0_2] 69 (0, 0)) (blkA BK237.out) hb); replace BK238 := Aside0.mk (blk_below (g := gb238) (o := .cells #[.slice none 0 0, .slice none 0 0] 81 (0, 0)) (blkA BK238.out) hb); replace BK239 := Aside0.mk (blk_below (g := gb239) (o := .cells #[u240000, u240001] 81 (0, 0)) (blkA BK239.out) hb); replace HB := Aside0.mk (below_step (belA HB.out) hb); clear hb hbox hg; have hnb11 := NB240_237.out; have hnc11 := NB237_240.out; have hnb12 := NB240_238.out; have hnc12 := NB238_240.out; have hnb13 := NB240_239.out; have hnc13 := NB239_240.out; obtain ⟨hcz14_0, hcz14_1, hfz14_0, hfz14_1⟩ := bk2 BK240.out) | ((with_reducible refine gate_dst (N := 7) rfl ?_); refine boxE (N := 7) (cs := #[.int .i64 0, .int .i64 0]) (t := 45) ?_; intro gb241 hg w15 hbox hb; have BK241 := Aside0.mk (hbox); have GW241 := Aside0.mk ((szA hg HB.out : w.heap.size ≤ gb241)); have GE241 := Aside0.mk ((szA hg HB.out : w.heap.size ≤ gb241)); have NB237_241 := Aside0.mk ((neL hg BK237.out : gb237 ≠ gb241)); have NB241_237 := Aside0.mk ((neG hg BK237.out : gb241 ≠ gb237)); have NB238_241 := Aside0.mk ((neL hg BK238.out : gb238 ≠ gb241)); have NB241_238 := Aside0.mk ((neG hg BK238.out : gb241 ≠ gb238)); have NB239_241 := Aside0.mk ((neL hg BK239.out : gb239 ≠ gb241)); have NB241_239 := Aside0.mk ((neG hg BK239.out : gb241 ≠ gb239)); have NB240_241 := Aside0.mk ((neL hg BK240.out : gb240 ≠ gb241)); have NB241_240 := Aside0.mk ((neG hg BK240.out : gb241 ≠ gb240)); replace HO_240000 := Aside0.mk (Kd.R_below (Kd.R_elderB (by (with_reducible repeat (first | apply Kd.R_alloc | apply Kd.R_drewN | apply Kd.R_drew)); exact (Kd.R_mono (Kd.R_far (p := ⟨gb240, 1, none⟩) (Kd.R_far (p := ⟨gb240, 0, none⟩) (Kd.R_mono HO_240000.out (fun k_ hk => (⟨hk, hk.2⟩ : _ ∧ k_ ≠ gb240))) (fun _ hk => hk.2) (.int .i64 8)) (fun _ hk => hk.2) (.int .i64 (wrap64 (x10_1 + 1)))) (fun _ h_ => h_.1))) gb241 (Nat.le_of_eq hg.symm)) hb); replace HO_240001 := Aside0.mk (Kd.R_below (Kd.R_elderB (by (with_reducible repeat (first | apply Kd.R_alloc | apply Kd.R_drewN | apply Kd.R_drew)); exact (Kd.R_mono (Kd.R_far (p := ⟨gb240, 1, none⟩) (Kd.R_far (p := ⟨gb240, 0, none⟩) (Kd.R_mono HO_240001.out (fun k_ hk => (⟨hk, hk.2⟩ : _ ∧ k_ ≠ gb240))) (fun _ hk => hk.2) (.int .i64 8)) (fun _ hk => hk.2) (.int .i64 (wrap64 (x10_1 + 1)))) (fun _ h_ => h_.1))) gb241 (Nat.le_of_eq hg.symm)) hb); replace BK237 := Aside0.mk (blk_below (g := gb237) (o := .cells #[.int .i64 a0_0, .int .i64 a0_1, .slice A0_2 l0_2.length c0_2] 69 (0, 0)) (blkB BK237.out) hb); replace BK238 := Aside0.mk (blk_below (g := gb238) (o := .cells #[.slice none 0 0, .slice none 0 0] 81 (0, 0)) (blkB BK238.out) hb); replace BK239 := Aside0.mk (blk_below (g := gb239) (o := .cells #[u240000, u240001] 81 (0, 0)) (blkB BK239.out) hb); replace BK240 := Aside0.mk (blk_below (g := gb240) (o := .cells #[.int .i64 8, .int .i64 (wrap64 (x10_1 + 1))] 45 (0, 0)) (blkB BK240.out) hb); replace HB := Aside0.mk (below_step (belA HB.out) hb); clear hb hbox hg; have hnb16 := NB241_237.out; have hnc16 := NB237_241.out; have hnb17 := NB241_238.out; have hnc17 := NB238_241.out; have hnb18 := NB241_239.out; have hnc18 := NB239_241.out; have hnb19 := NB241_240.out; have hnc19 := NB240_241.out; obtain ⟨hcz20_0, hcz20_1, hfz20_0, hfz20_1⟩ := bk2 BK241.out; obtain ⟨Ao21, co21, eo21⟩ := Kd.R_slice HO_240000.out; subst eo21; obtain ⟨Ao22, co22, eo22⟩ := Kd.R_slice HO_240001.out; subst eo22))
       have n0_ : Aside0 (Kd.R k45 45 ((w15.setCell ⟨gb241, 0, none⟩ (.int .i64 (wrap64 ((wrap64 (a0_1 - 1)) - x10_1)))).setCell ⟨gb241, 1, none⟩ (.int .i64 8)) w.heap.size (fun k_ => some k_ ≠ (.slice Ao22 x240001_1.length co22 : Value).ownBlock ∧ k_ ≠ gb240 ∧ k_ ≠ gb241) (.slice Ao21 x240000_1.length co21) x240000_1) := ⟨by (with_reducible repeat (first | apply Kd.R_alloc | apply Kd.R_drewN | apply Kd.R_drew)); exact Kd.R_mono (Kd.R_far (p := ⟨gb241, 1, none⟩) (Kd.R_far (p := ⟨gb241, 0, none⟩) (Kd.R_mono HO_240000.out (fun k_ hk => (⟨hk, hk.2⟩ : _ ∧ k_ ≠ gb241))) (fun _ hk => hk.2) (.int .i64 (wrap64 ((wrap64 (a0_1 - 1)) - x10_1)))) (fun _ hk => hk.2) (.int .i64 8)) (fun _ hk => ⟨hk.1.1.1, ⟨hk.1.1.2, hk.1.2⟩⟩)⟩
       have n1_ : Aside0 (Kd.R k45 45 ((w15.setCell ⟨gb241, 0, none⟩ (.int .i64 (wrap64 ((wrap64 (a0_1 - 1)) - x10_1)))).setCell ⟨gb241, 1, none⟩ (.int .i64 8)) w.heap.size (fun k_ => some k_ ≠ (.slice Ao21 x240000_1.length co21 : Value).ownBlock ∧ k_ ≠ gb240 ∧ k_ ≠ gb241) (.slice Ao22 x240001_1.length co22) x240001_1) := ⟨by (with_reducible repeat (first | apply Kd.R_alloc | apply Kd.R_drewN | apply Kd.R_drew)); exact Kd.R_mono (Kd.R_far (p := ⟨gb241, 1, none⟩) (Kd.R_far (p := ⟨gb241, 0, none⟩) (Kd.R_mono HO_240001.out (fun k_ hk => (⟨hk, hk.2⟩ : _ ∧ k_ ≠ gb241))) (fun _ hk => hk.2) (.int .i64 (wrap64 ((wrap64 (a0_1 - 1)) - x10_1)))) (fun _ hk => hk.2) (.int .i64 8)) (fun _ hk => ⟨hk.1.1.1, ⟨hk.1.1.2, hk.1.2⟩⟩)⟩
       have n2_ : Aside0 (((w15.setCell ⟨gb241, 0, none⟩ (.int .i64 (wrap64 ((wrap64 (a0_1 - 1)) - x10_1)))).setCell ⟨gb241, 1, none⟩ (.int .i64 8)).heap[gb237]? = some (.cells #[.int .i64 a0_0, .int .i64 a0_1, .slice A0_2 l0_2.length c0_2] 69 (0, 0))) := ⟨blkB BK237.out⟩
       have n3_ : Aside0 (((w15.setCell ⟨gb241, 0, none⟩ (.int .i64 (wrap64 ((wrap64 (a0_1 - 1)) - x10_1)))).setCell ⟨gb241, 1, none⟩ (.int .i64 8)).heap[gb238]? = some (.cells #[.slice none 0 0, .slice none 0 0] 81 (0, 0))) := ⟨blkB BK238.out⟩
       have n4_ : Aside0 (((w15.setCell ⟨gb241, 0, none⟩ (.int .i64 (wrap64 ((wrap64 (a0_1 - 1)) - x10_1)))).setCell ⟨gb241, 1, none⟩ (.int .i64 8)).heap[gb239]? = some (.cells #[.slice Ao21 x240000_1.length co21, .slice Ao22 x240001_1.length co22] 81 (0, 0))) := ⟨blkB BK239.out⟩
       have n5_ : Aside0 (((w15.setCell ⟨gb241, 0, none⟩ (.int .i64 (wrap64 ((wrap64 (a0_1 - 1)) - x10_1)))).setCell ⟨gb241, 1, none⟩ (.int .i64 8)).heap[gb240]? = some (.cells #[.int .i64 8, .int .i64 (wrap64 (x10_1 + 1))] 45 (0, 0))) := ⟨blkB BK240.out⟩
       have n6_ : Aside0 (((w15.setCell ⟨gb241, 0, none⟩ (.int .i64 (wrap64 ((wrap64 (a0_1 - 1)) - x10_1)))).setCell ⟨gb241, 1, none⟩ (.int .i64 8)).heap[gb241]? = some (.cells #[.int .i64 (wrap64 ((wrap64 (a0_1 - 1)) - x10_1)), .int .i64 8] 45 (0, 0))) := ⟨blkB BK241.out⟩
       have n7_ : Aside0 (Below w.heap.size w ((w15.setCell ⟨gb241, 0, none⟩ (.int .i64 (wrap64 ((wrap64 (a0_1 - 1)) - x10_1)))).setCell ⟨gb241, 1, none⟩ (.int .i64 8))) := ⟨belA HB.out⟩
       (try clear HO_240000)
       (try clear HO_240001)
       (try clear BK237)
       (try clear BK238)
       (try clear BK239)
       (try clear BK240)
       (try clear BK241)
       (try clear HB)
       generalize ((w15.setCell ⟨gb241, 0, none⟩ (.int .i64 (wrap64 ((wrap64 (a0_1 - 1)) - x10_1)))).setCell ⟨gb241, 1, none⟩ (.int .i64 8)) = w23 at n0_ n1_ n2_ n3_ n4_ n5_ n6_ n7_ ⊢
       have HO_240000 := n0_
       have HO_240001 := n1_
       have BK237 := n2_
       have BK238 := n3_
       have BK239 := n4_
       have BK240 := n5_
       have BK241 := n6_
       have HB := n7_
       clear n0_ n1_ n2_ n3_ n4_ n5_ n6_ n7_
       replace BK240 : Aside0 (w23.heap[gb240]? = some (.cells #[.int .i64 P1, .int .i64 P2] 45 (0, 0))) := ⟨by rw [e1_, e2_]; exact BK240.out⟩
       replace BK241 : Aside0 (w23.heap[gb241]? = some (.cells #[.int .i64 Q1, .int .i64 Q2] 45 (0, 0))) := ⟨by rw [e3_, e4_]; exact BK241.out⟩
       clear e1_ e2_ e3_ e4_
      rotate_left
      focus
       go_wp2_with (first | ((with_reducible refine gate_dst (N := 6) rfl ?_); refine boxE (N := 6) (cs := #[.int .i64 0, .int .i64 0]) (t := 45) ?_; intro gb240 hg w10 hbox hb; have BK240 := Aside0.mk (hbox); have GW240 := Aside0.mk ((szA hg HB.out : w.heap.size ≤ gb240)); have GE240 := Aside0.mk ((szA hg HB.out : w.heap.size ≤ gb240)); have NB237_240 := Aside0.mk ((neL hg BK237.out : gb237 ≠ gb240)); have NB240_237 := Aside0.mk ((neG hg BK237.out : gb240 ≠ gb237)); have NB238_240 := Aside0.mk ((neL hg BK238.out : gb238 ≠ gb240)); have NB240_238 := Aside0.mk ((neG hg BK238.out : gb240 ≠ gb238)); have NB239_240 := Aside0.mk ((neL hg BK239.out : gb239 ≠ gb240)); have NB240_239 := Aside0.mk ((neG hg BK239.out : gb240 ≠ gb239)); replace HO_240000 := Aside0.mk (Kd.R_below (Kd.R_elderB (rowA HO_240000.out) gb240 (Nat.le_of_eq hg.symm)) hb); replace HO_240001 := Aside0.mk (Kd.R_below (Kd.R_elderB (rowA HO_240001.out) gb240 (Nat.le_of_eq hg.symm)) hb); replace BK237 := Aside0.mk (blk_below (g := gb237) (o := .cells #[.int .i64 a0_0, .int .i64 a0_1, .slice A0_2 l0_2.length c0_2] 69 (0, 0)) (blkA BK237.out) hb); replace BK238 := Aside0.mk (blk_below (g := gb238) (o := .cells #[.slice none 0 0, .slice none 0 0] 81 (0, 0)) (blkA BK238.out) hb); replace BK239 := Aside0.mk (blk_below (g := gb239) (o := .cells #[u240000, u240001] 81 (0, 0)) (blkA BK239.out) hb); replace HB := Aside0.mk (below_step (belA HB.out) hb); clear hb hbox hg; have hnb11 := NB240_237.out; have hnc11 := NB237_240.out; have hnb12 := NB240_238.out; have hnc12 := NB238_240.out; have hnb13 := NB240_239.out; have hnc13 := NB239_240.out; obtain ⟨hcz14_0, hcz14_1, hfz14_0, hfz14_1⟩ := bk2 BK240.out) | ((with_reducible refine gate_dst (N := 7) rfl ?_); refine boxE (N := 7) (cs := #[.int .i64 0, .int .i64 0]) (t := 45) ?_; intro gb241 hg w15 hbox hb; have BK241 := Aside0.mk (hbox); have GW241 := Aside0.mk ((szA hg HB.out : w.heap.size ≤ gb241)); have GE241 := Aside0.mk ((szA hg HB.out : w.heap.size ≤ gb241)); have NB237_241 := Aside0.mk ((neL hg BK237.out : gb237 ≠ gb241)); have NB241_237 := Aside0.mk ((neG hg BK237.out : gb241 ≠ gb237)); have NB238_241 := Aside0.mk ((neL hg BK238.out : gb238 ≠ gb241)); have NB241_238 := Aside0.mk ((neG hg BK238.out : gb241 ≠ gb238)); have NB239_241 := Aside0.mk ((neL hg BK239.out : gb239 ≠ gb241)); have NB241_239 := Aside0.mk ((neG hg BK239.out : gb241 ≠ gb239)); have NB240_241 := Aside0.mk ((neL hg BK240.out : gb240 ≠ gb241)); have NB241_240 := Aside0.mk ((neG hg BK240.out : gb241 ≠ gb240)); replace HO_240000 := Aside0.mk (Kd.R_below (Kd.R_elderB (by (with_reducible repeat (first | apply Kd.R_alloc | apply Kd.R_drewN | apply Kd.R_drew)); exact (Kd.R_mono (Kd.R_far (p := ⟨gb240, 1, none⟩) (Kd.R_far (p := ⟨gb240, 0, none⟩) (Kd.R_mono HO_240000.out (fun k_ hk => (⟨hk, hk.2⟩ : _ ∧ k_ ≠ gb240))) (fun _ hk => hk.2) (.int .i64 7)) (fun _ hk => hk.2) (.int .i64 8)) (fun _ h_ => h_.1))) gb241 (Nat.le_of_eq hg.symm)) hb); replace HO_240001 := Aside0.mk (Kd.R_below (Kd.R_elderB (by (with_reducible repeat (first | apply Kd.R_alloc | apply Kd.R_drewN | apply Kd.R_drew)); exact (Kd.R_mono (Kd.R_far (p := ⟨gb240, 1, none⟩) (Kd.R_far (p := ⟨gb240, 0, none⟩) (Kd.R_mono HO_240001.out (fun k_ hk => (⟨hk, hk.2⟩ : _ ∧ k_ ≠ gb240))) (fun _ hk => hk.2) (.int .i64 7)) (fun _ hk => hk.2) (.int .i64 8)) (fun _ h_ => h_.1))) gb241 (Nat.le_of_eq hg.symm)) hb); replace BK237 := Aside0.mk (blk_below (g := gb237) (o := .cells #[.int .i64 a0_0, .int .i64 a0_1, .slice A0_2 l0_2.length c0_2] 69 (0, 0)) (blkB BK237.out) hb); replace BK238 := Aside0.mk (blk_below (g := gb238) (o := .cells #[.slice none 0 0, .slice none 0 0] 81 (0, 0)) (blkB BK238.out) hb); replace BK239 := Aside0.mk (blk_below (g := gb239) (o := .cells #[u240000, u240001] 81 (0, 0)) (blkB BK239.out) hb); replace BK240 := Aside0.mk (blk_below (g := gb240) (o := .cells #[.int .i64 7, .int .i64 8] 45 (0, 0)) (blkB BK240.out) hb); replace HB := Aside0.mk (below_step (belA HB.out) hb); clear hb hbox hg; have hnb16 := NB241_237.out; have hnc16 := NB237_241.out; have hnb17 := NB241_238.out; have hnc17 := NB238_241.out; have hnb18 := NB241_239.out; have hnc18 := NB239_241.out; have hnb19 := NB241_240.out; have hnc19 := NB240_241.out; obtain ⟨hcz20_0, hcz20_1, hfz20_0, hfz20_1⟩ := bk2 BK241.out; obtain ⟨Ao21, co21, eo21⟩ := Kd.R_slice HO_240000.out; subst eo21; obtain ⟨Ao22, co22, eo22⟩ := Kd.R_slice HO_240001.out; subst eo22))
       have n0_ : Aside0 (Kd.R k45 45 ((((w15.setCell ⟨gb241, 0, none⟩ (.int .i64 (wrap64 ((wrap64 (a0_1 - 1)) - x10_1)))).setCell ⟨gb241, 1, none⟩ (.int .i64 8)).setCell ⟨gb241, 0, none⟩ (.int .i64 8)).setCell ⟨gb241, 1, none⟩ (.int .i64 (wrap64 ((wrap64 (a0_1 - 15)) + x10_1)))) w.heap.size (fun k_ => some k_ ≠ (.slice Ao22 x240001_1.length co22 : Value).ownBlock ∧ k_ ≠ gb240 ∧ k_ ≠ gb241) (.slice Ao21 x240000_1.length co21) x240000_1) := ⟨by (with_reducible repeat (first | apply Kd.R_alloc | apply Kd.R_drewN | apply Kd.R_drew)); exact Kd.R_mono (Kd.R_far (p := ⟨gb241, 1, none⟩) (Kd.R_far (p := ⟨gb241, 0, none⟩) (Kd.R_far (p := ⟨gb241, 1, none⟩) (Kd.R_far (p := ⟨gb241, 0, none⟩) (Kd.R_mono HO_240000.out (fun k_ hk => (⟨hk, hk.2⟩ : _ ∧ k_ ≠ gb241))) (fun _ hk => hk.2) (.int .i64 (wrap64 ((wrap64 (a0_1 - 1)) - x10_1)))) (fun _ hk => hk.2) (.int .i64 8)) (fun _ hk => hk.2) (.int .i64 8)) (fun _ hk => hk.2) (.int .i64 (wrap64 ((wrap64 (a0_1 - 15)) + x10_1)))) (fun _ hk => ⟨hk.1.1.1, ⟨hk.1.1.2, hk.1.2⟩⟩)⟩
       have n1_ : Aside0 (Kd.R k45 45 ((((w15.setCell ⟨gb241, 0, none⟩ (.int .i64 (wrap64 ((wrap64 (a0_1 - 1)) - x10_1)))).setCell ⟨gb241, 1, none⟩ (.int .i64 8)).setCell ⟨gb241, 0, none⟩ (.int .i64 8)).setCell ⟨gb241, 1, none⟩ (.int .i64 (wrap64 ((wrap64 (a0_1 - 15)) + x10_1)))) w.heap.size (fun k_ => some k_ ≠ (.slice Ao21 x240000_1.length co21 : Value).ownBlock ∧ k_ ≠ gb240 ∧ k_ ≠ gb241) (.slice Ao22 x240001_1.length co22) x240001_1) := ⟨by (with_reducible repeat (first | apply Kd.R_alloc | apply Kd.R_drewN | apply Kd.R_drew)); exact Kd.R_mono (Kd.R_far (p := ⟨gb241, 1, none⟩) (Kd.R_far (p := ⟨gb241, 0, none⟩) (Kd.R_far (p := ⟨gb241, 1, none⟩) (Kd.R_far (p := ⟨gb241, 0, none⟩) (Kd.R_mono HO_240001.out (fun k_ hk => (⟨hk, hk.2⟩ : _ ∧ k_ ≠ gb241))) (fun _ hk => hk.2) (.int .i64 (wrap64 ((wrap64 (a0_1 - 1)) - x10_1)))) (fun _ hk => hk.2) (.int .i64 8)) (fun _ hk => hk.2) (.int .i64 8)) (fun _ hk => hk.2) (.int .i64 (wrap64 ((wrap64 (a0_1 - 15)) + x10_1)))) (fun _ hk => ⟨hk.1.1.1, ⟨hk.1.1.2, hk.1.2⟩⟩)⟩
       have n2_ : Aside0 (((((w15.setCell ⟨gb241, 0, none⟩ (.int .i64 (wrap64 ((wrap64 (a0_1 - 1)) - x10_1)))).setCell ⟨gb241, 1, none⟩ (.int .i64 8)).setCell ⟨gb241, 0, none⟩ (.int .i64 8)).setCell ⟨gb241, 1, none⟩ (.int .i64 (wrap64 ((wrap64 (a0_1 - 15)) + x10_1)))).heap[gb237]? = some (.cells #[.int .i64 a0_0, .int .i64 a0_1, .slice A0_2 l0_2.length c0_2] 69 (0, 0))) := ⟨blkB BK237.out⟩
       have n3_ : Aside0 (((((w15.setCell ⟨gb241, 0, none⟩ (.int .i64 (wrap64 ((wrap64 (a0_1 - 1)) - x10_1)))).setCell ⟨gb241, 1, none⟩ (.int .i64 8)).setCell ⟨gb241, 0, none⟩ (.int .i64 8)).setCell ⟨gb241, 1, none⟩ (.int .i64 (wrap64 ((wrap64 (a0_1 - 15)) + x10_1)))).heap[gb238]? = some (.cells #[.slice none 0 0, .slice none 0 0] 81 (0, 0))) := ⟨blkB BK238.out⟩
       have n4_ : Aside0 (((((w15.setCell ⟨gb241, 0, none⟩ (.int .i64 (wrap64 ((wrap64 (a0_1 - 1)) - x10_1)))).setCell ⟨gb241, 1, none⟩ (.int .i64 8)).setCell ⟨gb241, 0, none⟩ (.int .i64 8)).setCell ⟨gb241, 1, none⟩ (.int .i64 (wrap64 ((wrap64 (a0_1 - 15)) + x10_1)))).heap[gb239]? = some (.cells #[.slice Ao21 x240000_1.length co21, .slice Ao22 x240001_1.length co22] 81 (0, 0))) := ⟨blkB BK239.out⟩
       have n5_ : Aside0 (((((w15.setCell ⟨gb241, 0, none⟩ (.int .i64 (wrap64 ((wrap64 (a0_1 - 1)) - x10_1)))).setCell ⟨gb241, 1, none⟩ (.int .i64 8)).setCell ⟨gb241, 0, none⟩ (.int .i64 8)).setCell ⟨gb241, 1, none⟩ (.int .i64 (wrap64 ((wrap64 (a0_1 - 15)) + x10_1)))).heap[gb240]? = some (.cells #[.int .i64 7, .int .i64 8] 45 (0, 0))) := ⟨blkB BK240.out⟩
       have n6_ : Aside0 (((((w15.setCell ⟨gb241, 0, none⟩ (.int .i64 (wrap64 ((wrap64 (a0_1 - 1)) - x10_1)))).setCell ⟨gb241, 1, none⟩ (.int .i64 8)).setCell ⟨gb241, 0, none⟩ (.int .i64 8)).setCell ⟨gb241, 1, none⟩ (.int .i64 (wrap64 ((wrap64 (a0_1 - 15)) + x10_1)))).heap[gb241]? = some (.cells #[.int .i64 8, .int .i64 (wrap64 ((wrap64 (a0_1 - 15)) + x10_1))] 45 (0, 0))) := ⟨blkB BK241.out⟩
       have n7_ : Aside0 (Below w.heap.size w ((((w15.setCell ⟨gb241, 0, none⟩ (.int .i64 (wrap64 ((wrap64 (a0_1 - 1)) - x10_1)))).setCell ⟨gb241, 1, none⟩ (.int .i64 8)).setCell ⟨gb241, 0, none⟩ (.int .i64 8)).setCell ⟨gb241, 1, none⟩ (.int .i64 (wrap64 ((wrap64 (a0_1 - 15)) + x10_1))))) := ⟨belA HB.out⟩
       (try clear HO_240000)
       (try clear HO_240001)
       (try clear BK237)
       (try clear BK238)
       (try clear BK239)
       (try clear BK240)
       (try clear BK241)
       (try clear HB)
       generalize ((((w15.setCell ⟨gb241, 0, none⟩ (.int .i64 (wrap64 ((wrap64 (a0_1 - 1)) - x10_1)))).setCell ⟨gb241, 1, none⟩ (.int .i64 8)).setCell ⟨gb241, 0, none⟩ (.int .i64 8)).setCell ⟨gb241, 1, none⟩ (.int .i64 (wrap64 ((wrap64 (a0_1 - 15)) + x10_1)))) = w23 at n0_ n1_ n2_ n3_ n4_ n5_ n6_ n7_ ⊢
       have HO_240000 := n0_
       have HO_240001 := n1_
       have BK237 := n2_
       have BK238 := n3_
       have BK239 := n4_
       have BK240 := n5_
       have BK241 := n6_
       have HB := n7_
       clear n0_ n1_ n2_ n3_ n4_ n5_ n6_ n7_
       replace BK240 : Aside0 (w23.heap[gb240]? = some (.cells #[.int .i64 P1, .int .i64 P2] 45 (0, 0))) := ⟨by rw [e1_, e2_]; exact BK240.out⟩
       replace BK241 : Aside0 (w23.heap[gb241]? = some (.cells #[.int .i64 Q1, .int .i64 Q2] 45 (0, 0))) := ⟨by rw [e3_, e4_]; exact BK241.out⟩
       clear e1_ e2_ e3_ e4_
      rotate_left
      focus
       go_wp2_with (first | ((with_reducible refine gate_dst (N := 6) rfl ?_); refine boxE (N := 6) (cs := #[.int .i64 0, .int .i64 0]) (t := 45) ?_; intro gb240 hg w10 hbox hb; have BK240 := Aside0.mk (hbox); have GW240 := Aside0.mk ((szA hg HB.out : w.heap.size ≤ gb240)); have GE240 := Aside0.mk ((szA hg HB.out : w.heap.size ≤ gb240)); have NB237_240 := Aside0.mk ((neL hg BK237.out : gb237 ≠ gb240)); have NB240_237 := Aside0.mk ((neG hg BK237.out : gb240 ≠ gb237)); have NB238_240 := Aside0.mk ((neL hg BK238.out : gb238 ≠ gb240)); have NB240_238 := Aside0.mk ((neG hg BK238.out : gb240 ≠ gb238)); have NB239_240 := Aside0.mk ((neL hg BK239.out : gb239 ≠ gb240)); have NB240_239 := Aside0.mk ((neG hg BK239.out : gb240 ≠ gb239)); replace HO_240000 := Aside0.mk (Kd.R_below (Kd.R_elderB (rowA HO_240000.out) gb240 (Nat.le_of_eq hg.symm)) hb); replace HO_240001 := Aside0.mk (Kd.R_below (Kd.R_elderB (rowA HO_240001.out) gb240 (Nat.le_of_eq hg.symm)) hb); replace BK237 := Aside0.mk (blk_below (g := gb237) (o := .cells #[.int .i64 a0_0, .int .i64 a0_1, .slice A0_2 l0_2.length c0_2] 69 (0, 0)) (blkA BK237.out) hb); replace BK238 := Aside0.mk (blk_below (g := gb238) (o := .cells #[.slice none 0 0, .slice none 0 0] 81 (0, 0)) (blkA BK238.out) hb); replace BK239 := Aside0.mk (blk_below (g := gb239) (o := .cells #[u240000, u240001] 81 (0, 0)) (blkA BK239.out) hb); replace HB := Aside0.mk (below_step (belA HB.out) hb); clear hb hbox hg; have hnb11 := NB240_237.out; have hnc11 := NB237_240.out; have hnb12 := NB240_238.out; have hnc12 := NB238_240.out; have hnb13 := NB240_239.out; have hnc13 := NB239_240.out; obtain ⟨hcz14_0, hcz14_1, hfz14_0, hfz14_1⟩ := bk2 BK240.out) | ((with_reducible refine gate_dst (N := 7) rfl ?_); refine boxE (N := 7) (cs := #[.int .i64 0, .int .i64 0]) (t := 45) ?_; intro gb241 hg w15 hbox hb; have BK241 := Aside0.mk (hbox); have GW241 := Aside0.mk ((szA hg HB.out : w.heap.size ≤ gb241)); have GE241 := Aside0.mk ((szA hg HB.out : w.heap.size ≤ gb241)); have NB237_241 := Aside0.mk ((neL hg BK237.out : gb237 ≠ gb241)); have NB241_237 := Aside0.mk ((neG hg BK237.out : gb241 ≠ gb237)); have NB238_241 := Aside0.mk ((neL hg BK238.out : gb238 ≠ gb241)); have NB241_238 := Aside0.mk ((neG hg BK238.out : gb241 ≠ gb238)); have NB239_241 := Aside0.mk ((neL hg BK239.out : gb239 ≠ gb241)); have NB241_239 := Aside0.mk ((neG hg BK239.out : gb241 ≠ gb239)); have NB240_241 := Aside0.mk ((neL hg BK240.out : gb240 ≠ gb241)); have NB241_240 := Aside0.mk ((neG hg BK240.out : gb241 ≠ gb240)); replace HO_240000 := Aside0.mk (Kd.R_below (Kd.R_elderB (by (with_reducible repeat (first | apply Kd.R_alloc | apply Kd.R_drewN | apply Kd.R_drew)); exact (Kd.R_mono (Kd.R_far (p := ⟨gb240, 1, none⟩) (Kd.R_far (p := ⟨gb240, 0, none⟩) (Kd.R_mono HO_240000.out (fun k_ hk => (⟨hk, hk.2⟩ : _ ∧ k_ ≠ gb240))) (fun _ hk => hk.2) (.int .i64 (wrap64 (14 - x10_1)))) (fun _ hk => hk.2) (.int .i64 8)) (fun _ h_ => h_.1))) gb241 (Nat.le_of_eq hg.symm)) hb); replace HO_240001 := Aside0.mk (Kd.R_below (Kd.R_elderB (by (with_reducible repeat (first | apply Kd.R_alloc | apply Kd.R_drewN | apply Kd.R_drew)); exact (Kd.R_mono (Kd.R_far (p := ⟨gb240, 1, none⟩) (Kd.R_far (p := ⟨gb240, 0, none⟩) (Kd.R_mono HO_240001.out (fun k_ hk => (⟨hk, hk.2⟩ : _ ∧ k_ ≠ gb240))) (fun _ hk => hk.2) (.int .i64 (wrap64 (14 - x10_1)))) (fun _ hk => hk.2) (.int .i64 8)) (fun _ h_ => h_.1))) gb241 (Nat.le_of_eq hg.symm)) hb); replace BK237 := Aside0.mk (blk_below (g := gb237) (o := .cells #[.int .i64 a0_0, .int .i64 a0_1, .slice A0_2 l0_2.length c0_2] 69 (0, 0)) (blkB BK237.out) hb); replace BK238 := Aside0.mk (blk_below (g := gb238) (o := .cells #[.slice none 0 0, .slice none 0 0] 81 (0, 0)) (blkB BK238.out) hb); replace BK239 := Aside0.mk (blk_below (g := gb239) (o := .cells #[u240000, u240001] 81 (0, 0)) (blkB BK239.out) hb); replace BK240 := Aside0.mk (blk_below (g := gb240) (o := .cells #[.int .i64 (wrap64 (14 - x10_1)), .int .i64 8] 45 (0, 0)) (blkB BK240.out) hb); replace HB := Aside0.mk (below_step (belA HB.out) hb); clear hb hbox hg; have hnb16 := NB241_237.out; have hnc16 := NB237_241.out; have hnb17 := NB241_238.out; have hnc17 := NB238_241.out; have hnb18 := NB241_239.out; have hnc18 := NB239_241.out; have hnb19 := NB241_240.out; have hnc19 := NB240_241.out; obtain ⟨hcz20_0, hcz20_1, hfz20_0, hfz20_1⟩ := bk2 BK241.out; obtain ⟨Ao21, co21, eo21⟩ := Kd.R_slice HO_240000.out; subst eo21; obtain ⟨Ao22, co22, eo22⟩ := Kd.R_slice HO_240001.out; subst eo22))
       have n0_ : Aside0 (Kd.R k45 45 ((((w15.setCell ⟨gb241, 0, none⟩ (.int .i64 (wrap64 ((wrap64 (a0_1 - 1)) - x10_1)))).setCell ⟨gb241, 1, none⟩ (.int .i64 8)).setCell ⟨gb241, 0, none⟩ (.int .i64 8)).setCell ⟨gb241, 1, none⟩ (.int .i64 (wrap64 ((wrap64 (a0_1 - 15)) + x10_1)))) w.heap.size (fun k_ => some k_ ≠ (.slice Ao22 x240001_1.length co22 : Value).ownBlock ∧ k_ ≠ gb240 ∧ k_ ≠ gb241) (.slice Ao21 x240000_1.length co21) x240000_1) := ⟨by (with_reducible repeat (first | apply Kd.R_alloc | apply Kd.R_drewN | apply Kd.R_drew)); exact Kd.R_mono (Kd.R_far (p := ⟨gb241, 1, none⟩) (Kd.R_far (p := ⟨gb241, 0, none⟩) (Kd.R_far (p := ⟨gb241, 1, none⟩) (Kd.R_far (p := ⟨gb241, 0, none⟩) (Kd.R_mono HO_240000.out (fun k_ hk => (⟨hk, hk.2⟩ : _ ∧ k_ ≠ gb241))) (fun _ hk => hk.2) (.int .i64 (wrap64 ((wrap64 (a0_1 - 1)) - x10_1)))) (fun _ hk => hk.2) (.int .i64 8)) (fun _ hk => hk.2) (.int .i64 8)) (fun _ hk => hk.2) (.int .i64 (wrap64 ((wrap64 (a0_1 - 15)) + x10_1)))) (fun _ hk => ⟨hk.1.1.1, ⟨hk.1.1.2, hk.1.2⟩⟩)⟩
       have n1_ : Aside0 (Kd.R k45 45 ((((w15.setCell ⟨gb241, 0, none⟩ (.int .i64 (wrap64 ((wrap64 (a0_1 - 1)) - x10_1)))).setCell ⟨gb241, 1, none⟩ (.int .i64 8)).setCell ⟨gb241, 0, none⟩ (.int .i64 8)).setCell ⟨gb241, 1, none⟩ (.int .i64 (wrap64 ((wrap64 (a0_1 - 15)) + x10_1)))) w.heap.size (fun k_ => some k_ ≠ (.slice Ao21 x240000_1.length co21 : Value).ownBlock ∧ k_ ≠ gb240 ∧ k_ ≠ gb241) (.slice Ao22 x240001_1.length co22) x240001_1) := ⟨by (with_reducible repeat (first | apply Kd.R_alloc | apply Kd.R_drewN | apply Kd.R_drew)); exact Kd.R_mono (Kd.R_far (p := ⟨gb241, 1, none⟩) (Kd.R_far (p := ⟨gb241, 0, none⟩) (Kd.R_far (p := ⟨gb241, 1, none⟩) (Kd.R_far (p := ⟨gb241, 0, none⟩) (Kd.R_mono HO_240001.out (fun k_ hk => (⟨hk, hk.2⟩ : _ ∧ k_ ≠ gb241))) (fun _ hk => hk.2) (.int .i64 (wrap64 ((wrap64 (a0_1 - 1)) - x10_1)))) (fun _ hk => hk.2) (.int .i64 8)) (fun _ hk => hk.2) (.int .i64 8)) (fun _ hk => hk.2) (.int .i64 (wrap64 ((wrap64 (a0_1 - 15)) + x10_1)))) (fun _ hk => ⟨hk.1.1.1, ⟨hk.1.1.2, hk.1.2⟩⟩)⟩
       have n2_ : Aside0 (((((w15.setCell ⟨gb241, 0, none⟩ (.int .i64 (wrap64 ((wrap64 (a0_1 - 1)) - x10_1)))).setCell ⟨gb241, 1, none⟩ (.int .i64 8)).setCell ⟨gb241, 0, none⟩ (.int .i64 8)).setCell ⟨gb241, 1, none⟩ (.int .i64 (wrap64 ((wrap64 (a0_1 - 15)) + x10_1)))).heap[gb237]? = some (.cells #[.int .i64 a0_0, .int .i64 a0_1, .slice A0_2 l0_2.length c0_2] 69 (0, 0))) := ⟨blkB BK237.out⟩
       have n3_ : Aside0 (((((w15.setCell ⟨gb241, 0, none⟩ (.int .i64 (wrap64 ((wrap64 (a0_1 - 1)) - x10_1)))).setCell ⟨gb241, 1, none⟩ (.int .i64 8)).setCell ⟨gb241, 0, none⟩ (.int .i64 8)).setCell ⟨gb241, 1, none⟩ (.int .i64 (wrap64 ((wrap64 (a0_1 - 15)) + x10_1)))).heap[gb238]? = some (.cells #[.slice none 0 0, .slice none 0 0] 81 (0, 0))) := ⟨blkB BK238.out⟩
       have n4_ : Aside0 (((((w15.setCell ⟨gb241, 0, none⟩ (.int .i64 (wrap64 ((wrap64 (a0_1 - 1)) - x10_1)))).setCell ⟨gb241, 1, none⟩ (.int .i64 8)).setCell ⟨gb241, 0, none⟩ (.int .i64 8)).setCell ⟨gb241, 1, none⟩ (.int .i64 (wrap64 ((wrap64 (a0_1 - 15)) + x10_1)))).heap[gb239]? = some (.cells #[.slice Ao21 x240000_1.length co21, .slice Ao22 x240001_1.length co22] 81 (0, 0))) := ⟨blkB BK239.out⟩
       have n5_ : Aside0 (((((w15.setCell ⟨gb241, 0, none⟩ (.int .i64 (wrap64 ((wrap64 (a0_1 - 1)) - x10_1)))).setCell ⟨gb241, 1, none⟩ (.int .i64 8)).setCell ⟨gb241, 0, none⟩ (.int .i64 8)).setCell ⟨gb241, 1, none⟩ (.int .i64 (wrap64 ((wrap64 (a0_1 - 15)) + x10_1)))).heap[gb240]? = some (.cells #[.int .i64 (wrap64 (14 - x10_1)), .int .i64 8] 45 (0, 0))) := ⟨blkB BK240.out⟩
       have n6_ : Aside0 (((((w15.setCell ⟨gb241, 0, none⟩ (.int .i64 (wrap64 ((wrap64 (a0_1 - 1)) - x10_1)))).setCell ⟨gb241, 1, none⟩ (.int .i64 8)).setCell ⟨gb241, 0, none⟩ (.int .i64 8)).setCell ⟨gb241, 1, none⟩ (.int .i64 (wrap64 ((wrap64 (a0_1 - 15)) + x10_1)))).heap[gb241]? = some (.cells #[.int .i64 8, .int .i64 (wrap64 ((wrap64 (a0_1 - 15)) + x10_1))] 45 (0, 0))) := ⟨blkB BK241.out⟩
       have n7_ : Aside0 (Below w.heap.size w ((((w15.setCell ⟨gb241, 0, none⟩ (.int .i64 (wrap64 ((wrap64 (a0_1 - 1)) - x10_1)))).setCell ⟨gb241, 1, none⟩ (.int .i64 8)).setCell ⟨gb241, 0, none⟩ (.int .i64 8)).setCell ⟨gb241, 1, none⟩ (.int .i64 (wrap64 ((wrap64 (a0_1 - 15)) + x10_1))))) := ⟨belA HB.out⟩
       (try clear HO_240000)
       (try clear HO_240001)
       (try clear BK237)
       (try clear BK238)
       (try clear BK239)
       (try clear BK240)
       (try clear BK241)
       (try clear HB)
       generalize ((((w15.setCell ⟨gb241, 0, none⟩ (.int .i64 (wrap64 ((wrap64 (a0_1 - 1)) - x10_1)))).setCell ⟨gb241, 1, none⟩ (.int .i64 8)).setCell ⟨gb241, 0, none⟩ (.int .i64 8)).setCell ⟨gb241, 1, none⟩ (.int .i64 (wrap64 ((wrap64 (a0_1 - 15)) + x10_1)))) = w23 at n0_ n1_ n2_ n3_ n4_ n5_ n6_ n7_ ⊢
       have HO_240000 := n0_
       have HO_240001 := n1_
       have BK237 := n2_
       have BK238 := n3_
       have BK239 := n4_
       have BK240 := n5_
       have BK241 := n6_
       have HB := n7_
       clear n0_ n1_ n2_ n3_ n4_ n5_ n6_ n7_
       replace BK240 : Aside0 (w23.heap[gb240]? = some (.cells #[.int .i64 P1, .int .i64 P2] 45 (0, 0))) := ⟨by rw [e1_, e2_]; exact BK240.out⟩
       replace BK241 : Aside0 (w23.heap[gb241]? = some (.cells #[.int .i64 Q1, .int .i64 Q2] 45 (0, 0))) := ⟨by rw [e3_, e4_]; exact BK241.out⟩
       clear e1_ e2_ e3_ e4_
      rotate_left
      all_goals
       have n0_ := Aside0.mk (Kd.R_drew HO_240000.out)
       have n1_ := Aside0.mk (Kd.R_drew HO_240001.out)
       have n2_ := Aside0.mk (blk_drew BK237.out)
       have n3_ := Aside0.mk (blk_drew BK238.out)
       have n4_ := Aside0.mk (blk_drew BK239.out)
       have n5_ := Aside0.mk (blk_drew BK240.out)
       have n6_ := Aside0.mk (blk_drew BK241.out)
       have n7_ := Aside0.mk (below_drew1 HB.out)
       clear HO_240000
       clear HO_240001
       clear BK237
       clear BK238
       clear BK239
       clear BK240
       clear BK241
       clear HB
       have HO_240000 := n0_
       have HO_240001 := n1_
       have BK237 := n2_
       have BK238 := n3_
       have BK239 := n4_
       have BK240 := n5_
       have BK241 := n6_
       have HB := n7_
       clear n0_ n1_ n2_ n3_ n4_ n5_ n6_ n7_
       refine start_ (n := 14) (S := fun w' => w'.cell? ⟨gb239, 0, none⟩ = some (.slice Ao21 x240000_1.length co21) ∧ w'.cell? ⟨gb239, 1, none⟩ = some (.slice Ao22 x240001_1.length co22) ∧ w'.cell? ⟨gb240, 0, none⟩ = some (.int .i64 P1) ∧ w'.cell? ⟨gb240, 1, none⟩ = some (.int .i64 P2) ∧ w'.cell? ⟨gb241, 0, none⟩ = some (.int .i64 Q1) ∧ w'.cell? ⟨gb241, 1, none⟩ = some (.int .i64 Q2)) (ds := [11, 13]) #[false, false, false, false, false, false, false, false, false, false, false, false, false, false] (by kernel_rfl) rfl rfl ⟨(blk_cell BK239.out 0).trans rfl, (blk_cell BK239.out 1).trans rfl, (blk_cell BK240.out 0).trans rfl, (blk_cell BK240.out 1).trans rfl, (blk_cell BK241.out 0).trans rfl, (blk_cell BK241.out 1).trans rfl⟩ (fun hHeld => ?_); refine with_tabW qrlayout_frame_format.tab17 qrlayout_frame_format.bits17 (fun HT_ HW_ => ?_)
       generalize w23.drew = w24 at HO_240000 HO_240001 BK237 BK238 BK239 BK240 BK241 HB hHeld ⊢
       refine pure_ (i := 0) (N := some 43) (v := ?_) (a' := ?_) #[true, false, false, false, false, false, false, false, false, false, false, false, false, false] rfl rfl (any_of HT_.out (by kernel_rfl)) (fun _ _ _ h => h) (Or.inl ⟨by rfl, ?_⟩) ?_ ?_
       rotate_left
       ·intro w'
        go_simp
        with_reducible rfl
       rotate_left
       ·simp only [Act.put, List.setIfInBounds_toArray, List.set_cons_zero, List.set_cons_succ, i64_w, i32_w]
        rfl
       refine pure_ (i := 5) (N := some 48) (v := ?_) (a' := ?_) #[true, false, false, false, false, true, false, false, false, false, false, false, false, false] rfl rfl (any_of HT_.out (by kernel_rfl)) (fun _ _ _ h => h) (Or.inl ⟨by rfl, ?_⟩) ?_ ?_
       rotate_left
       ·intro w'
        go_simp
        with_reducible rfl
       rotate_left
       ·simp only [Act.put, List.setIfInBounds_toArray, List.set_cons_zero, List.set_cons_succ, i64_w, i32_w]
        rfl
       refine take_ (i := 1) (N := some 44) (v := ?_) (a' := ?_) #[true, true, false, false, false, true, false, false, false, false, false, false, false, false] rfl rfl (take_ofW HT_.out HW_.out (by kernel_rfl)) (fun _ _ _ h => h) (Or.inl ⟨by rfl, ?_⟩) hHeld ?_ ?_
       rotate_left
       ·rintro w' ⟨s0, s1, s2, s3, s4, s5⟩
        go_simp
        with_reducible rfl
       rotate_left
       ·simp only [Act.put, List.setIfInBounds_toArray, List.set_cons_zero, List.set_cons_succ, i64_w, i32_w]
        rfl
       refine take_ (i := 2) (N := some 45) (v := ?_) (a' := ?_) #[true, true, true, false, false, true, false, false, false, false, false, false, false, false] rfl rfl (take_ofW HT_.out HW_.out (by kernel_rfl)) (fun _ _ _ h => h) (Or.inl ⟨by rfl, ?_⟩) hHeld ?_ ?_
       rotate_left
       ·rintro w' ⟨s0, s1, s2, s3, s4, s5⟩
        go_simp
        with_reducible rfl
       rotate_left
       ·simp only [Act.put, List.setIfInBounds_toArray, List.set_cons_zero, List.set_cons_succ, i64_w, i32_w]
        rfl
       refine take_ (i := 6) (N := some 49) (v := ?_) (a' := ?_) #[true, true, true, false, false, true, true, false, false, false, false, false, false, false] rfl rfl (take_ofW HT_.out HW_.out (by kernel_rfl)) (fun _ _ _ h => h) (Or.inl ⟨by rfl, ?_⟩) hHeld ?_ ?_
       rotate_left
       ·rintro w' ⟨s0, s1, s2, s3, s4, s5⟩
        go_simp
        with_reducible rfl
       rotate_left
       ·simp only [Act.put, List.setIfInBounds_toArray, List.set_cons_zero, List.set_cons_succ, i64_w, i32_w]
        rfl
       refine take_ (i := 7) (N := some 50) (v := ?_) (a' := ?_) #[true, true, true, false, false, true, true, true, false, false, false, false, false, false] rfl rfl (take_ofW HT_.out HW_.out (by kernel_rfl)) (fun _ _ _ h => h) (Or.inl ⟨by rfl, ?_⟩) hHeld ?_ ?_
       rotate_left
       ·rintro w' ⟨s0, s1, s2, s3, s4, s5⟩
        go_simp
        with_reducible rfl
       rotate_left
       ·simp only [Act.put, List.setIfInBounds_toArray, List.set_cons_zero, List.set_cons_succ, i64_w, i32_w]
        rfl
       refine join_ (σ := Value × Value × Value) 4 #[true, true, true, true, true, true, true, true, true, false, true, false, false, false] (fun s_ => [(46, s_.1), (47, s_.2.1), (51, s_.2.2), (53, Value.pointer (some ⟨gb239, 0, none⟩))]) (fun s_ w' => (w'.cell? ⟨gb239, 0, none⟩ = some (.slice Ao21 x240000_1.length co21) ∧ w'.cell? ⟨gb239, 1, none⟩ = some (.slice Ao22 x240001_1.length co22) ∧ w'.cell? ⟨gb240, 0, none⟩ = some (.int .i64 P1) ∧ w'.cell? ⟨gb240, 1, none⟩ = some (.int .i64 P2) ∧ w'.cell? ⟨gb241, 0, none⟩ = some (.int .i64 Q1) ∧ w'.cell? ⟨gb241, 1, none⟩ = some (.int .i64 Q2)) ∧ (Kd.R k45 45 w' w.heap.size (fun k_ => some k_ ≠ (s_.2.1 : Value).ownBlock ∧ some k_ ≠ (s_.2.2 : Value).ownBlock ∧ some k_ ≠ (.slice Ao22 x240001_1.length co22 : Value).ownBlock ∧ k_ ≠ gb240 ∧ k_ ≠ gb241) s_.1 y242) ∧ (Kd.R k45 45 w' w.heap.size (fun k_ => some k_ ≠ (s_.1 : Value).ownBlock ∧ some k_ ≠ (s_.2.2 : Value).ownBlock ∧ some k_ ≠ (.slice Ao22 x240001_1.length co22 : Value).ownBlock ∧ k_ ≠ gb240 ∧ k_ ≠ gb241) s_.2.1 y245) ∧ (Kd.R k45 45 w' w.heap.size (fun k_ => some k_ ≠ (s_.1 : Value).ownBlock ∧ some k_ ≠ (s_.2.1 : Value).ownBlock ∧ some k_ ≠ (.slice Ao22 x240001_1.length co22 : Value).ownBlock ∧ k_ ≠ gb240 ∧ k_ ≠ gb241) s_.2.2 y248) ∧ (Kd.R k45 45 w' w.heap.size (fun k_ => some k_ ≠ (s_.1 : Value).ownBlock ∧ some k_ ≠ (s_.2.1 : Value).ownBlock ∧ some k_ ≠ (s_.2.2 : Value).ownBlock ∧ k_ ≠ gb240 ∧ k_ ≠ gb241) (.slice Ao22 x240001_1.length co22) x240001_1) ∧ (w'.heap[gb237]? = some (.cells #[.int .i64 a0_0, .int .i64 a0_1, .slice A0_2 l0_2.length c0_2] 69 (0, 0))) ∧ (w'.heap[gb238]? = some (.cells #[.slice none 0 0, .slice none 0 0] 81 (0, 0))) ∧ (w'.heap[gb239]? = some (.cells #[.slice Ao21 x240000_1.length co21, .slice Ao22 x240001_1.length co22] 81 (0, 0))) ∧ (w'.heap[gb240]? = some (.cells #[.int .i64 P1, .int .i64 P2] 45 (0, 0))) ∧ (w'.heap[gb241]? = some (.cells #[.int .i64 Q1, .int .i64 Q2] 45 (0, 0))) ∧ (Below w.heap.size w w')) ?_ ?_
       rotate_left
       ·intro hCont
        refine two_ (i := 3) (j := 8) (Ni := some 46) (Nj := some 51) #[true, true, true, true, false, true, true, true, false, false, false, false, false, false] #[true, true, true, false, false, true, true, true, true, false, false, false, false, false] rfl rfl rfl rfl (two_of HT_.out (by kernel_rfl)) (by decide) (by decide) (fun K hK => ?_) (fun K hK => ?_)
        ·skip
         refine Kd.R_lit_step k45 _ 45 ?hg (N := 46) ?hd (xs := ([(⟨P1, P2⟩ : S45)] : List (S45))) (inner := [.int .i64 P1, .int .i64 P2]) (ok := fun _ => True) (okp := fun _ => True) ?hr ?hp (fun _ hk => hk) trivial (Below.refl _ _) (Nat.le_refl _) (by simp) ?_; (case hd => rfl); (case hg => rfl); (case hr => first | (go_simp; done) | (go_simp; rfl)); (case hp => exact (Reps.c2 (show Kd.M k45 _ _ _ (⟨P1, P2⟩ : S45) [.int .i64 P1, .int .i64 P2] from (k45_mkM _ _ _ (⟨P1, P2⟩ : S45) )) (Reps.none _ _)))
         intro v243 w25 ho26 hb hg_ hnew_
         clear hg_ hnew_
         (first | rw [← Ny242.out] at ho26 | (simp only [Int.reduceToNat] at ho26; rw [← Ny242.out] at ho26))
         have n0_ := Aside0.mk (Kd.R_elder' (rowA HO_240000.out) (Kd.R_base ho26) hb)
         have n1_ := Aside0.mk (Kd.R_elder' (rowA HO_240001.out) (Kd.R_base ho26) hb)
         have n2_ := Aside0.mk (Kd.R_lower (Kd.R_newB (Kd.R_newB (Kd.R_new' (Kd.R_new' ho26 (Kd.R_lt (rowA HO_240000.out))) (Kd.R_lt (rowA HO_240001.out))) (g := gb240) (o := .cells #[.int .i64 P1, .int .i64 P2] 45 (0, 0)) (blkA BK240.out)) (g := gb241) (o := .cells #[.int .i64 Q1, .int .i64 Q2] 45 (0, 0)) (blkA BK241.out)) (below_size (belA HB.out)))
         have n3_ := Aside0.mk (blk_below (g := gb237) (o := .cells #[.int .i64 a0_0, .int .i64 a0_1, .slice A0_2 l0_2.length c0_2] 69 (0, 0)) (blkA BK237.out) hb)
         have n4_ := Aside0.mk (blk_below (g := gb238) (o := .cells #[.slice none 0 0, .slice none 0 0] 81 (0, 0)) (blkA BK238.out) hb)
         have n5_ := Aside0.mk (blk_below (g := gb239) (o := .cells #[.slice Ao21 x240000_1.length co21, .slice Ao22 x240001_1.length co22] 81 (0, 0)) (blkA BK239.out) hb)
         have n6_ := Aside0.mk (blk_below (g := gb240) (o := .cells #[.int .i64 P1, .int .i64 P2] 45 (0, 0)) (blkA BK240.out) hb)
         have n7_ := Aside0.mk (blk_below (g := gb241) (o := .cells #[.int .i64 Q1, .int .i64 Q2] 45 (0, 0)) (blkA BK241.out) hb)
         have n8_ := Aside0.mk (below_step (belA HB.out) hb)
         clear HO_240000
         clear HO_240001
         clear BK237
         clear BK238
         clear BK239
         clear BK240
         clear BK241
         clear HB
         have HO_240000 := n0_
         have HO_240001 := n1_
         have HO244 := n2_
         have BK237 := n3_
         have BK238 := n4_
         have BK239 := n5_
         have BK240 := n6_
         have BK241 := n7_
         have HB := n8_
         clear n0_ n1_ n2_ n3_ n4_ n5_ n6_ n7_ n8_
         clear hb ho26
         obtain ⟨Ao28, co28, eo28⟩ := Kd.R_slice HO244.out
         (first | subst eo28 | (injection eo28 with f1_ f2_ f3_; have f4_ := f1_.symm; have f5_ := f3_.symm; clear f1_ f2_ f3_; subst f4_; subst f5_))
         refine hK.out _ _ ⟨(blk_cell BK239.out 0).trans rfl, (blk_cell BK239.out 1).trans rfl, (blk_cell BK240.out 0).trans rfl, (blk_cell BK240.out 1).trans rfl, (blk_cell BK241.out 0).trans rfl, (blk_cell BK241.out 1).trans rfl⟩ (fun hHeld => ?_)
         clear hK K
         refine norm_ (a' := ?_) ?_ ?_
         rotate_left
         ·show Act.put _ (some 46) _ = _
          simp only [Act.put, List.setIfInBounds_toArray, List.set_cons_zero, List.set_cons_succ, i64_w, i32_w]
          rfl
         refine two_ (i := 4) (j := 8) (Ni := some 47) (Nj := some 51) #[true, true, true, true, true, true, true, true, false, false, false, false, false, false] #[true, true, true, true, false, true, true, true, true, false, false, false, false, false] rfl rfl rfl rfl (two_of HT_.out (by kernel_rfl)) (by decide) (by decide) (fun K hK => ?_) (fun K hK => ?_)
         ·skip
          refine Kd.R_append_rows_step k45 (w0 := w) w.heap.size (by rfl) (.tmp 44) (.tmp 46) 51 45 (.agg #[(.int .i64 0), (.int .i64 0)]) 16 rfl Try.underlying51 info45 rfl (by decide) (by omega) (.slice Ao21 x240000_1.length co21) x240000_1 y242 _ _ _ (fun k_ => some k_ ≠ (.slice Ao22 x240001_1.length co22 : Value).ownBlock ∧ some k_ ≠ (.slice Ao28 y242.length co28 : Value).ownBlock ∧ k_ ≠ gb240 ∧ k_ ≠ gb241) (fun _ => False) rfl rfl ?aO ?aR (fun _ _ h => h) (fun _ h => h.elim) ?aF ?aB ?aS ?aL ?_
          (case aR => repeat (first | exact (Kd.R_reads' HO244.out).2.2 | (with_reducible refine Kd.C_alloc ?_ _) | (with_reducible refine Kd.C_drewN ?_ _) | (with_reducible refine Kd.C_drew ?_)))
          (case aB => exact (belA HB.out))
          (case aF => exact (fun k_ hk => ⟨Kd.fresh' (Kd.R_lt (rowA HO_240001.out)) k_ hk, Kd.fresh' (Kd.R_lt (rowA HO244.out)) k_ hk, Kd.freshB (g := gb240) (o := .cells #[.int .i64 P1, .int .i64 P2] 45 (0, 0)) (blkA BK240.out) k_ hk, Kd.freshB (g := gb241) (o := .cells #[.int .i64 Q1, .int .i64 Q2] 45 (0, 0)) (blkA BK241.out) k_ hk⟩))
          (case aO => exact (by (with_reducible repeat (first | apply Kd.R_alloc | apply Kd.R_drewN | apply Kd.R_drew)); exact Kd.R_mono HO_240000.out (fun _ hk => ⟨hk.1.1, ⟨hk.2, ⟨hk.1.2.1, hk.1.2.2⟩⟩⟩)))
          (case aS => exact (below_size (belA HB.out)))
          (case aL => have := LMc8.out; omega)
          intro v246 w27 ho hb hg hat
          rw [← Ny245.out] at ho
          have n0_ := Aside0.mk (Kd.R_after (ok := (fun k_ => some k_ ≠ (.slice Ao28 y242.length co28 : Value).ownBlock ∧ k_ ≠ gb240 ∧ k_ ≠ gb241)) (by (with_reducible repeat (first | apply Kd.R_alloc | apply Kd.R_drewN | apply Kd.R_drew)); exact Kd.R_mono HO_240001.out (fun _ hk => ⟨⟨hk.2, ⟨hk.1.2.1, hk.1.2.2⟩⟩, hk.1.1⟩)) hg hat)
          have n1_ := Aside0.mk (blk_grown (g := gb237) (o := .cells #[.int .i64 a0_0, .int .i64 a0_1, .slice A0_2 l0_2.length c0_2] 69 (0, 0)) (blkA BK237.out) hg (Kd.R_ne HO_240000.out BK237.out (by decide)))
          have n2_ := Aside0.mk (blk_grown (g := gb238) (o := .cells #[.slice none 0 0, .slice none 0 0] 81 (0, 0)) (blkA BK238.out) hg (Kd.R_ne HO_240000.out BK238.out (by decide)))
          have n3_ := Aside0.mk (blk_grown (g := gb239) (o := .cells #[.slice Ao21 x240000_1.length co21, .slice Ao22 x240001_1.length co22] 81 (0, 0)) (blkA BK239.out) hg (Kd.R_ne HO_240000.out BK239.out (by decide)))
          have n4_ := Aside0.mk (blk_grown (g := gb240) (o := .cells #[.int .i64 P1, .int .i64 P2] 45 (0, 0)) (blkA BK240.out) hg (Kd.R_away HO_240000.out (fun _ hk => hk.1.2.1)))
          have n5_ := Aside0.mk (blk_grown (g := gb241) (o := .cells #[.int .i64 Q1, .int .i64 Q2] 45 (0, 0)) (blkA BK241.out) hg (Kd.R_away HO_240000.out (fun _ hk => hk.1.2.2)))
          have n6_ := Aside0.mk (Kd.R_after (ok := (fun k_ => some k_ ≠ (.slice Ao22 x240001_1.length co22 : Value).ownBlock ∧ k_ ≠ gb240 ∧ k_ ≠ gb241)) (by (with_reducible repeat (first | apply Kd.R_alloc | apply Kd.R_drewN | apply Kd.R_drew)); exact Kd.R_mono HO244.out (fun _ hk => ⟨⟨hk.1.1.2, ⟨hk.1.2, hk.2⟩⟩, hk.1.1.1.2⟩)) hg hat)
          have n7_ := Aside0.mk (hb)
          have n8_ := Aside0.mk (ho)
          clear HO_240001
          clear BK237
          clear BK238
          clear BK239
          clear BK240
          clear BK241
          clear HO244
          clear HB
          clear HO_240000
          have HO_240001 := n0_
          have BK237 := n1_
          have BK238 := n2_
          have BK239 := n3_
          have BK240 := n4_
          have BK241 := n5_
          have HO244 := n6_
          have HB := n7_
          have HO247 := n8_
          clear n0_ n1_ n2_ n3_ n4_ n5_ n6_ n7_ n8_
          clear ho hb hg hat
          refine hK.out _ _ ⟨(blk_cell BK239.out 0).trans rfl, (blk_cell BK239.out 1).trans rfl, (blk_cell BK240.out 0).trans rfl, (blk_cell BK240.out 1).trans rfl, (blk_cell BK241.out 0).trans rfl, (blk_cell BK241.out 1).trans rfl⟩ (fun hHeld => ?_)
          clear hK K
          refine norm_ (a' := ?_) ?_ ?_
          rotate_left
          ·show Act.put _ (some 47) _ = _
           simp only [Act.put, List.setIfInBounds_toArray, List.set_cons_zero, List.set_cons_succ, i64_w, i32_w]
           rfl
          refine pure_ (i := 10) (N := some 53) (v := ?_) (a' := ?_) #[true, true, true, true, true, true, true, true, false, false, true, false, false, false] rfl rfl (any_of HT_.out (by kernel_rfl)) (fun _ _ _ h => h) (Or.inl ⟨by rfl, ?_⟩) ?_ ?_
          rotate_left
          ·intro w'
           go_simp
           with_reducible rfl
          rotate_left
          ·simp only [Act.put, List.setIfInBounds_toArray, List.set_cons_zero, List.set_cons_succ, i64_w, i32_w]
           rfl
          refine one_ (i := 8) (N := some 51) #[true, true, true, true, true, true, true, true, true, false, true, false, false, false] rfl rfl (one_of HT_.out (by kernel_rfl)) (by decide) (fun K hK => ?_)
          refine Kd.R_lit_step k45 _ 45 ?hg (N := 51) ?hd (xs := ([(⟨Q1, Q2⟩ : S45)] : List (S45))) (inner := [.int .i64 Q1, .int .i64 Q2]) (ok := fun _ => True) (okp := fun _ => True) ?hr ?hp (fun _ hk => hk) trivial (Below.refl _ _) (Nat.le_refl _) (by simp) ?_; (case hd => rfl); (case hg => rfl); (case hr => first | (go_simp; done) | (go_simp; rfl)); (case hp => exact (Reps.c2 (show Kd.M k45 _ _ _ (⟨Q1, Q2⟩ : S45) [.int .i64 Q1, .int .i64 Q2] from (k45_mkM _ _ _ (⟨Q1, Q2⟩ : S45) )) (Reps.none _ _)))
          intro v249 w29 ho30 hb hg_ hnew_
          clear hg_ hnew_
          (first | rw [← Ny248.out] at ho30 | (simp only [Int.reduceToNat] at ho30; rw [← Ny248.out] at ho30))
          have n0_ := Aside0.mk (Kd.R_elder' (rowA HO_240001.out) (Kd.R_base ho30) hb)
          have n1_ := Aside0.mk (Kd.R_elder' (rowA HO244.out) (Kd.R_base ho30) hb)
          have n2_ := Aside0.mk (Kd.R_elder' (rowA HO247.out) (Kd.R_base ho30) hb)
          have n3_ := Aside0.mk (Kd.R_lower (Kd.R_newB (Kd.R_newB (Kd.R_new' (Kd.R_new' (Kd.R_new' ho30 (Kd.R_lt (rowA HO_240001.out))) (Kd.R_lt (rowA HO244.out))) (Kd.R_lt (rowA HO247.out))) (g := gb240) (o := .cells #[.int .i64 P1, .int .i64 P2] 45 (0, 0)) (blkA BK240.out)) (g := gb241) (o := .cells #[.int .i64 Q1, .int .i64 Q2] 45 (0, 0)) (blkA BK241.out)) (below_size (belA HB.out)))
          have n4_ := Aside0.mk (blk_below (g := gb237) (o := .cells #[.int .i64 a0_0, .int .i64 a0_1, .slice A0_2 l0_2.length c0_2] 69 (0, 0)) (blkA BK237.out) hb)
          have n5_ := Aside0.mk (blk_below (g := gb238) (o := .cells #[.slice none 0 0, .slice none 0 0] 81 (0, 0)) (blkA BK238.out) hb)
          have n6_ := Aside0.mk (blk_below (g := gb239) (o := .cells #[.slice Ao21 x240000_1.length co21, .slice Ao22 x240001_1.length co22] 81 (0, 0)) (blkA BK239.out) hb)
          have n7_ := Aside0.mk (blk_below (g := gb240) (o := .cells #[.int .i64 P1, .int .i64 P2] 45 (0, 0)) (blkA BK240.out) hb)
          have n8_ := Aside0.mk (blk_below (g := gb241) (o := .cells #[.int .i64 Q1, .int .i64 Q2] 45 (0, 0)) (blkA BK241.out) hb)
          have n9_ := Aside0.mk (below_step (belA HB.out) hb)
          clear HO_240001
          clear HO244
          clear HO247
          clear BK237
          clear BK238
          clear BK239
          clear BK240
          clear BK241
          clear HB
          have HO_240001 := n0_
          have HO244 := n1_
          have HO247 := n2_
          have HO250 := n3_
          have BK237 := n4_
          have BK238 := n5_
          have BK239 := n6_
          have BK240 := n7_
          have BK241 := n8_
          have HB := n9_
          clear n0_ n1_ n2_ n3_ n4_ n5_ n6_ n7_ n8_ n9_
          clear hb ho30
          refine hK.out _ _ ⟨(blk_cell BK239.out 0).trans rfl, (blk_cell BK239.out 1).trans rfl, (blk_cell BK240.out 0).trans rfl, (blk_cell BK240.out 1).trans rfl, (blk_cell BK241.out 0).trans rfl, (blk_cell BK241.out 1).trans rfl⟩ (fun hHeld => ?_)
          clear hK K
          refine norm_ (a' := ?_) ?_ ?_
          rotate_left
          ·show Act.put _ (some 51) _ = _
           simp only [Act.put, List.setIfInBounds_toArray, List.set_cons_zero, List.set_cons_succ, i64_w, i32_w]
           rfl
          exact norm_ (by simp only [putAll, Act.put, List.setIfInBounds_toArray, List.set_cons_zero, List.set_cons_succ]) (hCont (.slice Ao28 y242.length co28, v246, v249) _ ⟨hHeld, (by (with_reducible repeat (first | apply Kd.R_alloc | apply Kd.R_drewN | apply Kd.R_drew)); exact Kd.R_mono HO244.out (fun _ hk => ⟨hk.1.2, ⟨hk.2, ⟨hk.1.1.1, ⟨hk.1.1.2.1, hk.1.1.2.2⟩⟩⟩⟩)), (by (with_reducible repeat (first | apply Kd.R_alloc | apply Kd.R_drewN | apply Kd.R_drew)); exact Kd.R_mono HO247.out (fun _ hk => ⟨hk.1.2.1, ⟨hk.2, ⟨hk.1.1, ⟨hk.1.2.2.1, hk.1.2.2.2⟩⟩⟩⟩)), (by (with_reducible repeat (first | apply Kd.R_alloc | apply Kd.R_drewN | apply Kd.R_drew)); exact Kd.R_mono HO250.out (fun _ hk => ⟨hk.1.1.1.2, ⟨hk.1.1.2, ⟨hk.1.1.1.1.2, ⟨hk.1.2, hk.2⟩⟩⟩⟩)), (by (with_reducible repeat (first | apply Kd.R_alloc | apply Kd.R_drewN | apply Kd.R_drew)); exact Kd.R_mono HO_240001.out (fun _ hk => ⟨hk.1.1.1, ⟨hk.1.2, ⟨hk.2, ⟨hk.1.1.2.1, hk.1.1.2.2⟩⟩⟩⟩)), (blkA BK237.out), (blkA BK238.out), (blkA BK239.out), (blkA BK240.out), (blkA BK241.out), (belA HB.out)⟩)
         ·skip
          refine Kd.R_lit_step k45 _ 45 ?hg (N := 51) ?hd (xs := ([(⟨Q1, Q2⟩ : S45)] : List (S45))) (inner := [.int .i64 Q1, .int .i64 Q2]) (ok := fun _ => True) (okp := fun _ => True) ?hr ?hp (fun _ hk => hk) trivial (Below.refl _ _) (Nat.le_refl _) (by simp) ?_; (case hd => rfl); (case hg => rfl); (case hr => first | (go_simp; done) | (go_simp; rfl)); (case hp => exact (Reps.c2 (show Kd.M k45 _ _ _ (⟨Q1, Q2⟩ : S45) [.int .i64 Q1, .int .i64 Q2] from (k45_mkM _ _ _ (⟨Q1, Q2⟩ : S45) )) (Reps.none _ _)))
          intro v249 w27 ho28 hb hg_ hnew_
          clear hg_ hnew_
          (first | rw [← Ny248.out] at ho28 | (simp only [Int.reduceToNat] at ho28; rw [← Ny248.out] at ho28))
          have n0_ := Aside0.mk (Kd.R_elder' (rowA HO_240000.out) (Kd.R_base ho28) hb)
          have n1_ := Aside0.mk (Kd.R_elder' (rowA HO_240001.out) (Kd.R_base ho28) hb)
          have n2_ := Aside0.mk (Kd.R_elder' (rowA HO244.out) (Kd.R_base ho28) hb)
          have n3_ := Aside0.mk (Kd.R_lower (Kd.R_newB (Kd.R_newB (Kd.R_new' (Kd.R_new' (Kd.R_new' ho28 (Kd.R_lt (rowA HO_240000.out))) (Kd.R_lt (rowA HO_240001.out))) (Kd.R_lt (rowA HO244.out))) (g := gb240) (o := .cells #[.int .i64 P1, .int .i64 P2] 45 (0, 0)) (blkA BK240.out)) (g := gb241) (o := .cells #[.int .i64 Q1, .int .i64 Q2] 45 (0, 0)) (blkA BK241.out)) (below_size (belA HB.out)))
          have n4_ := Aside0.mk (blk_below (g := gb237) (o := .cells #[.int .i64 a0_0, .int .i64 a0_1, .slice A0_2 l0_2.length c0_2] 69 (0, 0)) (blkA BK237.out) hb)
          have n5_ := Aside0.mk (blk_below (g := gb238) (o := .cells #[.slice none 0 0, .slice none 0 0] 81 (0, 0)) (blkA BK238.out) hb)
          have n6_ := Aside0.mk (blk_below (g := gb239) (o := .cells #[.slice Ao21 x240000_1.length co21, .slice Ao22 x240001_1.length co22] 81 (0, 0)) (blkA BK239.out) hb)
          have n7_ := Aside0.mk (blk_below (g := gb240) (o := .cells #[.int .i64 P1, .int .i64 P2] 45 (0, 0)) (blkA BK240.out) hb)
          have n8_ := Aside0.mk (blk_below (g := gb241) (o := .cells #[.int .i64 Q1, .int .i64 Q2] 45 (0, 0)) (blkA BK241.out) hb)
          have n9_ := Aside0.mk (below_step (belA HB.out) hb)
          clear HO_240000
          clear HO_240001
          clear HO244
          clear BK237
          clear BK238
          clear BK239
          clear BK240
          clear BK241
          clear HB
          have HO_240000 := n0_
          have HO_240001 := n1_
          have HO244 := n2_
          have HO250 := n3_
          have BK237 := n4_
          have BK238 := n5_
          have BK239 := n6_
          have BK240 := n7_
          have BK241 := n8_
          have HB := n9_
          clear n0_ n1_ n2_ n3_ n4_ n5_ n6_ n7_ n8_ n9_
          clear hb ho28
          obtain ⟨Ao30, co30, eo30⟩ := Kd.R_slice HO244.out
          (first | subst eo30 | (injection eo30 with f1_ f2_ f3_; have f4_ := f1_.symm; have f5_ := f3_.symm; clear f1_ f2_ f3_; subst f4_; subst f5_))
          refine hK.out _ _ ⟨(blk_cell BK239.out 0).trans rfl, (blk_cell BK239.out 1).trans rfl, (blk_cell BK240.out 0).trans rfl, (blk_cell BK240.out 1).trans rfl, (blk_cell BK241.out 0).trans rfl, (blk_cell BK241.out 1).trans rfl⟩ (fun hHeld => ?_)
          clear hK K
          refine norm_ (a' := ?_) ?_ ?_
          rotate_left
          ·show Act.put _ (some 51) _ = _
           simp only [Act.put, List.setIfInBounds_toArray, List.set_cons_zero, List.set_cons_succ, i64_w, i32_w]
           rfl
          refine one_ (i := 4) (N := some 47) #[true, true, true, true, true, true, true, true, true, false, false, false, false, false] rfl rfl (one_of HT_.out (by kernel_rfl)) (by decide) (fun K hK => ?_)
          refine Kd.R_append_rows_step k45 (w0 := w) w.heap.size (by rfl) (.tmp 44) (.tmp 46) 51 45 (.agg #[(.int .i64 0), (.int .i64 0)]) 16 rfl Try.underlying51 info45 rfl (by decide) (by omega) (.slice Ao21 x240000_1.length co21) x240000_1 y242 _ _ _ (fun k_ => some k_ ≠ (.slice Ao22 x240001_1.length co22 : Value).ownBlock ∧ some k_ ≠ (.slice Ao30 y242.length co30 : Value).ownBlock ∧ some k_ ≠ (v249 : Value).ownBlock ∧ k_ ≠ gb240 ∧ k_ ≠ gb241) (fun _ => False) rfl rfl ?aO ?aR (fun _ _ h => h) (fun _ h => h.elim) ?aF ?aB ?aS ?aL ?_
          (case aR => repeat (first | exact (Kd.R_reads' HO244.out).2.2 | (with_reducible refine Kd.C_alloc ?_ _) | (with_reducible refine Kd.C_drewN ?_ _) | (with_reducible refine Kd.C_drew ?_)))
          (case aB => exact (belA HB.out))
          (case aF => exact (fun k_ hk => ⟨Kd.fresh' (Kd.R_lt (rowA HO_240001.out)) k_ hk, Kd.fresh' (Kd.R_lt (rowA HO244.out)) k_ hk, Kd.fresh' (Kd.R_lt (rowA HO250.out)) k_ hk, Kd.freshB (g := gb240) (o := .cells #[.int .i64 P1, .int .i64 P2] 45 (0, 0)) (blkA BK240.out) k_ hk, Kd.freshB (g := gb241) (o := .cells #[.int .i64 Q1, .int .i64 Q2] 45 (0, 0)) (blkA BK241.out) k_ hk⟩))
          (case aO => exact (by (with_reducible repeat (first | apply Kd.R_alloc | apply Kd.R_drewN | apply Kd.R_drew)); exact Kd.R_mono HO_240000.out (fun _ hk => ⟨hk.1.1.1, ⟨hk.1.2, ⟨hk.2, ⟨hk.1.1.2.1, hk.1.1.2.2⟩⟩⟩⟩)))
          (case aS => exact (below_size (belA HB.out)))
          (case aL => have := LMc8.out; omega)
          intro v246 w29 ho hb hg hat
          rw [← Ny245.out] at ho
          have n0_ := Aside0.mk (Kd.R_after (ok := (fun k_ => some k_ ≠ (.slice Ao30 y242.length co30 : Value).ownBlock ∧ some k_ ≠ (v249 : Value).ownBlock ∧ k_ ≠ gb240 ∧ k_ ≠ gb241)) (by (with_reducible repeat (first | apply Kd.R_alloc | apply Kd.R_drewN | apply Kd.R_drew)); exact Kd.R_mono HO_240001.out (fun _ hk => ⟨⟨hk.1.2, ⟨hk.2, ⟨hk.1.1.2.1, hk.1.1.2.2⟩⟩⟩, hk.1.1.1⟩)) hg hat)
          have n1_ := Aside0.mk (blk_grown (g := gb237) (o := .cells #[.int .i64 a0_0, .int .i64 a0_1, .slice A0_2 l0_2.length c0_2] 69 (0, 0)) (blkA BK237.out) hg (Kd.R_ne HO_240000.out BK237.out (by decide)))
          have n2_ := Aside0.mk (blk_grown (g := gb238) (o := .cells #[.slice none 0 0, .slice none 0 0] 81 (0, 0)) (blkA BK238.out) hg (Kd.R_ne HO_240000.out BK238.out (by decide)))
          have n3_ := Aside0.mk (blk_grown (g := gb239) (o := .cells #[.slice Ao21 x240000_1.length co21, .slice Ao22 x240001_1.length co22] 81 (0, 0)) (blkA BK239.out) hg (Kd.R_ne HO_240000.out BK239.out (by decide)))
          have n4_ := Aside0.mk (blk_grown (g := gb240) (o := .cells #[.int .i64 P1, .int .i64 P2] 45 (0, 0)) (blkA BK240.out) hg (Kd.R_away HO_240000.out (fun _ hk => hk.1.1.2.1)))
          have n5_ := Aside0.mk (blk_grown (g := gb241) (o := .cells #[.int .i64 Q1, .int .i64 Q2] 45 (0, 0)) (blkA BK241.out) hg (Kd.R_away HO_240000.out (fun _ hk => hk.1.1.2.2)))
          have n6_ := Aside0.mk (Kd.R_after (ok := (fun k_ => some k_ ≠ (.slice Ao22 x240001_1.length co22 : Value).ownBlock ∧ some k_ ≠ (v249 : Value).ownBlock ∧ k_ ≠ gb240 ∧ k_ ≠ gb241)) (by (with_reducible repeat (first | apply Kd.R_alloc | apply Kd.R_drewN | apply Kd.R_drew)); exact Kd.R_mono HO244.out (fun _ hk => ⟨⟨hk.1.1.1.2, ⟨hk.2, ⟨hk.1.1.2, hk.1.2⟩⟩⟩, hk.1.1.1.1.2⟩)) hg hat)
          have n7_ := Aside0.mk (Kd.R_after (ok := (fun k_ => some k_ ≠ (.slice Ao22 x240001_1.length co22 : Value).ownBlock ∧ some k_ ≠ (.slice Ao30 y242.length co30 : Value).ownBlock ∧ k_ ≠ gb240 ∧ k_ ≠ gb241)) (by (with_reducible repeat (first | apply Kd.R_alloc | apply Kd.R_drewN | apply Kd.R_drew)); exact Kd.R_mono HO250.out (fun _ hk => ⟨⟨hk.1.1.1.2, ⟨hk.1.1.2, ⟨hk.1.2, hk.2⟩⟩⟩, hk.1.1.1.1.2⟩)) hg hat)
          have n8_ := Aside0.mk (hb)
          have n9_ := Aside0.mk (ho)
          clear HO_240001
          clear BK237
          clear BK238
          clear BK239
          clear BK240
          clear BK241
          clear HO244
          clear HO250
          clear HB
          clear HO_240000
          have HO_240001 := n0_
          have BK237 := n1_
          have BK238 := n2_
          have BK239 := n3_
          have BK240 := n4_
          have BK241 := n5_
          have HO244 := n6_
          have HO250 := n7_
          have HB := n8_
          have HO247 := n9_
          clear n0_ n1_ n2_ n3_ n4_ n5_ n6_ n7_ n8_ n9_
          clear ho hb hg hat
          refine hK.out _ _ ⟨(blk_cell BK239.out 0).trans rfl, (blk_cell BK239.out 1).trans rfl, (blk_cell BK240.out 0).trans rfl, (blk_cell BK240.out 1).trans rfl, (blk_cell BK241.out 0).trans rfl, (blk_cell BK241.out 1).trans rfl⟩ (fun hHeld => ?_)
          clear hK K
          refine norm_ (a' := ?_) ?_ ?_
          rotate_left
          ·show Act.put _ (some 47) _ = _
           simp only [Act.put, List.setIfInBounds_toArray, List.set_cons_zero, List.set_cons_succ, i64_w, i32_w]
           rfl
          refine pure_ (i := 10) (N := some 53) (v := ?_) (a' := ?_) #[true, true, true, true, true, true, true, true, true, false, true, false, false, false] rfl rfl (any_of HT_.out (by kernel_rfl)) (fun _ _ _ h => h) (Or.inl ⟨by rfl, ?_⟩) ?_ ?_
          rotate_left
          ·intro w'
           go_simp
           with_reducible rfl
          rotate_left
          ·simp only [Act.put, List.setIfInBounds_toArray, List.set_cons_zero, List.set_cons_succ, i64_w, i32_w]
           rfl
          exact norm_ (by simp only [putAll, Act.put, List.setIfInBounds_toArray, List.set_cons_zero, List.set_cons_succ]) (hCont (.slice Ao30 y242.length co30, v246, v249) _ ⟨hHeld, (by (with_reducible repeat (first | apply Kd.R_alloc | apply Kd.R_drewN | apply Kd.R_drew)); exact Kd.R_mono HO244.out (fun _ hk => ⟨hk.2, ⟨hk.1.2.1, ⟨hk.1.1, ⟨hk.1.2.2.1, hk.1.2.2.2⟩⟩⟩⟩)), (by (with_reducible repeat (first | apply Kd.R_alloc | apply Kd.R_drewN | apply Kd.R_drew)); exact Kd.R_mono HO247.out (fun _ hk => ⟨hk.2.1, ⟨hk.2.2.1, ⟨hk.1, ⟨hk.2.2.2.1, hk.2.2.2.2⟩⟩⟩⟩)), (by (with_reducible repeat (first | apply Kd.R_alloc | apply Kd.R_drewN | apply Kd.R_drew)); exact Kd.R_mono HO250.out (fun _ hk => ⟨hk.1.2.1, ⟨hk.2, ⟨hk.1.1, ⟨hk.1.2.2.1, hk.1.2.2.2⟩⟩⟩⟩)), (by (with_reducible repeat (first | apply Kd.R_alloc | apply Kd.R_drewN | apply Kd.R_drew)); exact Kd.R_mono HO_240001.out (fun _ hk => ⟨hk.1.1, ⟨hk.2, ⟨hk.1.2.1, ⟨hk.1.2.2.1, hk.1.2.2.2⟩⟩⟩⟩)), (blkA BK237.out), (blkA BK238.out), (blkA BK239.out), (blkA BK240.out), (blkA BK241.out), (belA HB.out)⟩)
        ·skip
         refine Kd.R_lit_step k45 _ 45 ?hg (N := 51) ?hd (xs := ([(⟨Q1, Q2⟩ : S45)] : List (S45))) (inner := [.int .i64 Q1, .int .i64 Q2]) (ok := fun _ => True) (okp := fun _ => True) ?hr ?hp (fun _ hk => hk) trivial (Below.refl _ _) (Nat.le_refl _) (by simp) ?_; (case hd => rfl); (case hg => rfl); (case hr => first | (go_simp; done) | (go_simp; rfl)); (case hp => exact (Reps.c2 (show Kd.M k45 _ _ _ (⟨Q1, Q2⟩ : S45) [.int .i64 Q1, .int .i64 Q2] from (k45_mkM _ _ _ (⟨Q1, Q2⟩ : S45) )) (Reps.none _ _)))
         intro v249 w25 ho26 hb hg_ hnew_
         clear hg_ hnew_
         (first | rw [← Ny248.out] at ho26 | (simp only [Int.reduceToNat] at ho26; rw [← Ny248.out] at ho26))
         have n0_ := Aside0.mk (Kd.R_elder' (rowA HO_240000.out) (Kd.R_base ho26) hb)
         have n1_ := Aside0.mk (Kd.R_elder' (rowA HO_240001.out) (Kd.R_base ho26) hb)
         have n2_ := Aside0.mk (Kd.R_lower (Kd.R_newB (Kd.R_newB (Kd.R_new' (Kd.R_new' ho26 (Kd.R_lt (rowA HO_240000.out))) (Kd.R_lt (rowA HO_240001.out))) (g := gb240) (o := .cells #[.int .i64 P1, .int .i64 P2] 45 (0, 0)) (blkA BK240.out)) (g := gb241) (o := .cells #[.int .i64 Q1, .int .i64 Q2] 45 (0, 0)) (blkA BK241.out)) (below_size (belA HB.out)))
         have n3_ := Aside0.mk (blk_below (g := gb237) (o := .cells #[.int .i64 a0_0, .int .i64 a0_1, .slice A0_2 l0_2.length c0_2] 69 (0, 0)) (blkA BK237.out) hb)
         have n4_ := Aside0.mk (blk_below (g := gb238) (o := .cells #[.slice none 0 0, .slice none 0 0] 81 (0, 0)) (blkA BK238.out) hb)
         have n5_ := Aside0.mk (blk_below (g := gb239) (o := .cells #[.slice Ao21 x240000_1.length co21, .slice Ao22 x240001_1.length co22] 81 (0, 0)) (blkA BK239.out) hb)
         have n6_ := Aside0.mk (blk_below (g := gb240) (o := .cells #[.int .i64 P1, .int .i64 P2] 45 (0, 0)) (blkA BK240.out) hb)
         have n7_ := Aside0.mk (blk_below (g := gb241) (o := .cells #[.int .i64 Q1, .int .i64 Q2] 45 (0, 0)) (blkA BK241.out) hb)
         have n8_ := Aside0.mk (below_step (belA HB.out) hb)
         clear HO_240000
         clear HO_240001
         clear BK237
         clear BK238
         clear BK239
         clear BK240
         clear BK241
         clear HB
         have HO_240000 := n0_
         have HO_240001 := n1_
         have HO250 := n2_
         have BK237 := n3_
         have BK238 := n4_
         have BK239 := n5_
         have BK240 := n6_
         have BK241 := n7_
         have HB := n8_
         clear n0_ n1_ n2_ n3_ n4_ n5_ n6_ n7_ n8_
         clear hb ho26
         refine hK.out _ _ ⟨(blk_cell BK239.out 0).trans rfl, (blk_cell BK239.out 1).trans rfl, (blk_cell BK240.out 0).trans rfl, (blk_cell BK240.out 1).trans rfl, (blk_cell BK241.out 0).trans rfl, (blk_cell BK241.out 1).trans rfl⟩ (fun hHeld => ?_)
         clear hK K
         refine norm_ (a' := ?_) ?_ ?_
         rotate_left
         ·show Act.put _ (some 51) _ = _
          simp only [Act.put, List.setIfInBounds_toArray, List.set_cons_zero, List.set_cons_succ, i64_w, i32_w]
          rfl
         refine one_ (i := 3) (N := some 46) #[true, true, true, true, false, true, true, true, true, false, false, false, false, false] rfl rfl (one_of HT_.out (by kernel_rfl)) (by decide) (fun K hK => ?_)
         refine Kd.R_lit_step k45 _ 45 ?hg (N := 46) ?hd (xs := ([(⟨P1, P2⟩ : S45)] : List (S45))) (inner := [.int .i64 P1, .int .i64 P2]) (ok := fun _ => True) (okp := fun _ => True) ?hr ?hp (fun _ hk => hk) trivial (Below.refl _ _) (Nat.le_refl _) (by simp) ?_; (case hd => rfl); (case hg => rfl); (case hr => first | (go_simp; done) | (go_simp; rfl)); (case hp => exact (Reps.c2 (show Kd.M k45 _ _ _ (⟨P1, P2⟩ : S45) [.int .i64 P1, .int .i64 P2] from (k45_mkM _ _ _ (⟨P1, P2⟩ : S45) )) (Reps.none _ _)))
         intro v243 w27 ho28 hb hg_ hnew_
         clear hg_ hnew_
         (first | rw [← Ny242.out] at ho28 | (simp only [Int.reduceToNat] at ho28; rw [← Ny242.out] at ho28))
         have n0_ := Aside0.mk (Kd.R_elder' (rowA HO_240000.out) (Kd.R_base ho28) hb)
         have n1_ := Aside0.mk (Kd.R_elder' (rowA HO_240001.out) (Kd.R_base ho28) hb)
         have n2_ := Aside0.mk (Kd.R_elder' (rowA HO250.out) (Kd.R_base ho28) hb)
         have n3_ := Aside0.mk (Kd.R_lower (Kd.R_newB (Kd.R_newB (Kd.R_new' (Kd.R_new' (Kd.R_new' ho28 (Kd.R_lt (rowA HO_240000.out))) (Kd.R_lt (rowA HO_240001.out))) (Kd.R_lt (rowA HO250.out))) (g := gb240) (o := .cells #[.int .i64 P1, .int .i64 P2] 45 (0, 0)) (blkA BK240.out)) (g := gb241) (o := .cells #[.int .i64 Q1, .int .i64 Q2] 45 (0, 0)) (blkA BK241.out)) (below_size (belA HB.out)))
         have n4_ := Aside0.mk (blk_below (g := gb237) (o := .cells #[.int .i64 a0_0, .int .i64 a0_1, .slice A0_2 l0_2.length c0_2] 69 (0, 0)) (blkA BK237.out) hb)
         have n5_ := Aside0.mk (blk_below (g := gb238) (o := .cells #[.slice none 0 0, .slice none 0 0] 81 (0, 0)) (blkA BK238.out) hb)
         have n6_ := Aside0.mk (blk_below (g := gb239) (o := .cells #[.slice Ao21 x240000_1.length co21, .slice Ao22 x240001_1.length co22] 81 (0, 0)) (blkA BK239.out) hb)
         have n7_ := Aside0.mk (blk_below (g := gb240) (o := .cells #[.int .i64 P1, .int .i64 P2] 45 (0, 0)) (blkA BK240.out) hb)
         have n8_ := Aside0.mk (blk_below (g := gb241) (o := .cells #[.int .i64 Q1, .int .i64 Q2] 45 (0, 0)) (blkA BK241.out) hb)
         have n9_ := Aside0.mk (below_step (belA HB.out) hb)
         clear HO_240000
         clear HO_240001
         clear HO250
         clear BK237
         clear BK238
         clear BK239
         clear BK240
         clear BK241
         clear HB
         have HO_240000 := n0_
         have HO_240001 := n1_
         have HO250 := n2_
         have HO244 := n3_
         have BK237 := n4_
         have BK238 := n5_
         have BK239 := n6_
         have BK240 := n7_
         have BK241 := n8_
         have HB := n9_
         clear n0_ n1_ n2_ n3_ n4_ n5_ n6_ n7_ n8_ n9_
         clear hb ho28
         obtain ⟨Ao30, co30, eo30⟩ := Kd.R_slice HO244.out
         (first | subst eo30 | (injection eo30 with f1_ f2_ f3_; have f4_ := f1_.symm; have f5_ := f3_.symm; clear f1_ f2_ f3_; subst f4_; subst f5_))
         refine hK.out _ _ ⟨(blk_cell BK239.out 0).trans rfl, (blk_cell BK239.out 1).trans rfl, (blk_cell BK240.out 0).trans rfl, (blk_cell BK240.out 1).trans rfl, (blk_cell BK241.out 0).trans rfl, (blk_cell BK241.out 1).trans rfl⟩ (fun hHeld => ?_)
         clear hK K
         refine norm_ (a' := ?_) ?_ ?_
         rotate_left
         ·show Act.put _ (some 46) _ = _
          simp only [Act.put, List.setIfInBounds_toArray, List.set_cons_zero, List.set_cons_succ, i64_w, i32_w]
          rfl
         refine one_ (i := 4) (N := some 47) #[true, true, true, true, true, true, true, true, true, false, false, false, false, false] rfl rfl (one_of HT_.out (by kernel_rfl)) (by decide) (fun K hK => ?_)
         refine Kd.R_append_rows_step k45 (w0 := w) w.heap.size (by rfl) (.tmp 44) (.tmp 46) 51 45 (.agg #[(.int .i64 0), (.int .i64 0)]) 16 rfl Try.underlying51 info45 rfl (by decide) (by omega) (.slice Ao21 x240000_1.length co21) x240000_1 y242 _ _ _ (fun k_ => some k_ ≠ (.slice Ao22 x240001_1.length co22 : Value).ownBlock ∧ some k_ ≠ (v249 : Value).ownBlock ∧ some k_ ≠ (.slice Ao30 y242.length co30 : Value).ownBlock ∧ k_ ≠ gb240 ∧ k_ ≠ gb241) (fun _ => False) rfl rfl ?aO ?aR (fun _ _ h => h) (fun _ h => h.elim) ?aF ?aB ?aS ?aL ?_
         (case aR => repeat (first | exact (Kd.R_reads' HO244.out).2.2 | (with_reducible refine Kd.C_alloc ?_ _) | (with_reducible refine Kd.C_drewN ?_ _) | (with_reducible refine Kd.C_drew ?_)))
         (case aB => exact (belA HB.out))
         (case aF => exact (fun k_ hk => ⟨Kd.fresh' (Kd.R_lt (rowA HO_240001.out)) k_ hk, Kd.fresh' (Kd.R_lt (rowA HO250.out)) k_ hk, Kd.fresh' (Kd.R_lt (rowA HO244.out)) k_ hk, Kd.freshB (g := gb240) (o := .cells #[.int .i64 P1, .int .i64 P2] 45 (0, 0)) (blkA BK240.out) k_ hk, Kd.freshB (g := gb241) (o := .cells #[.int .i64 Q1, .int .i64 Q2] 45 (0, 0)) (blkA BK241.out) k_ hk⟩))
         (case aO => exact (by (with_reducible repeat (first | apply Kd.R_alloc | apply Kd.R_drewN | apply Kd.R_drew)); exact Kd.R_mono HO_240000.out (fun _ hk => ⟨hk.1.1.1, ⟨hk.1.2, ⟨hk.2, ⟨hk.1.1.2.1, hk.1.1.2.2⟩⟩⟩⟩)))
         (case aS => exact (below_size (belA HB.out)))
         (case aL => have := LMc8.out; omega)
         intro v246 w29 ho hb hg hat
         rw [← Ny245.out] at ho
         have n0_ := Aside0.mk (Kd.R_after (ok := (fun k_ => some k_ ≠ (v249 : Value).ownBlock ∧ some k_ ≠ (.slice Ao30 y242.length co30 : Value).ownBlock ∧ k_ ≠ gb240 ∧ k_ ≠ gb241)) (by (with_reducible repeat (first | apply Kd.R_alloc | apply Kd.R_drewN | apply Kd.R_drew)); exact Kd.R_mono HO_240001.out (fun _ hk => ⟨⟨hk.1.2, ⟨hk.2, ⟨hk.1.1.2.1, hk.1.1.2.2⟩⟩⟩, hk.1.1.1⟩)) hg hat)
         have n1_ := Aside0.mk (blk_grown (g := gb237) (o := .cells #[.int .i64 a0_0, .int .i64 a0_1, .slice A0_2 l0_2.length c0_2] 69 (0, 0)) (blkA BK237.out) hg (Kd.R_ne HO_240000.out BK237.out (by decide)))
         have n2_ := Aside0.mk (blk_grown (g := gb238) (o := .cells #[.slice none 0 0, .slice none 0 0] 81 (0, 0)) (blkA BK238.out) hg (Kd.R_ne HO_240000.out BK238.out (by decide)))
         have n3_ := Aside0.mk (blk_grown (g := gb239) (o := .cells #[.slice Ao21 x240000_1.length co21, .slice Ao22 x240001_1.length co22] 81 (0, 0)) (blkA BK239.out) hg (Kd.R_ne HO_240000.out BK239.out (by decide)))
         have n4_ := Aside0.mk (blk_grown (g := gb240) (o := .cells #[.int .i64 P1, .int .i64 P2] 45 (0, 0)) (blkA BK240.out) hg (Kd.R_away HO_240000.out (fun _ hk => hk.1.1.2.1)))
         have n5_ := Aside0.mk (blk_grown (g := gb241) (o := .cells #[.int .i64 Q1, .int .i64 Q2] 45 (0, 0)) (blkA BK241.out) hg (Kd.R_away HO_240000.out (fun _ hk => hk.1.1.2.2)))
         have n6_ := Aside0.mk (Kd.R_after (ok := (fun k_ => some k_ ≠ (.slice Ao22 x240001_1.length co22 : Value).ownBlock ∧ some k_ ≠ (.slice Ao30 y242.length co30 : Value).ownBlock ∧ k_ ≠ gb240 ∧ k_ ≠ gb241)) (by (with_reducible repeat (first | apply Kd.R_alloc | apply Kd.R_drewN | apply Kd.R_drew)); exact Kd.R_mono HO250.out (fun _ hk => ⟨⟨hk.1.1.1.2, ⟨hk.2, ⟨hk.1.1.2, hk.1.2⟩⟩⟩, hk.1.1.1.1.2⟩)) hg hat)
         have n7_ := Aside0.mk (Kd.R_after (ok := (fun k_ => some k_ ≠ (.slice Ao22 x240001_1.length co22 : Value).ownBlock ∧ some k_ ≠ (v249 : Value).ownBlock ∧ k_ ≠ gb240 ∧ k_ ≠ gb241)) (by (with_reducible repeat (first | apply Kd.R_alloc | apply Kd.R_drewN | apply Kd.R_drew)); exact Kd.R_mono HO244.out (fun _ hk => ⟨⟨hk.1.1.1.2, ⟨hk.1.1.2, ⟨hk.1.2, hk.2⟩⟩⟩, hk.1.1.1.1.2⟩)) hg hat)
         have n8_ := Aside0.mk (hb)
         have n9_ := Aside0.mk (ho)
         clear HO_240001
         clear BK237
         clear BK238
         clear BK239
         clear BK240
         clear BK241
         clear HO250
         clear HO244
         clear HB
         clear HO_240000
         have HO_240001 := n0_
         have BK237 := n1_
         have BK238 := n2_
         have BK239 := n3_
         have BK240 := n4_
         have BK241 := n5_
         have HO250 := n6_
         have HO244 := n7_
         have HB := n8_
         have HO247 := n9_
         clear n0_ n1_ n2_ n3_ n4_ n5_ n6_ n7_ n8_ n9_
         clear ho hb hg hat
         refine hK.out _ _ ⟨(blk_cell BK239.out 0).trans rfl, (blk_cell BK239.out 1).trans rfl, (blk_cell BK240.out 0).trans rfl, (blk_cell BK240.out 1).trans rfl, (blk_cell BK241.out 0).trans rfl, (blk_cell BK241.out 1).trans rfl⟩ (fun hHeld => ?_)
         clear hK K
         refine norm_ (a' := ?_) ?_ ?_
         rotate_left
         ·show Act.put _ (some 47) _ = _
          simp only [Act.put, List.setIfInBounds_toArray, List.set_cons_zero, List.set_cons_succ, i64_w, i32_w]
          rfl
         refine pure_ (i := 10) (N := some 53) (v := ?_) (a' := ?_) #[true, true, true, true, true, true, true, true, true, false, true, false, false, false] rfl rfl (any_of HT_.out (by kernel_rfl)) (fun _ _ _ h => h) (Or.inl ⟨by rfl, ?_⟩) ?_ ?_
         rotate_left
         ·intro w'
          go_simp
          with_reducible rfl
         rotate_left
         ·simp only [Act.put, List.setIfInBounds_toArray, List.set_cons_zero, List.set_cons_succ, i64_w, i32_w]
          rfl
         exact norm_ (by simp only [putAll, Act.put, List.setIfInBounds_toArray, List.set_cons_zero, List.set_cons_succ]) (hCont (.slice Ao30 y242.length co30, v246, v249) _ ⟨hHeld, (by (with_reducible repeat (first | apply Kd.R_alloc | apply Kd.R_drewN | apply Kd.R_drew)); exact Kd.R_mono HO244.out (fun _ hk => ⟨hk.2, ⟨hk.1.2.1, ⟨hk.1.1, ⟨hk.1.2.2.1, hk.1.2.2.2⟩⟩⟩⟩)), (by (with_reducible repeat (first | apply Kd.R_alloc | apply Kd.R_drewN | apply Kd.R_drew)); exact Kd.R_mono HO247.out (fun _ hk => ⟨hk.2.2.1, ⟨hk.2.1, ⟨hk.1, ⟨hk.2.2.2.1, hk.2.2.2.2⟩⟩⟩⟩)), (by (with_reducible repeat (first | apply Kd.R_alloc | apply Kd.R_drewN | apply Kd.R_drew)); exact Kd.R_mono HO250.out (fun _ hk => ⟨hk.1.2.1, ⟨hk.2, ⟨hk.1.1, ⟨hk.1.2.2.1, hk.1.2.2.2⟩⟩⟩⟩)), (by (with_reducible repeat (first | apply Kd.R_alloc | apply Kd.R_drewN | apply Kd.R_drew)); exact Kd.R_mono HO_240001.out (fun _ hk => ⟨hk.1.2.1, ⟨hk.2, ⟨hk.1.1, ⟨hk.1.2.2.1, hk.1.2.2.2⟩⟩⟩⟩)), (blkA BK237.out), (blkA BK238.out), (blkA BK239.out), (blkA BK240.out), (blkA BK241.out), (belA HB.out)⟩)
       rintro ⟨v243, v246, v249⟩ w31 ⟨hS_, h0_, h1_, h2_, h3_, h4_, h5_, h6_, h7_, h8_, h9_⟩
       have n0_ : Aside0 (Kd.R k45 45 w31 w.heap.size (fun k_ => some k_ ≠ (v246 : Value).ownBlock ∧ some k_ ≠ (v249 : Value).ownBlock ∧ some k_ ≠ (.slice Ao22 x240001_1.length co22 : Value).ownBlock ∧ k_ ≠ gb240 ∧ k_ ≠ gb241) v243 y242) := ⟨h0_⟩
       have n1_ : Aside0 (Kd.R k45 45 w31 w.heap.size (fun k_ => some k_ ≠ (v243 : Value).ownBlock ∧ some k_ ≠ (v249 : Value).ownBlock ∧ some k_ ≠ (.slice Ao22 x240001_1.length co22 : Value).ownBlock ∧ k_ ≠ gb240 ∧ k_ ≠ gb241) v246 y245) := ⟨h1_⟩
       have n2_ : Aside0 (Kd.R k45 45 w31 w.heap.size (fun k_ => some k_ ≠ (v243 : Value).ownBlock ∧ some k_ ≠ (v246 : Value).ownBlock ∧ some k_ ≠ (.slice Ao22 x240001_1.length co22 : Value).ownBlock ∧ k_ ≠ gb240 ∧ k_ ≠ gb241) v249 y248) := ⟨h2_⟩
       have n3_ : Aside0 (Kd.R k45 45 w31 w.heap.size (fun k_ => some k_ ≠ (v243 : Value).ownBlock ∧ some k_ ≠ (v246 : Value).ownBlock ∧ some k_ ≠ (v249 : Value).ownBlock ∧ k_ ≠ gb240 ∧ k_ ≠ gb241) (.slice Ao22 x240001_1.length co22) x240001_1) := ⟨h3_⟩
       have n4_ : Aside0 (w31.heap[gb237]? = some (.cells #[.int .i64 a0_0, .int .i64 a0_1, .slice A0_2 l0_2.length c0_2] 69 (0, 0))) := ⟨h4_⟩
       have n5_ : Aside0 (w31.heap[gb238]? = some (.cells #[.slice none 0 0, .slice none 0 0] 81 (0, 0))) := ⟨h5_⟩
       have n6_ : Aside0 (w31.heap[gb239]? = some (.cells #[.slice Ao21 x240000_1.length co21, .slice Ao22 x240001_1.length co22] 81 (0, 0))) := ⟨h6_⟩
       have n7_ : Aside0 (w31.heap[gb240]? = some (.cells #[.int .i64 P1, .int .i64 P2] 45 (0, 0))) := ⟨h7_⟩
       have n8_ : Aside0 (w31.heap[gb241]? = some (.cells #[.int .i64 Q1, .int .i64 Q2] 45 (0, 0))) := ⟨h8_⟩
       have n9_ : Aside0 (Below w.heap.size w w31) := ⟨h9_⟩
       clear HO_240000
       clear HO_240001
       clear BK237
       clear BK238
       clear BK239
       clear BK240
       clear BK241
       clear HB
       clear h0_ h1_ h2_ h3_ h4_ h5_ h6_ h7_ h8_ h9_
       have HO244 := n0_
       have HO247 := n1_
       have HO250 := n2_
       have HO_240001 := n3_
       have BK237 := n4_
       have BK238 := n5_
       have BK239 := n6_
       have BK240 := n7_
       have BK241 := n8_
       have HB := n9_
       clear n0_ n1_ n2_ n3_ n4_ n5_ n6_ n7_ n8_ n9_
       have hHeld : w31.cell? ⟨gb239, 0, none⟩ = some (.slice Ao21 x240000_1.length co21) ∧ w31.cell? ⟨gb239, 1, none⟩ = some (.slice Ao22 x240001_1.length co22) ∧ w31.cell? ⟨gb240, 0, none⟩ = some (.int .i64 P1) ∧ w31.cell? ⟨gb240, 1, none⟩ = some (.int .i64 P2) ∧ w31.cell? ⟨gb241, 0, none⟩ = some (.int .i64 Q1) ∧ w31.cell? ⟨gb241, 1, none⟩ = some (.int .i64 Q2) := hS_
       obtain ⟨Ao33, co33, eo33⟩ := Kd.R_slice HO250.out
       (first | subst eo33 | (injection eo33 with f1_ f2_ f3_; have f4_ := f1_.symm; have f5_ := f3_.symm; clear f1_ f2_ f3_; subst f4_; subst f5_))
       refine norm_ (a' := ?_) ?_ ?_
       rotate_left
       ·simp only [putAll, Act.put, List.setIfInBounds_toArray, List.set_cons_zero, List.set_cons_succ]
        rfl
       refine one_ (i := 9) (N := some 52) #[true, true, true, true, true, true, true, true, true, true, true, false, false, false] rfl rfl (one_of HT_.out (by kernel_rfl)) (by decide) (fun K hK => ?_)
       refine Kd.R_append_rows_step k45 (w0 := w) w.heap.size (by rfl) (.tmp 49) (.tmp 51) 51 45 (.agg #[(.int .i64 0), (.int .i64 0)]) 16 rfl Try.underlying51 info45 rfl (by decide) (by omega) (.slice Ao22 x240001_1.length co22) x240001_1 y248 _ _ _ (fun k_ => some k_ ≠ (v243 : Value).ownBlock ∧ some k_ ≠ (v246 : Value).ownBlock ∧ some k_ ≠ (.slice Ao33 y248.length co33 : Value).ownBlock ∧ k_ ≠ gb240 ∧ k_ ≠ gb241) (fun _ => False) rfl rfl ?aO ?aR (fun _ _ h => h) (fun _ h => h.elim) ?aF ?aB ?aS ?aL ?_
       (case aR => repeat (first | exact (Kd.R_reads' HO250.out).2.2 | (with_reducible refine Kd.C_alloc ?_ _) | (with_reducible refine Kd.C_drewN ?_ _) | (with_reducible refine Kd.C_drew ?_)))
       (case aB => exact (belA HB.out))
       (case aF => exact (fun k_ hk => ⟨Kd.fresh' (Kd.R_lt (rowA HO244.out)) k_ hk, Kd.fresh' (Kd.R_lt (rowA HO247.out)) k_ hk, Kd.fresh' (Kd.R_lt (rowA HO250.out)) k_ hk, Kd.freshB (g := gb240) (o := .cells #[.int .i64 P1, .int .i64 P2] 45 (0, 0)) (blkA BK240.out) k_ hk, Kd.freshB (g := gb241) (o := .cells #[.int .i64 Q1, .int .i64 Q2] 45 (0, 0)) (blkA BK241.out) k_ hk⟩))
       (case aO => exact (rowA HO_240001.out))
       (case aS => exact (below_size (belA HB.out)))
       (case aL => have := LMc9.out; omega)
       intro v252 w32 ho hb hg hat
       rw [← Ny251.out] at ho
       have n0_ := Aside0.mk (blk_grown (g := gb237) (o := .cells #[.int .i64 a0_0, .int .i64 a0_1, .slice A0_2 l0_2.length c0_2] 69 (0, 0)) (blkA BK237.out) hg (Kd.R_ne HO_240001.out BK237.out (by decide)))
       have n1_ := Aside0.mk (blk_grown (g := gb238) (o := .cells #[.slice none 0 0, .slice none 0 0] 81 (0, 0)) (blkA BK238.out) hg (Kd.R_ne HO_240001.out BK238.out (by decide)))
       have n2_ := Aside0.mk (blk_grown (g := gb239) (o := .cells #[.slice Ao21 x240000_1.length co21, .slice Ao22 x240001_1.length co22] 81 (0, 0)) (blkA BK239.out) hg (Kd.R_ne HO_240001.out BK239.out (by decide)))
       have n3_ := Aside0.mk (blk_grown (g := gb240) (o := .cells #[.int .i64 P1, .int .i64 P2] 45 (0, 0)) (blkA BK240.out) hg (Kd.R_away HO_240001.out (fun _ hk => hk.2.2.2.1)))
       have n4_ := Aside0.mk (blk_grown (g := gb241) (o := .cells #[.int .i64 Q1, .int .i64 Q2] 45 (0, 0)) (blkA BK241.out) hg (Kd.R_away HO_240001.out (fun _ hk => hk.2.2.2.2)))
       have n5_ := Aside0.mk (Kd.R_after (ok := (fun k_ => some k_ ≠ (v246 : Value).ownBlock ∧ some k_ ≠ (.slice Ao33 y248.length co33 : Value).ownBlock ∧ k_ ≠ gb240 ∧ k_ ≠ gb241)) (by (with_reducible repeat (first | apply Kd.R_alloc | apply Kd.R_drewN | apply Kd.R_drew)); exact Kd.R_mono HO244.out (fun _ hk => ⟨⟨hk.1, ⟨hk.2.1, ⟨hk.2.2.2.1, hk.2.2.2.2⟩⟩⟩, hk.2.2.1⟩)) hg hat)
       have n6_ := Aside0.mk (Kd.R_after (ok := (fun k_ => some k_ ≠ (v243 : Value).ownBlock ∧ some k_ ≠ (.slice Ao33 y248.length co33 : Value).ownBlock ∧ k_ ≠ gb240 ∧ k_ ≠ gb241)) (by (with_reducible repeat (first | apply Kd.R_alloc | apply Kd.R_drewN | apply Kd.R_drew)); exact Kd.R_mono HO247.out (fun _ hk => ⟨⟨hk.1, ⟨hk.2.1, ⟨hk.2.2.2.1, hk.2.2.2.2⟩⟩⟩, hk.2.2.1⟩)) hg hat)
       have n7_ := Aside0.mk (Kd.R_after (ok := (fun k_ => some k_ ≠ (v243 : Value).ownBlock ∧ some k_ ≠ (v246 : Value).ownBlock ∧ k_ ≠ gb240 ∧ k_ ≠ gb241)) (by (with_reducible repeat (first | apply Kd.R_alloc | apply Kd.R_drewN | apply Kd.R_drew)); exact Kd.R_mono HO250.out (fun _ hk => ⟨⟨hk.1, ⟨hk.2.1, ⟨hk.2.2.2.1, hk.2.2.2.2⟩⟩⟩, hk.2.2.1⟩)) hg hat)
       have n8_ := Aside0.mk (hb)
       have n9_ := Aside0.mk (ho)
       clear BK237
       clear BK238
       clear BK239
       clear BK240
       clear BK241
       clear HO244
       clear HO247
       clear HO250
       clear HB
       clear HO_240001
       have BK237 := n0_
       have BK238 := n1_
       have BK239 := n2_
       have BK240 := n3_
       have BK241 := n4_
       have HO244 := n5_
       have HO247 := n6_
       have HO250 := n7_
       have HB := n8_
       have HO253 := n9_
       clear n0_ n1_ n2_ n3_ n4_ n5_ n6_ n7_ n8_ n9_
       clear ho hb hg hat
       obtain ⟨Ao34, co34, eo34⟩ := Kd.R_slice HO247.out
       (first | subst eo34 | (injection eo34 with f1_ f2_ f3_; have f4_ := f1_.symm; have f5_ := f3_.symm; clear f1_ f2_ f3_; subst f4_; subst f5_))
       obtain ⟨Ao36, co36, eo36⟩ := Kd.R_slice HO253.out
       (first | subst eo36 | (injection eo36 with f1_ f2_ f3_; have f4_ := f1_.symm; have f5_ := f3_.symm; clear f1_ f2_ f3_; subst f4_; subst f5_))
       refine hK.out _ _ ⟨(blk_cell BK239.out 0).trans rfl, (blk_cell BK239.out 1).trans rfl, (blk_cell BK240.out 0).trans rfl, (blk_cell BK240.out 1).trans rfl, (blk_cell BK241.out 0).trans rfl, (blk_cell BK241.out 1).trans rfl⟩ (fun hHeld => ?_)
       clear hK K
       refine norm_ (a' := ?_) ?_ ?_
       rotate_left
       ·show Act.put _ (some 52) _ = _
        simp only [Act.put, List.setIfInBounds_toArray, List.set_cons_zero, List.set_cons_succ, i64_w, i32_w]
        rfl
       refine last_ (i := 11) (N := none) #[true, true, true, true, true, true, true, true, true, true, true, true, false, false] rfl rfl (one_of HT_.out (by kernel_rfl)) (by decide) (fun K hK => ?_)
       have hs35 : w32.cell? ⟨gb239, 0, none⟩ = some (.slice Ao21 x240000_1.length co21) := (blk_cell BK239.out 0).trans rfl
       have hfs35 := blk_frozen BK239.out 0
       have hns35_0 := NB237_239.out
       have hns35_1 := NB238_239.out
       have hns35_3 := NB240_239.out
       have hns35_4 := NB241_239.out
       have hms35_0 := NB239_237.out
       have hms35_1 := NB239_238.out
       have hms35_3 := NB239_240.out
       have hms35_4 := NB239_241.out
       refine skip_ (w1 := ?_) (by rfl) rfl ?_ ?_
       rotate_left
       ·go_simp
        rfl
       refine hK.out _ _ ?_
       clear hK K
       refine pure_ (i := 12) (N := some 54) (v := ?_) (a' := ?_) #[true, true, true, true, true, true, true, true, true, true, true, true, true, false] rfl rfl (any_of HT_.out (by kernel_rfl)) (fun _ _ _ h => h) (Or.inl ⟨by rfl, ?_⟩) ?_ ?_
       rotate_left
       ·intro w'
        go_simp
        with_reducible rfl
       rotate_left
       ·simp only [Act.put, List.setIfInBounds_toArray, List.set_cons_zero, List.set_cons_succ, i64_w, i32_w]
        rfl
       refine last_ (i := 13) (N := none) #[true, true, true, true, true, true, true, true, true, true, true, true, true, true] rfl rfl (one_of HT_.out (by kernel_rfl)) (by decide) (fun K hK => ?_)
       have hs37 : w32.cell? ⟨gb239, 1, none⟩ = some (.slice Ao22 x240001_1.length co22) := (blk_cell BK239.out 1).trans rfl
       have hfs37 := blk_frozen BK239.out 1
       have hns37_0 := NB237_239.out
       have hns37_1 := NB238_239.out
       have hns37_3 := NB240_239.out
       have hns37_4 := NB241_239.out
       have hms37_0 := NB239_237.out
       have hms37_1 := NB239_238.out
       have hms37_3 := NB239_240.out
       have hms37_4 := NB239_241.out
       refine skip_ (w1 := ?_) (by rfl) rfl ?_ ?_
       rotate_left
       ·go_simp
        rfl
       refine hK.out _ _ ?_
       clear hK K
       refine done_ (done_of HT_.out (by kernel_rfl)) ?_
       try go_wp2
       go_roundg k1
       case measure => have := HK1.out; omega
       case rel => exact ⟨(wrap64 (x10_1 + 1)), (y245), (y251), (.slice Ao34 y245.length co34), (.slice Ao36 y251.length co36), smpA, H', ⟨by have := HK1.out; omega⟩, ⟨by (with_reducible repeat (first | apply Kd.R_alloc | apply Kd.R_drewN | apply Kd.R_drew)); exact Kd.R_mono (Kd.R_far (p := ⟨gb239, 1, none⟩) (Kd.R_far (p := ⟨gb239, 0, none⟩) (Kd.R_types HO247.out BK239.out (by decide)) (fun _ hk => hk.2) (.slice Ao34 y245.length co34)) (fun _ hk => hk.2) (.slice Ao36 y251.length co36)) (fun _ hk => hk.1.2)⟩, ⟨by (with_reducible repeat (first | apply Kd.R_alloc | apply Kd.R_drewN | apply Kd.R_drew)); exact Kd.R_mono (Kd.R_far (p := ⟨gb239, 1, none⟩) (Kd.R_far (p := ⟨gb239, 0, none⟩) (Kd.R_types HO253.out BK239.out (by decide)) (fun _ hk => hk.2) (.slice Ao34 y245.length co34)) (fun _ hk => hk.2) (.slice Ao36 y251.length co36)) (fun _ hk => hk.1.2.1)⟩, ⟨blkB BK237.out⟩, ⟨blkB BK238.out⟩, ⟨blkB BK239.out⟩, ⟨belA HB.out⟩⟩
     ·rw [if_neg c9] at H
      exact absurd H (by simp)
    ·rw [if_neg c8] at H
     exact absurd H (by simp)
   ·rw [if_neg c7] at H
    have c7b0 : decide (x10_1 < 15) = false := decide_eq_false c7
    clear c7
    simp only [Option.some.injEq, Prod.mk.injEq] at H
    obtain ⟨rfl, rfl⟩ := H
    have hnb38 := NB239_237.out
    have hnc38 := NB237_239.out
    have hnb39 := NB239_238.out
    have hnc39 := NB238_239.out
    obtain ⟨hcz40_0, hcz40_1, hfz40_0, hfz40_1⟩ := bk2 BK239.out
    obtain ⟨Ao41, co41, eo41⟩ := Kd.R_slice HO_240000.out
    subst eo41
    have hnb42 := NB238_237.out
    have hnc42 := NB237_238.out
    obtain ⟨hcz43_0, hcz43_1, hfz43_0, hfz43_1⟩ := bk2 BK238.out
    obtain ⟨Ao44, co44, eo44⟩ := Kd.R_slice HO_240001.out
    subst eo44
    go_wp2
    refine bodyPost_ret (results_cell_row rfl _ _ gb238 81 #[.slice Ao41 x240000_1.length co41, .slice Ao44 x240001_1.length co44] (0, 0) _ rfl (blkB BK238.out) Try.underlying81 rfl (by kernel_rfl)) rfl ?_
    exact ⟨_, _, errA, by (with_reducible repeat (first | apply Kd.R_alloc | apply Kd.R_drewN | apply Kd.R_drew)); exact Kd.R_mono (Kd.R_far (p := ⟨gb238, 1, none⟩) (Kd.R_far (p := ⟨gb238, 0, none⟩) (Kd.R_types HO_240000.out BK238.out (by decide)) (fun _ hk => hk.2) (.slice Ao41 x240000_1.length co41)) (fun _ hk => hk.2) (.slice Ao44 x240001_1.length co44)) (fun _ hk => hk.1), by (with_reducible repeat (first | apply Kd.R_alloc | apply Kd.R_drewN | apply Kd.R_drew)); exact Kd.R_mono (Kd.R_far (p := ⟨gb238, 1, none⟩) (Kd.R_far (p := ⟨gb238, 0, none⟩) (Kd.R_types HO_240001.out BK238.out (by decide)) (fun _ hk => hk.2) (.slice Ao41 x240000_1.length co41)) (fun _ hk => hk.2) (.slice Ao44 x240001_1.length co44)) (fun _ hk => hk.1), belA HB.out⟩
end Go.Proofs.Ytbbnagjfjgkgjaa.L
