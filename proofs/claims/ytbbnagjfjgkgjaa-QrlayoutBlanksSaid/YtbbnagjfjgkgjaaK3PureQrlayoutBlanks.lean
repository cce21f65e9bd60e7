/- Faults and its reference: the same number; the law's walk at every argument. -/
import Derived.Test.YtbbnagjfjgkgjaaK3Lb2
import Derived.Test.YtbbnagjfjgkgjaaK3Pub
namespace Go.Proofs.Ytbbnagjfjgkgjaa.Pure
open Go.RowKit Go.Proofs.Ytbbnagjfjgkgjaa.L Go.Proofs.YtbbnagjfjgkgjaaW.PrintWords Go.Proofs.YtbbnagjfjgkgjaaW.PrintLast Go.Proofs.YtbbnagjfjgkgjaaW.PrintMore
set_option linter.unusedVariables false
set_option linter.unusedSimpArgs false

theorem valid_eq (W H : Int) (l : List Bool) : barscanref20_Sound.f W H l = qrlayout_valid.f W H l := by
  unfold barscanref20_Sound.f qrlayout_valid.f
  repeat' split
  all_goals first | rfl | omega
theorem valid_some (W H : Int) (l : List Bool) : ∃ b, qrlayout_valid.f W H l = some b ∧ (b = true → 1 ≤ W ∧ W ≤ 4096 ∧ 1 ≤ H ∧ H ≤ 4096 ∧ (l.length : Int) = W * H) := by
  unfold qrlayout_valid.f
  repeat' split
  all_goals refine ⟨_, rfl, fun hb => ?_⟩
  all_goals try (simp at hb; done)
  have hm : W * H ≤ 4096 * 4096 := Int.mul_le_mul (by omega) (by omega) (by omega) (by omega)
  have h0 : 0 ≤ W * H := Int.mul_nonneg (by omega) (by omega)
  rw [w64 (by omega)] at hb
  exact ⟨by omega, by omega, by omega, by omega, by simpa using hb⟩
theorem sized_cases (W H : Int) (l : List Bool) :
    (∃ v, 1 ≤ v ∧ v ≤ 40 ∧ W = 17 + 4 * v ∧ H = W ∧ l.length = sd v * sd v ∧ (∀ k, qrlayout_sized.f k W H l = some (v, 17 + 4 * v, alg v, 0)) ∧ barscanref20_Version.f W H l = some (v, 0)) ∨
    (∃ e, e ≠ 0 ∧ (∀ k, qrlayout_sized.f k W H l = some (0, 0, [], e)) ∧ barscanref20_Version.f W H l = some (0, e)) := by
  obtain ⟨b, hb, hbt⟩ := valid_some W H l
  unfold barscanref20_Version.f
  rw [valid_eq, hb]
  have hs : ∀ k, qrlayout_sized.f k W H l = (some b).bind fun t157 => (if t157 = true then ((qrlayout_frameOf.f k (wrap64 (Int.tdiv (wrap64 (W - 17)) 4))).bind fun bt158 => (if bt158.2.2.2 = 0 then (if bt158.2.1 = W then (if H = W then (some (bt158.1, bt158.2.1, bt158.2.2.1, 0)) else (some (0, 0, ([] : List Int), 23))) else (some (0, 0, ([] : List Int), 23))) else (some (0, 0, ([] : List Int), 23)))) else (some (0, 0, ([] : List Int), 1))) := fun k => by
    unfold qrlayout_sized.f
    rw [hb]
  simp only [hs, Option.bind_some]
  cases b with
  | false => exact .inr ⟨1, by decide, fun k => rfl, rfl⟩
  | true =>
    obtain ⟨g1, g2, g3, g4, g5⟩ := hbt rfl
    simp only [if_true]
    rw [w64 (n := W - 17) (by omega)]
    have hq : Int.tdiv (W - 17) 4 = if 17 ≤ W then (W - 17) / 4 else -((17 - W) / 4) := by
      split
      · exact Int.tdiv_eq_ediv_of_nonneg (by omega)
      · rw [show W - 17 = -(17 - W) by omega, Int.neg_tdiv, Int.tdiv_eq_ediv_of_nonneg (by omega)]
    obtain ⟨q, hqq⟩ : ∃ q, Int.tdiv (W - 17) 4 = q := ⟨_, rfl⟩
    rw [hqq] at hq ⊢
    have hqb : -1000 ≤ q ∧ q ≤ 2000 := by split at hq <;> omega
    rw [w64 (n := q) (by omega)]
    have hm4 : 0 ≤ W → Int.tmod W 4 = W % 4 := fun h => Int.tmod_eq_emod_of_nonneg h
    rw [hm4 (by omega)]
    by_cases hv : 1 ≤ q ∧ q ≤ 40
    · by_cases hw : 17 + 4 * q = W
      · by_cases hh : H = W
        · left
          refine ⟨q, hv.1, hv.2, hw.symm, hh, ?_, fun k => ?_, ?_⟩
          · have h1 := sd_eq hv
            have : ((l.length : Nat) : Int) = ((sd q * sd q : Nat) : Int) := by rw [Int.natCast_mul, h1, hw, g5, hh]
            exact Int.ofNat.inj this
          · rw [frame_yes hv, Option.bind_some, if_pos rfl, if_pos hw, if_pos hh]
          · rw [if_pos hh.symm, if_neg (by omega), if_neg (by omega), if_pos (by omega)]
        · right
          refine ⟨23, by decide, fun k => ?_, ?_⟩
          · rw [frame_yes hv, Option.bind_some, if_pos rfl, if_pos hw, if_neg hh]
          · rw [if_neg (fun h => hh h.symm)]
      · right
        refine ⟨23, by decide, fun k => ?_, ?_⟩
        · rw [frame_yes hv, Option.bind_some, if_pos rfl, if_neg hw]
        · repeat' split
          all_goals first | rfl | (exfalso; split at hq <;> omega)
    · right
      refine ⟨23, by decide, fun k => ?_, ?_⟩
      · rw [frame_no hv, Option.bind_some, if_neg (by decide)]
      · repeat' split
        all_goals first | rfl | (exfalso; split at hq <;> omega)

def fault (v : Int) (l : List Bool) (i : Nat) : Bool :=
  let c := cellT v (17 + 4 * v) (alg v) ((i % sd v : Nat) : Int) ((i / sd v : Nat) : Int)
  (c == 2 || c == 4 || c == 3 || c == 7) && (rdOf false l (i : Int) != darkT v (17 + 4 * v) (alg v) ((i % sd v : Nat) : Int) ((i / sd v : Nat) : Int))
def faultN (v : Int) (l : List Bool) : Nat → Nat
  | 0 => 0
  | n + 1 => faultN v l n + if fault v l n = true then 1 else 0
theorem faultN_le (v : Int) (l : List Bool) (n : Nat) : faultN v l n ≤ n := by
  induction n with
  | zero => exact Nat.le_refl _
  | succ n ih => unfold faultN; split <;> omega
theorem faults_l0 {v : Int} (h : 1 ≤ v ∧ v ≤ 40) (l : List Bool) (hl : l.length = sd v * sd v) (H : Int) : ∀ (d k i : Nat), i + d = sd v * sd v → 100 ≤ k →
    qrlayout_Faults.l0 (k + 2 * d + 1) (faultN v l i : Int) l (l.length : Int) (i : Int) (17 + 4 * v) H l v (17 + 4 * v) (alg v) = some ((faultN v l (sd v * sd v) : Int), 0)
  | 0, k, i, hi, hk => by
    rw [qrlayout_Faults.l0, if_neg (by omega), show i = sd v * sd v by omega]
  | d + 1, k, i, hi, hk => by
    have hs := sd_eq h; have hb := sd_bd h
    have hm : sd v * sd v ≤ 177 * 177 := Nat.mul_le_mul (by omega) (by omega)
    have ih := faults_l0 h l hl H d k (i + 1) (by omega) hk
    have hN := faultN_le v l i
    have t1 : Int.tmod (i : Int) (17 + 4 * v) = ((i % sd v : Nat) : Int) := by rw [← hs, Int.tmod_eq_emod_of_nonneg (by omega)]; rfl
    have t2 : Int.tdiv (i : Int) (17 + 4 * v) = ((i / sd v : Nat) : Int) := by rw [← hs, Int.tdiv_eq_ediv_of_nonneg (by omega)]; rfl
    have b1 : i % sd v < sd v := Nat.mod_lt _ (by omega)
    have b2 : i / sd v < sd v := Nat.div_lt_of_lt_mul (by omega)
    have hfs : faultN v l (i + 1) = faultN v l i + if fault v l i = true then 1 else 0 := rfl
    unfold fault at hfs
    obtain ⟨q', hq⟩ : ∃ q', i / sd v = q' := ⟨_, rfl⟩
    obtain ⟨r, hr⟩ : ∃ r, i % sd v = r := ⟨_, rfl⟩
    rw [hq] at t2 b2
    rw [hr] at t1 b1
    simp only [hq, hr] at hfs
    rw [show k + 2 * (d + 1) + 1 = (k + 2 * d + 1 + 1) + 1 by omega, qrlayout_Faults.l0, if_pos (by omega), if_pos (by omega), if_pos (by omega), if_neg (by omega), t1, t2, w64 (n := (q' : Int)) (by omega), cell_eq v (17 + 4 * v) (alg v) _ _ (bd_of h (by omega) (by omega)) (k + 2 * d + 1 + 1) (by omega), Option.bind_some]
    simp only [qrlayout_Faults.j1, dark_eq v (17 + 4 * v) (alg v) _ _ (bd_of h (x := (r : Int)) (y := (q' : Int)) (by omega) (by omega)) (k + 2 * d + 1) (by omega), Option.bind_some, w64 (n := (i : Int) + 1) (by omega), w64 (n := (faultN v l i : Int) + 1) (by omega)]
    rw [show ((i : Int) + 1) = ((i + 1 : Nat) : Int) by omega]
    rw [hfs] at ih
    generalize cellT v (17 + 4 * v) (alg v) (r : Int) (q' : Int) = c at ih ⊢
    generalize (rdOf false l (i : Int) != darkT v (17 + 4 * v) (alg v) (r : Int) (q' : Int)) = f at ih ⊢
    cases f
    · simp only [Bool.and_false, Bool.false_eq_true, if_false, Nat.add_zero, ite_self] at ih ⊢
      exact ih
    · simp only [Bool.and_true, if_true, Int.natCast_add] at ih ⊢
      by_cases c2 : c = 2 <;> by_cases c4 : c = 4 <;> by_cases c3 : c = 3 <;> by_cases c7 : c = 7 <;> simp [c2, c4, c3, c7] at ih ⊢ <;> first | exact ih | omega

theorem rdOf_nat (l : List Bool) (j : Nat) (h : j < l.length) : rdOf false l (j : Int) = l[j] := by
  simp [rdOf, List.getD_eq_getElem?_getD, List.getElem?_eq_getElem h]
theorem faults_of {v : Int} (h : 1 ≤ v ∧ v ≤ 40) (l : List Bool) (hl : l.length = sd v * sd v) (H : Int) (k : Nat) (hk : 100000 ≤ k) : qrlayout_Faults.l0 k 0 l (l.length : Int) 0 (17 + 4 * v) H l v (17 + 4 * v) (alg v) = some ((faultN v l (sd v * sd v) : Int), 0) := by
  have hb := sd_bd h
  have hm : sd v * sd v ≤ 177 * 177 := Nat.mul_le_mul (by omega) (by omega)
  have := faults_l0 h l hl H (sd v * sd v) (k - 2 * (sd v * sd v) - 1) 0 (by omega) (by omega)
  rw [show k - 2 * (sd v * sd v) - 1 + 2 * (sd v * sd v) + 1 = k by omega] at this
  exact this
theorem reffaults_l0 {v : Int} (h : 1 ≤ v ∧ v ≤ 40) (l : List Bool) (hl : l.length = sd v * sd v) (a b c d' : Int) : ∀ (d k i : Nat), i + d = sd v * sd v →
    barscanref20_Faults.l0 (k + d + 1) (gridL v (sd v * sd v)) (faultN v l i : Int) (i : Int) a b l c d' (gridB v (sd v * sd v)) = some ((faultN v l (sd v * sd v) : Int), 0)
  | 0, k, i, hi => by
    rw [barscanref20_Faults.l0, gridL_len, if_neg (by omega), show i = sd v * sd v by omega]
  | d + 1, k, i, hi => by
    have hs := sd_eq h; have hb := sd_bd h
    have hm : sd v * sd v ≤ 177 * 177 := Nat.mul_le_mul (by omega) (by omega)
    have ih := reffaults_l0 h l hl a b c d' d k (i + 1) (by omega)
    have hN := faultN_le v l i
    have g1 : rd (gridL v (sd v * sd v)) (i : Int) = cellT v (17 + 4 * v) (alg v) ((i % sd v : Nat) : Int) ((i / sd v : Nat) : Int) := by
      rw [rd_nat _ _ (by rw [gridL_len]; omega)]; simp only [gridL, List.getElem_map, List.getElem_range]
    have g2 : rdOf false (gridB v (sd v * sd v)) (i : Int) = darkT v (17 + 4 * v) (alg v) ((i % sd v : Nat) : Int) ((i / sd v : Nat) : Int) := by
      rw [rdOf_nat _ _ (by rw [gridB_len]; omega)]; simp only [gridB, List.getElem_map, List.getElem_range]
    have hfs : faultN v l (i + 1) = faultN v l i + if fault v l i = true then 1 else 0 := rfl
    unfold fault at hfs
    dsimp only at hfs
    rw [← g1, ← g2] at hfs
    rw [show k + (d + 1) + 1 = (k + d + 1) + 1 by omega, barscanref20_Faults.l0, gridL_len, if_pos (by omega), if_pos (by omega)]
    simp only [gridB_len, w64 (n := (i : Int) + 1) (by omega), w64 (n := (faultN v l i : Int) + 1) (by omega), if_pos (show (i : Int) < (l.length : Int) by omega), if_pos (show (i : Int) < ((sd v * sd v : Nat) : Int) by omega)]
    rw [show ((i : Int) + 1) = ((i + 1 : Nat) : Int) by omega]
    rw [hfs] at ih
    generalize rd (gridL v (sd v * sd v)) (i : Int) = c at ih ⊢
    generalize (rdOf false l (i : Int) != rdOf false (gridB v (sd v * sd v)) (i : Int)) = f at ih ⊢
    cases f
    · simp only [Bool.and_false, Bool.false_eq_true, if_false, Nat.add_zero, ite_self] at ih ⊢
      exact ih
    · simp only [Bool.and_true, if_true, Int.natCast_add] at ih ⊢
      by_cases c2 : c = 2 <;> by_cases c4 : c = 4 <;> by_cases c3 : c = 3 <;> by_cases c7 : c = 7 <;> simp [c2, c4, c3, c7] at ih ⊢ <;> first | exact ih | omega
theorem faults_both (W H : Int) (l : List Bool) (k : Nat) (hk : 200000 ≤ k) : ∃ n g, qrlayout_Faults.f k W H l = some (n, g) ∧ barscanref20_Faults.f k W H l = some (n, g) := by
  rcases sized_cases W H l with ⟨v, h1, h2, rfl, rfl, hl, hs, hv⟩ | ⟨e, he, hs, hv⟩
  · have h : 1 ≤ v ∧ v ≤ 40 := ⟨h1, h2⟩
    have hb := sd_bd h
    have hm : sd v * sd v ≤ 177 * 177 := Nat.mul_le_mul (by omega) (by omega)
    refine ⟨(faultN v l (sd v * sd v) : Int), 0, ?_, ?_⟩
    · unfold qrlayout_Faults.f
      rw [hs, Option.bind_some, if_pos rfl]
      exact faults_of h l hl _ k (by omega)
    · unfold barscanref20_Faults.f
      rw [hv, Option.bind_some, if_pos rfl, refblank_yes h k (by omega), Option.bind_some, refcells_yes h k (by omega), Option.bind_some]
      have := reffaults_l0 h l hl (17 + 4 * v) (17 + 4 * v) (17 + 4 * v) (17 + 4 * v) (sd v * sd v) (k - sd v * sd v - 1) 0 (by omega)
      rw [show k - sd v * sd v - 1 + sd v * sd v + 1 = k by omega] at this
      exact this
  · refine ⟨0, e, ?_, ?_⟩
    · unfold qrlayout_Faults.f
      rw [hs, Option.bind_some, if_neg he]
    · unfold barscanref20_Faults.f
      rw [hv, Option.bind_some, if_neg he]

theorem same_l0 (a : List Bool) (hl : a.length ≤ 1000000) : ∀ (d k i : Nat), i + d = a.length → barscanref01_Same.l0 (k + d + 1) a a (i : Int) = some true
  | 0, k, i, hi => by rw [barscanref01_Same.l0, if_neg (by omega)]
  | d + 1, k, i, hi => by
    have ih := same_l0 a hl d k (i + 1) (by omega)
    rw [show k + (d + 1) + 1 = (k + d + 1) + 1 by omega, barscanref01_Same.l0, if_pos (by omega), if_pos (by omega), if_pos (by omega), w64 (n := (i : Int) + 1) (by omega), show ((i : Int) + 1) = ((i + 1 : Nat) : Int) by omega, ih]
    simp
theorem same_yes (W H : Int) (a : List Bool) (hl : a.length ≤ 1000000) (k : Nat) (hk : 1000001 ≤ k) : barscanref20_Same.f k W H a W H a = some true := by
  have := same_l0 a hl a.length (k - a.length - 1) 0 (by omega)
  rw [show k - a.length - 1 + a.length + 1 = k by omega] at this
  unfold barscanref20_Same.f barscanref01_Same.f
  rw [if_pos rfl, if_pos rfl, if_pos rfl]
  rw [show (0 : Int) = ((0 : Nat) : Int) from rfl, this]
  rfl
theorem blanks_walk (a0 W H : Int) (A : Option Addr) (c : Nat) (l : List Bool) (w : World) (hA : Kd.C Kd.bool w A l.length l) (hc : l.length ≤ c) :
    Calls Try.prog 3 #[.int .i64 a0, .agg #[.int .i64 W, .int .i64 H, .slice A l.length c]] w fun e w' => e = .returned (.bool true) ∧ Below w.heap.size w w' := by
  by_cases hs : (l.length : Int) ≤ 40000
  · obtain ⟨n, g, h3, h4⟩ := faults_both W H l 2000000 (by omega)
    by_cases h : 1 ≤ a0 ∧ a0 ≤ 40
    · have hb := sd_bd h
      have hm : sd a0 * sd a0 ≤ 177 * 177 := Nat.mul_le_mul (by omega) (by omega)
      exact law3_small 2000000 a0 W H A c l _ _ _ n g _ w hA hc hs (blank_yes h _ (by omega)) (refblank_yes h _ (by omega)) h3 h4 (same_yes _ _ _ (by rw [gridB_len]; omega) _ (by omega))
    · exact law3_small 2000000 a0 W H A c l _ _ _ n g _ w hA hc hs (blank_no h _) (refblank_no h _) h3 h4 (same_yes _ _ _ (by simp) _ (by omega))
  · exact law3_big a0 W H A c l w hA hc hs
end Go.Proofs.Ytbbnagjfjgkgjaa.Pure
