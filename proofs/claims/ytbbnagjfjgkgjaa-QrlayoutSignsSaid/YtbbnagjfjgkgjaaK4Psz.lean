/- A matrix's version, as both sides tell it. -/
import Derived.Test.YtbbnagjfjgkgjaaK4Lx16
import Derived.Test.YtbbnagjfjgkgjaaK4Lx5
import Derived.Test.YtbbnagjfjgkgjaaK4Pua
namespace Go.Proofs.Ytbbnagjfjgkgjaa.Pure
open Go.RowKit Go.Proofs.Ytbbnagjfjgkgjaa.L Go.Proofs.YtbbnagjfjgkgjaaW.PrintWords Go.Proofs.YtbbnagjfjgkgjaaW.PrintLast Go.Proofs.YtbbnagjfjgkgjaaW.PrintMore
set_option linter.unusedVariables false
set_option linter.unusedSimpArgs false

def sdS (v : Int) : Nat := (17 + 4 * v).toNat
theorem sdS_eq {v : Int} (h : 1 ≤ v ∧ v ≤ 40) : ((sdS v : Nat) : Int) = 17 + 4 * v := by unfold sdS; omega
theorem valid_eq (W H : Int) (l : List Bool) : barscanref20_Sound.f W H l = qrlayout_valid.f W H l := by
  unfold barscanref20_Sound.f qrlayout_valid.f
  repeat' split
  all_goals first | rfl | omega
theorem valid_some (W H : Int) (l : List Bool) : ∃ b, qrlayout_valid.f W H l = some b ∧ (b = true → 1 ≤ W ∧ W ≤ 4096 ∧ 1 ≤ H ∧ H ≤ 4096 ∧ (l.length : Int) = W * H) := by
  unfold qrlayout_valid.f
  repeat' split
  all_goals refine ⟨_, rfl, fun hb => ?_⟩
  all_goals try (simp at hb; done)
  have hm : W * H ≤ 4096 * 4096 := Int.mul_le_mul (by omega) (by omega) (by omega) (by omega)
  have h0 : 0 ≤ W * H := Int.mul_nonneg (by omega) (by omega)
  rw [w64 (by omega)] at hb
  exact ⟨by omega, by omega, by omega, by omega, by simpa using hb⟩
theorem sized_cases (W H : Int) (l : List Bool) :
    (∃ v, 1 ≤ v ∧ v ≤ 40 ∧ W = 17 + 4 * v ∧ H = W ∧ l.length = sdS v * sdS v ∧ (∀ k, qrlayout_sized.f k W H l = some (v, 17 + 4 * v, alg v, 0)) ∧ barscanref20_Version.f W H l = some (v, 0)) ∨
    (∃ e, e ≠ 0 ∧ (∀ k, qrlayout_sized.f k W H l = some (0, 0, [], e)) ∧ barscanref20_Version.f W H l = some (0, e)) := by
  obtain ⟨b, hb, hbt⟩ := valid_some W H l
  unfold barscanref20_Version.f
  rw [valid_eq, hb]
  have hs : ∀ k, qrlayout_sized.f k W H l = (some b).bind fun t157 => (if t157 = true then ((qrlayout_frameOf.f k (wrap64 (Int.tdiv (wrap64 (W - 17)) 4))).bind fun bt158 => (if bt158.2.2.2 = 0 then (if bt158.2.1 = W then (if H = W then (some (bt158.1, bt158.2.1, bt158.2.2.1, 0)) else (some (0, 0, ([] : List Int), 23))) else (some (0, 0, ([] : List Int), 23))) else (some (0, 0, ([] : List Int), 23)))) else (some (0, 0, ([] : List Int), 1))) := fun k => by
    unfold qrlayout_sized.f
    rw [hb]
  simp only [hs, Option.bind_some]
  cases b with
  | false => exact .inr ⟨1, by decide, fun k => rfl, rfl⟩
  | true =>
    obtain ⟨g1, g2, g3, g4, g5⟩ := hbt rfl
    simp only [if_true]
    rw [w64 (n := W - 17) (by omega)]
    have hq : Int.tdiv (W - 17) 4 = if 17 ≤ W then (W - 17) / 4 else -((17 - W) / 4) := by
      split
      · exact Int.tdiv_eq_ediv_of_nonneg (by omega)
      · rw [show W - 17 = -(17 - W) by omega, Int.neg_tdiv, Int.tdiv_eq_ediv_of_nonneg (by omega)]
    obtain ⟨q, hqq⟩ : ∃ q, Int.tdiv (W - 17) 4 = q := ⟨_, rfl⟩
    rw [hqq] at hq ⊢
    have hqb : -1000 ≤ q ∧ q ≤ 2000 := by split at hq <;> omega
    rw [w64 (n := q) (by omega)]
    have hm4 : 0 ≤ W → Int.tmod W 4 = W % 4 := fun h => Int.tmod_eq_emod_of_nonneg h
    rw [hm4 (by omega)]
    by_cases hv : 1 ≤ q ∧ q ≤ 40
    · by_cases hw : 17 + 4 * q = W
      · by_cases hh : H = W
        · left
          refine ⟨q, hv.1, hv.2, hw.symm, hh, ?_, fun k => ?_, ?_⟩
          · have h1 := sdS_eq hv
            have : ((l.length : Nat) : Int) = ((sdS q * sdS q : Nat) : Int) := by rw [Int.natCast_mul, h1, hw, g5, hh]
            exact Int.ofNat.inj this
          · rw [frame_yes hv, Option.bind_some, if_pos rfl, if_pos hw, if_pos hh]
          · rw [if_pos hh.symm, if_neg (by omega), if_neg (by omega), if_pos (by omega)]
        · right
          refine ⟨23, by decide, fun k => ?_, ?_⟩
          · rw [frame_yes hv, Option.bind_some, if_pos rfl, if_pos hw, if_neg hh]
          · rw [if_neg (fun h => hh h.symm)]
      · right
        refine ⟨23, by decide, fun k => ?_, ?_⟩
        · rw [frame_yes hv, Option.bind_some, if_pos rfl, if_neg hw]
        · repeat' split
          all_goals first | rfl | (exfalso; split at hq <;> omega)
    · right
      refine ⟨23, by decide, fun k => ?_, ?_⟩
      · rw [frame_no hv, Option.bind_some, if_neg (by decide)]
      · repeat' split
        all_goals first | rfl | (exfalso; split at hq <;> omega)

end Go.Proofs.Ytbbnagjfjgkgjaa.Pure
