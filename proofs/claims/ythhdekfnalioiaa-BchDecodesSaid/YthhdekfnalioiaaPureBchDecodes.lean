/- For any numbers word, k, gen: bch.Decode returns what the reference returns, and the examples hold. No condition. -/
import Derived.Test.YthhdekfnalioiaaEvc
import Derived.Test.YthhdekfnalioiaaBx4
namespace Go.Proofs.Ythhdekfnalioiaa.Pure
open Go.RowKit Go.Proofs.Ythhdekfnalioiaa.B Go.Proofs.Ythhdekfnalioiaa.Ev

theorem BchDecodes : barscanlaw08_BchDecodes.Pure := by
  intro a0 a1 a2 _ _ _
  refine ⟨6000, ?_⟩
  unfold barscanlaw08_BchDecodes.f
  have hex := examples_any 6000 (by decide)
  have both : bch_Decode.f 6000 a0 a1 a2 = barscanref08_Decode.f 6000 a0 a1 a2 ∧ ∃ r, bch_Decode.f 6000 a0 a1 a2 = some r := by
    rcases valid_cases a1 a2 with ⟨h1, h2⟩ | ⟨h1, h2, kk, g, d, rfl, rfl, c⟩
    · rw [Decode_bad a0 a1 a2 h1, rDecode_bad a0 a1 a2 h2]
      exact ⟨rfl, _, rfl⟩
    · by_cases hin : 0 ≤ a0 ∧ a0 < ((2 ^ (kk + d) : Nat) : Int)
      · obtain ⟨w, rfl⟩ : ∃ v : Nat, a0 = (v : Int) := ⟨a0.toNat, by omega⟩
        rw [Decode_nat c h1 w 6000 (by omega) (by decide), rDecode_nat c h2 w 6000 (by omega) (by decide)]
        exact ⟨rfl, _, rfl⟩
      · rw [Decode_out c h1 a0 6000 (by omega), rDecode_out c h2 a0 6000 (by omega) (by decide)]
        exact ⟨rfl, _, rfl⟩
  obtain ⟨e, r, hr⟩ := both
  rw [← e, hr, Option.bind_some, Option.bind_some, if_pos rfl, if_pos rfl, if_pos rfl, hex]
  rfl

end Go.Proofs.Ythhdekfnalioiaa.Pure
