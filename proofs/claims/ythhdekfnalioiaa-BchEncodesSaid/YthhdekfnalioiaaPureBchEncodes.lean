/- For any numbers v, k, gen: bch.Encode and bch.Distance return what the reference returns, and the examples hold. No condition. -/
import Derived.Test.YthhdekfnalioiaaEvc
namespace Go.Proofs.Ythhdekfnalioiaa.Pure
open Go.RowKit Go.Proofs.Ythhdekfnalioiaa.B Go.Proofs.Ythhdekfnalioiaa.Ev

theorem BchEncodes : barscanlaw08_BchEncodes.Pure := by
  intro a0 a1 a2 _ _ _
  refine ⟨6000, ?_⟩
  unfold barscanlaw08_BchEncodes.f
  have hex := examples_any 6000 (by decide)
  rcases valid_cases a1 a2 with ⟨h1, h2⟩ | ⟨h1, h2, kk, g, d, rfl, rfl, c⟩
  · rw [Encode_bad a0 a1 a2 h1, rEncode_bad a0 a1 a2 h2, Distance_bad a1 a2 h1, rDistance_bad a1 a2 h2]
    rw [Option.bind_some, Option.bind_some, Option.bind_some, Option.bind_some]
    rw [if_pos rfl, if_pos rfl, if_pos rfl, if_pos rfl, hex]
    rfl
  · by_cases hin : 0 ≤ a0 ∧ a0 < ((2 ^ kk : Nat) : Int)
    · obtain ⟨v, rfl⟩ : ∃ v : Nat, a0 = (v : Int) := ⟨a0.toNat, by omega⟩
      rw [Encode_nat c h1 v 6000 (by omega) (by decide), rEncode_nat c h2 v 6000 (by omega) (by decide), Distance_nat c h1 6000 (by decide), rDistance_nat c h2 6000 (by decide)]
      rw [Option.bind_some, Option.bind_some, Option.bind_some, Option.bind_some]
      rw [if_pos rfl, if_pos rfl, if_pos rfl, if_pos rfl, hex]
      rfl
    · rw [Encode_out c h1 a0 6000 (by omega), rEncode_out c h2 a0 6000 (by omega) (by decide), Distance_nat c h1 6000 (by decide), rDistance_nat c h2 6000 (by decide)]
      rw [Option.bind_some, Option.bind_some, Option.bind_some, Option.bind_some]
      rw [if_pos rfl, if_pos rfl, if_pos rfl, if_pos rfl, hex]
      rfl

end Go.Proofs.Ythhdekfnalioiaa.Pure
