/- For any version and word: Version and ParseVersion return what the reference returns, and the examples hold. No condition. -/
import Derived.Test.YthhdekfnalioiaaEve
namespace Go.Proofs.Ythhdekfnalioiaa.Pure
open Go.RowKit Go.Proofs.Ythhdekfnalioiaa.B Go.Proofs.Ythhdekfnalioiaa.Ev

theorem BchVersions : barscanlaw08_BchVersions.Pure := by
  intro a0 a1 _ _
  have hex := examples_any 6001 (by decide)
  refine ⟨6001, ?_⟩
  unfold barscanlaw08_BchVersions.f
  have both : bch_ParseVersion.f 6001 a1 = barscanref08_ParseVersion.f 6001 a1 ∧ ∃ r, bch_ParseVersion.f 6001 a1 = some r := by
    by_cases hin : 0 ≤ a1 ∧ a1 < 262144
    · obtain ⟨w, rfl⟩ : ∃ v : Nat, a1 = (v : Int) := ⟨a1.toNat, by omega⟩
      rw [ParseVersion_nat w 6001 (by omega) (by decide), rParseVersion_nat w 6001 (by omega) (by decide)]
      exact ⟨rfl, _, rfl⟩
    · rw [ParseVersion_out a1 6001 (by omega) (by decide), rParseVersion_out a1 6001 (by omega) (by decide)]
      exact ⟨rfl, _, rfl⟩
  obtain ⟨e, r, hr⟩ := both
  rw [Version_nat a0 6001 (by decide), rVersion_nat a0 6001 (by decide), ← e, hr, Option.bind_some, Option.bind_some, Option.bind_some, Option.bind_some,
    if_pos rfl, if_pos rfl, if_pos rfl, if_pos rfl, if_pos rfl, hex]
  rfl

end Go.Proofs.Ythhdekfnalioiaa.Pure
