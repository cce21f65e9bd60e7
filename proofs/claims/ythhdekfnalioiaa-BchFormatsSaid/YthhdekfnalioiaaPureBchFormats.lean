/- For any level, mask and word: Format and ParseFormat return what the reference returns, and the examples hold. No condition. -/
import Derived.Test.YthhdekfnalioiaaEvf
namespace Go.Proofs.Ythhdekfnalioiaa.Pure
open Go.RowKit Go.Proofs.Ythhdekfnalioiaa.B Go.Proofs.Ythhdekfnalioiaa.Ev

theorem BchFormats : barscanlaw08_BchFormats.Pure := by
  intro a0 a1 a2 _ _ _
  have hex := examples_any 6001 (by decide)
  refine ⟨6001, ?_⟩
  unfold barscanlaw08_BchFormats.f
  have both : bch_ParseFormat.f 6001 a2 = barscanref08_ParseFormat.f 6001 a2 ∧ ∃ r, bch_ParseFormat.f 6001 a2 = some r := by
    by_cases hin : 0 ≤ a2 ∧ a2 < 32768
    · obtain ⟨w, rfl⟩ : ∃ v : Nat, a2 = (v : Int) := ⟨a2.toNat, by omega⟩
      rw [ParseFormat_nat w 6001 (by omega) (by decide), rParseFormat_nat w 6001 (by omega) (by decide)]
      exact ⟨rfl, _, rfl⟩
    · rw [ParseFormat_out a2 6001 (by omega) (by decide), rParseFormat_out a2 6001 (by omega) (by decide)]
      exact ⟨rfl, _, rfl⟩
  obtain ⟨e, r, hr⟩ := both
  rw [Format_nat a0 a1 6001 (by decide), rFormat_nat a0 a1 6001 (by decide), ← e, hr, Option.bind_some, Option.bind_some, Option.bind_some, Option.bind_some,
    if_pos rfl, if_pos rfl, if_pos rfl, if_pos rfl, if_pos rfl, if_pos rfl, hex]
  rfl

end Go.Proofs.Ythhdekfnalioiaa.Pure
