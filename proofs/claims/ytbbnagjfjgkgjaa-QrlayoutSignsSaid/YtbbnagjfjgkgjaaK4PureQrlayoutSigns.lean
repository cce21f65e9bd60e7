/- Sign and Read and their references: the law's walk at every argument. -/
import Derived.Test.YtbbnagjfjgkgjaaK4Ls2
import Derived.Test.YtbbnagjfjgkgjaaK4Puv
namespace Go.Proofs.Ytbbnagjfjgkgjaa.Pure
open Go.RowKit Go.Proofs.Ytbbnagjfjgkgjaa.L Go.Proofs.YtbbnagjfjgkgjaaW.PrintWords Go.Proofs.YtbbnagjfjgkgjaaW.PrintLast Go.Proofs.YtbbnagjfjgkgjaaW.PrintMore
set_option linter.unusedVariables false
set_option linter.unusedSimpArgs false
theorem samS_l0 (a : List Bool) (hl : a.length ≤ 1000000) : ∀ (d k i : Nat), i + d = a.length → barscanref01_Same.l0 (k + d + 1) a a (i : Int) = some true
  | 0, k, i, hi => by rw [barscanref01_Same.l0, if_neg (by omega)]
  | d + 1, k, i, hi => by
    have ih := samS_l0 a hl d k (i + 1) (by omega)
    rw [show k + (d + 1) + 1 = (k + d + 1) + 1 by omega, barscanref01_Same.l0, if_pos (by omega), if_pos (by omega), if_pos (by omega), w64 (n := (i : Int) + 1) (by omega), show ((i : Int) + 1) = ((i + 1 : Nat) : Int) by omega, ih]
    simp
theorem samS_yes (W H : Int) (a : List Bool) (hl : a.length ≤ 1000000) (k : Nat) (hk : 1000001 ≤ k) : barscanref20_Same.f k W H a W H a = some true := by
  have := samS_l0 a hl a.length (k - a.length - 1) 0 (by omega)
  rw [show k - a.length - 1 + a.length + 1 = k by omega] at this
  unfold barscanref20_Same.f barscanref01_Same.f
  rw [if_pos rfl, if_pos rfl, if_pos rfl]
  rw [show (0 : Int) = ((0 : Nat) : Int) from rfl, this]
  rfl
theorem signs_walk (W H : Int) (A : Option Addr) (c : Nat) (l : List Bool) (a1 a2 : Int) (w : World) (hA : Kd.C Kd.bool w A l.length l) (hc : l.length ≤ c) :
    Calls Try.prog 4 #[.agg #[.int .i64 W, .int .i64 H, .slice A l.length c], .int .i64 a1, .int .i64 a2] w fun e w' => e = .returned (.bool true) ∧ Below w.heap.size w w' := by
  by_cases hs : (l.length : Int) ≤ 40000
  · obtain ⟨W1, H1, d1, e1, h1, h2, h3⟩ := sign_both W H l (by omega) a1 a2 2000000 (by omega)
    obtain ⟨r1, r2, r3, r4, h4, h5⟩ := read_both W H l 2000000 (by omega)
    exact law4_small 2000000 W H A c l a1 a2 W1 H1 e1 d1 r1 r2 r3 r4 w hA hc hs h1 h2 h4 h5 (samS_yes _ _ _ (by omega) _ (by omega))
  · exact law4_big W H A c l a1 a2 w hA hc hs
end Go.Proofs.Ytbbnagjfjgkgjaa.Pure
