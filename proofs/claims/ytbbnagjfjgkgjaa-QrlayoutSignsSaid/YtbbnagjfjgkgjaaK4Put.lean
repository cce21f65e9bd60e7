/- Sign and its reference: the same matrix. -/
import Derived.Test.YtbbnagjfjgkgjaaK4Pus
namespace Go.Proofs.Ytbbnagjfjgkgjaa.Pure
open Go.RowKit Go.Proofs.Ytbbnagjfjgkgjaa.L Go.Proofs.YtbbnagjfjgkgjaaW.PrintWords Go.Proofs.YtbbnagjfjgkgjaaW.PrintLast Go.Proofs.YtbbnagjfjgkgjaaW.PrintMore
set_option linter.unusedVariables false
set_option linter.unusedSimpArgs false

theorem wu (i : Nat) (h : i < 100) : IntKind.u64.wrap (i : Int) = (i : Int) := Ev.wu (by omega) (by omega)
theorem setAll_snoc (s w : Int) (p : S45) (ps : List S45) : ∀ (i : Nat) (dk : List Bool), setAll s w (ps ++ [p]) i dk = (setAll s w ps i dk).set (idx s p) (bitv w (i + ps.length)) := by
  induction ps with
  | nil => intro i dk; rfl
  | cons q ps ih => intro i dk; rw [List.cons_append, setAll, ih, setAll, List.length_cons, show i + 1 + ps.length = i + (ps.length + 1) by omega]
theorem refsign_l1 {s : Int} (h0 : 21 ≤ s) (h1 : s ≤ 177) (v wF wV : Int) (c : Nat) (hc : c < 2) (a b : Int) (l : List Bool) (e : Int) (dk : List Bool) (hdk : (dk.length : Int) = s * s) : ∀ (d k i : Nat), i + d = 15 →
    barscanref20_Sign.l1 (k + d + 2) v wF wV (c : Int) (i : Int) s b l a e (setAll s wF (ptsF s c i) 0 dk) = barscanref20_Sign.l2 (k + 1) v wF wV (c : Int) 0 s b l a e (setAll s wF (ptsF s c 15) 0 dk)
  | 0, k, i, hi => by rw [show k + 0 + 2 = (k + 1) + 1 by omega, barscanref20_Sign.l1, if_neg (by omega), show i = 15 by omega]
  | d + 1, k, i, hi => by
    have ih := refsign_l1 h0 h1 v wF wV c hc a b l e dk hdk d k (i + 1) (by omega)
    have hp : inM s (fpt s c i) := fpt_in h0 h1 c i (by omega)
    obtain ⟨e1, e2, e3, e4⟩ := idx_lt hp (by omega) h1
    have e5 : s * s ≤ 177 * 177 := Int.mul_le_mul h1 h1 (by omega) (by omega)
    rw [show k + (d + 1) + 2 = (k + d + 2) + 1 by omega, barscanref20_Sign.l1, if_pos (by omega), formatAt_eq h0 h1 c i hc (by omega) _ (by omega), Option.bind_some, wu i (by omega), if_pos (by omega)]
    simp only []
    rw [w64 (n := (fpt s c i).f1 * s) (by omega), w64 (n := (fpt s c i).f1 * s + (fpt s c i).f0) (by omega), if_pos (by omega), setAll_len, if_pos (by omega), w64 (n := (i : Int) + 1) (by omega), show ((i : Int) + 1) = ((i + 1 : Nat) : Int) by omega, ← ih, ptsF_succ, setAll_snoc, ptsF_len, Nat.zero_add]
    rfl
theorem refsign_l2 {s : Int} (h0 : 45 ≤ s) (h1 : s ≤ 177) (v wF wV : Int) (hv : v ≥ 7) (c : Nat) (hc : c < 2) (a b : Int) (l : List Bool) (e : Int) (dk : List Bool) (hdk : (dk.length : Int) = s * s) : ∀ (d k i : Nat), i + d = 18 →
    barscanref20_Sign.l2 (k + d + 2) v wF wV (c : Int) (i : Int) s b l a e (setAll s wV (ptsV s c i) 0 dk) = barscanref20_Sign.l0 (k + 1) v wF wV ((c + 1 : Nat) : Int) s b l a e (setAll s wV (ptsV s c 18) 0 dk)
  | 0, k, i, hi => by rw [show k + 0 + 2 = (k + 1) + 1 by omega, barscanref20_Sign.l2, if_pos hv, if_neg (by omega), show i = 18 by omega, w64 (n := (c : Int) + 1) (by omega)]; rfl
  | d + 1, k, i, hi => by
    have ih := refsign_l2 h0 h1 v wF wV hv c hc a b l e dk hdk d k (i + 1) (by omega)
    have hp : inM s (vpt s c i) := vpt_in h0 h1 c i (by omega)
    obtain ⟨e1, e2, e3, e4⟩ := idx_lt hp (by omega) h1
    have e5 : s * s ≤ 177 * 177 := Int.mul_le_mul h1 h1 (by omega) (by omega)
    rw [show k + (d + 1) + 2 = (k + d + 2) + 1 by omega, barscanref20_Sign.l2, if_pos hv, if_pos (by omega), versionAt_eq (by omega) h1 c i hc (by omega), Option.bind_some, wu i (by omega), if_pos (by omega)]
    simp only []
    rw [w64 (n := (vpt s c i).f1 * s) (by omega), w64 (n := (vpt s c i).f1 * s + (vpt s c i).f0) (by omega), if_pos (by omega), setAll_len, if_pos (by omega), w64 (n := (i : Int) + 1) (by omega), show ((i : Int) + 1) = ((i + 1 : Nat) : Int) by omega, ← ih, ptsV_succ, setAll_snoc, ptsV_len, Nat.zero_add]
    rfl
def signT (v s wF wV : Int) (dk : List Bool) : List Bool :=
  let a := setAll s wF (ptsF s 1 15) 0 (setAll s wF (ptsF s 0 15) 0 dk)
  if v ≥ 7 then setAll s wV (ptsV s 1 18) 0 (setAll s wV (ptsV s 0 18) 0 a) else a
theorem signT_len (v s wF wV : Int) (dk : List Bool) : (signT v s wF wV dk).length = dk.length := by
  unfold signT; dsimp only; split <;> simp only [setAll_len]
theorem refsign_loop {v : Int} (h : 1 ≤ v ∧ v ≤ 40) (wF wV : Int) (a b e : Int) (l dk : List Bool) (hdk : (dk.length : Int) = (17 + 4 * v) * (17 + 4 * v)) (k : Nat) (hk : 200 ≤ k) :
    barscanref20_Sign.l0 k v wF wV 0 (17 + 4 * v) b l a e dk = some (a, e, signT v (17 + 4 * v) wF wV dk, 0) := by
  obtain ⟨s, hs⟩ : ∃ s, 17 + 4 * v = s := ⟨_, rfl⟩
  rw [hs] at hdk ⊢
  have h0 : 21 ≤ s := by omega
  have h1 : s ≤ 177 := by omega
  have F := fun (c : Nat) (hc : c < 2) (k : Nat) (dk : List Bool) (hdk : (dk.length : Int) = s * s) => refsign_l1 h0 h1 v wF wV c hc a b l e dk hdk 15 k 0 (by omega)
  have fin : ∀ k (dk : List Bool), barscanref20_Sign.l0 (k + 1) v wF wV ((2 : Nat) : Int) s b l a e dk = some (a, e, dk, 0) := fun k dk => by rw [barscanref20_Sign.l0, if_neg (by omega)]
  by_cases hv : v ≥ 7
  · have step : ∀ (c : Nat) (hc : c < 2) (k : Nat) (dk : List Bool), (dk.length : Int) = s * s → barscanref20_Sign.l0 (k + 38) v wF wV (c : Int) s b l a e dk = barscanref20_Sign.l0 (k + 2) v wF wV ((c + 1 : Nat) : Int) s b l a e (setAll s wV (ptsV s c 18) 0 (setAll s wF (ptsF s c 15) 0 dk)) := fun c hc k dk hdk => by
      have f := F c hc (k + 20) dk hdk
      have g := refsign_l2 (by omega) h1 v wF wV hv c hc a b l e (setAll s wF (ptsF s c 15) 0 dk) (by rw [setAll_len]; exact hdk) 18 (k + 1) 0 (by omega)
      rw [show k + 38 = (k + 20 + 15 + 2) + 1 by omega, barscanref20_Sign.l0, if_pos (by omega)]
      exact f.trans g
    have s0 := step 0 (by decide) (k - 38) dk hdk
    have s1 := step 1 (by decide) (k - 74) (setAll s wV (ptsV s 0 18) 0 (setAll s wF (ptsF s 0 15) 0 dk)) (by rw [setAll_len, setAll_len]; exact hdk)
    rw [show k - 38 + 38 = k by omega] at s0
    rw [show k - 74 + 38 = k - 38 + 2 by omega] at s1
    rw [show ((0 : Nat) : Int) = 0 from rfl] at s0
    rw [s0, s1, show k - 74 + 2 = k - 73 + 1 by omega, fin]
    unfold signT
    dsimp only
    rw [if_pos hv, setAll_comm s wF wV (ptsF s 1 15) (ptsV s 0 18) 0 0 _ (FV_apart (by omega) h1 1)]
  · have step : ∀ (c : Nat) (hc : c < 2) (k : Nat) (dk : List Bool), (dk.length : Int) = s * s → barscanref20_Sign.l0 (k + 38) v wF wV (c : Int) s b l a e dk = barscanref20_Sign.l0 (k + 20) v wF wV ((c + 1 : Nat) : Int) s b l a e (setAll s wF (ptsF s c 15) 0 dk) := fun c hc k dk hdk => by
      have f := F c hc (k + 20) dk hdk
      rw [show k + 38 = (k + 20 + 15 + 2) + 1 by omega, barscanref20_Sign.l0, if_pos (by omega)]
      refine f.trans ?_
      rw [show k + 20 + 1 = (k + 20) + 1 by omega, barscanref20_Sign.l2, if_neg hv, w64 (n := (c : Int) + 1) (by omega)]
      rfl
    have s0 := step 0 (by decide) (k - 38) dk hdk
    have s1 := step 1 (by decide) (k - 56) (setAll s wF (ptsF s 0 15) 0 dk) (by rw [setAll_len]; exact hdk)
    rw [show k - 38 + 38 = k by omega] at s0
    rw [show k - 56 + 38 = k - 38 + 20 by omega] at s1
    rw [show ((0 : Nat) : Int) = 0 from rfl] at s0
    rw [s0, s1, show k - 56 + 20 = k - 37 + 1 by omega, fin]
    unfold signT
    dsimp only
    rw [if_neg hv]
theorem clone_eq (W H : Int) (l : List Bool) (hl : l.length ≤ 1000000) : qrlayout_clone.f W H l = some (W, H, l) := by
  unfold qrlayout_clone.f slices_Clone_bool_bool.f
  rw [Option.bind_some, if_pos (by simp; omega)]
  rfl
theorem copy_eq (W H : Int) (l : List Bool) (hl : l.length ≤ 1000000) : barscanref20_Copy.f W H l = some (W, H, l) := by
  unfold barscanref20_Copy.f
  rw [if_pos (by simp; omega)]
  rfl
theorem ver_yes {v : Int} (h : 1 ≤ v ∧ v ≤ 40) : (Ev.ver v).2 = 0 ↔ v ≥ 7 := by
  unfold Ev.ver
  split
  · simp; omega
  · simp; omega
theorem sign_both (W H : Int) (l : List Bool) (hl : l.length ≤ 40000) (a1 a2 : Int) (k : Nat) (hk : 100000 ≤ k) : ∃ r1 r2 r3 r4, qrlayout_Sign.f k W H l a1 a2 = some (r1, r2, r3, r4) ∧ barscanref20_Sign.f k W H l a1 a2 = some (r1, r2, r3, r4) ∧ r3.length ≤ 40000 := by
  rcases sized_cases W H l with ⟨v, h1, h2, rfl, rfl, hlen, hs, hv⟩ | ⟨e, he, hs, hv⟩
  · have h : 1 ≤ v ∧ v ≤ 40 := ⟨h1, h2⟩
    have hsd := sdS_eq h
    have hdk : (l.length : Int) = (17 + 4 * v) * (17 + 4 * v) := by rw [hlen, Int.natCast_mul, hsd]
    obtain ⟨s, hS⟩ : ∃ s, 17 + 4 * v = s := ⟨_, rfl⟩
    have h0 : 21 ≤ s := by omega
    have h3 : s ≤ 177 := by omega
    unfold qrlayout_Sign.f barscanref20_Sign.f
    rw [hs, hv, Option.bind_some, Option.bind_some, if_pos rfl, if_pos rfl, Ev.Format_nat a1 a2 k (by omega), Option.bind_some]
    unfold Ev.fmt
    obtain ⟨k, rfl⟩ : ∃ k', k = k' + 2 := ⟨k - 2, by omega⟩
    by_cases c1 : a1 < 1 ∨ 4 < a1
    · refine ⟨0, 0, [], 15, ?_, ?_, by simp⟩
      · rw [if_pos c1]; rfl
      · split
        · rw [barscanref20_Sign.j0, if_pos rfl]
        · rw [barscanref20_Sign.j0, if_pos (by simp; omega)]
    · have r0 : ∀ A B L, (if a1 < 1 then barscanref20_Sign.j0 (k + 2) a1 a2 v true A B L else barscanref20_Sign.j0 (k + 2) a1 a2 v (decide (a1 > 4)) A B L) = if a2 < 0 then barscanref20_Sign.j1 (k + 1) a1 a2 v true A B L else barscanref20_Sign.j1 (k + 1) a1 a2 v (decide (a2 > 7)) A B L := fun A B L => by
        rw [if_neg (show ¬ a1 < 1 by omega), decide_eq_false (show ¬ a1 > 4 by omega), barscanref20_Sign.j0, if_neg (show ¬ (false = true) by decide)]
      simp only [r0]
      rw [if_neg c1]
      by_cases c2 : a2 < 0 ∨ 7 < a2
      · refine ⟨0, 0, [], 3, ?_, ?_, by simp⟩
        · rw [if_pos c2]; rfl
        · split
          · rw [barscanref20_Sign.j1, if_pos rfl]
          · rw [barscanref20_Sign.j1, if_pos (by simp; omega)]
      · have r1 : ∀ A B L, (if a2 < 0 then barscanref20_Sign.j1 (k + 1) a1 a2 v true A B L else barscanref20_Sign.j1 (k + 1) a1 a2 v (decide (a2 > 7)) A B L) = (barscanref20_Copy.f A B L).bind fun bt376 => ((barscanref08_Format.f k a1 a2).bind fun bt382 => ((barscanref08_Version.f k v).bind fun bt384 => (barscanref20_Sign.l0 k v bt382.1 bt384.1 0 A B L bt376.1 bt376.2.1 bt376.2.2))) := fun A B L => by
          rw [if_neg (show ¬ a2 < 0 by omega), decide_eq_false (show ¬ a2 > 7 by omega), barscanref20_Sign.j1, if_neg (show ¬ (false = true) by decide)]
        simp only [r1]
        rw [if_neg c2, if_pos rfl, clone_eq _ _ _ (by omega), copy_eq _ _ _ (by omega), Ev.rFormat_nat a1 a2 k (by omega), Ev.rVersion_nat v k (by omega), Ev.Version_nat v (k + 2) (by omega), format_eq _ _ _ (k + 2) (by omega)]
        simp only [Option.bind_some]
        unfold Ev.fmt
        rw [if_neg c1, if_neg c2, hS]
        rw [hS] at hdk
        obtain ⟨wF, hwF⟩ : ∃ wF : Int, ((Math.cw 1335 10 (8 * Ev.lev a1 + a2.toNat) ^^^ 21522 : Nat) : Int) = wF := ⟨_, rfl⟩
        have hL := refsign_loop h wF (Ev.ver v).1 s s s l l (by rw [hS]; exact hdk) k (by omega)
        rw [hS] at hL
        refine ⟨s, s, signT v s wF (Ev.ver v).1 l, 0, ?_, ?_, by rw [signT_len]; exact hl⟩
        · rw [write_eq h0 h3 s _ (ptsF s 0 15) (F_in h0 h3 0) (by rw [ptsF_len]; omega) l hdk (k + 2) (by omega), Option.bind_some, write_eq h0 h3 s _ (ptsF s 1 15) (F_in h0 h3 1) (by rw [ptsF_len]; omega) _ (by rw [setAll_len]; exact hdk) (k + 2) (by omega), Option.bind_some]
          simp only [hwF]
          by_cases c7 : v ≥ 7
          · rw [if_pos ((ver_yes h).2 c7), info_eq s v _ h0 h3 (k + 2) (by omega), Option.bind_some, write_eq h0 h3 s _ (ptsV s 0 18) (V_in (by omega) h3 0) (by rw [ptsV_len]; omega) _ (by rw [setAll_len, setAll_len]; exact hdk) (k + 2) (by omega), Option.bind_some, write_eq h0 h3 s _ (ptsV s 1 18) (V_in (by omega) h3 1) (by rw [ptsV_len]; omega) _ (by rw [setAll_len, setAll_len, setAll_len]; exact hdk) (k + 2) (by omega), Option.bind_some]
            unfold signT
            dsimp only
            rw [if_pos c7]
          · rw [if_neg (fun hh => c7 ((ver_yes h).1 hh))]
            unfold signT
            dsimp only
            rw [if_neg c7]
        · simp only [hwF]
          exact hL
  · refine ⟨0, 0, [], e, ?_, ?_, by simp⟩
    · unfold qrlayout_Sign.f
      rw [hs, Option.bind_some, if_neg he]
    · unfold barscanref20_Sign.f
      rw [hv, Option.bind_some, if_neg he]
end Go.Proofs.Ytbbnagjfjgkgjaa.Pure
