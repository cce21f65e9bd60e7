/- Read and its reference: the same. -/
import Derived.Test.YtbbnagjfjgkgjaaK4Put
namespace Go.Proofs.Ytbbnagjfjgkgjaa.Pure
open Go.RowKit Go.Proofs.Ytbbnagjfjgkgjaa.L Go.Proofs.YtbbnagjfjgkgjaaW.PrintWords Go.Proofs.YtbbnagjfjgkgjaaW.PrintLast Go.Proofs.YtbbnagjfjgkgjaaW.PrintMore
set_option linter.unusedVariables false
set_option linter.unusedSimpArgs false

def up (f : Nat → Bool) : Nat → Nat → Nat
  | _, 0 => 0
  | i, d + 1 => (if f i = true then 1 else 0) + 2 * up f (i + 1) d
theorem up_lt (f : Nat → Bool) : ∀ (d i : Nat), up f i d < 2 ^ d
  | 0, i => by simp [up]
  | d + 1, i => by
    have := up_lt f d (i + 1)
    rw [up, Nat.pow_succ]
    split <;> omega
def bitAt (s : Int) (dk : List Bool) (pts : List S45) (i : Nat) : Bool := rdOf false dk (((rd_T45 pts (i : Int)).f1) * s + (rd_T45 pts (i : Int)).f0)
theorem read_l0 {s : Int} (h0 : 21 ≤ s) (h1 : s ≤ 177) (H : Int) (dk : List Bool) (hdk : (dk.length : Int) = s * s) (pts : List S45) (hp : ∀ p ∈ pts, inM s p) (hl : pts.length ≤ 30) : ∀ (d k i acc : Nat), i + d = pts.length → acc < 2 ^ i →
    qrlayout_read.l0 (k + d + 1) (acc : Int) pts (pts.length : Int) (i : Int) s H dk = some ((acc + 2 ^ i * up (bitAt s dk pts) i d : Nat) : Int)
  | 0, k, i, acc, hi, ha => by rw [qrlayout_read.l0, if_neg (by omega)]; simp [up]
  | d + 1, k, i, acc, hi, ha => by
    have hin : i < pts.length := by omega
    have hpow : 2 ^ i ≤ 2 ^ 30 := Nat.pow_le_pow_right (by decide) (by omega)
    have hps : 2 ^ (i + 1) = 2 * 2 ^ i := by rw [Nat.pow_succ, Nat.mul_comm]
    obtain ⟨e1, e2, e3, e4⟩ := idx_lt (hp _ (List.getElem_mem hin)) (by omega) h1
    have e5 : s * s ≤ 177 * 177 := Int.mul_le_mul h1 h1 (by omega) (by omega)
    have hor : acc ||| 2 ^ i = acc + 2 ^ i := by
      rw [Nat.or_comm, Nat.add_comm]
      have := Nat.two_pow_add_eq_or_of_lt ha 1
      simpa using this.symm
    have ih1 := read_l0 h0 h1 H dk hdk pts hp hl d k (i + 1) (acc + 2 ^ i) (by omega) (by omega)
    have ih0 := read_l0 h0 h1 H dk hdk pts hp hl d k (i + 1) acc (by omega) (by omega)
    rw [show k + (d + 1) + 1 = (k + d + 1) + 1 by omega, qrlayout_read.l0, if_pos (by omega), if_pos (by omega), if_pos (by omega), up]
    have hb : bitAt s dk pts i = rdOf false dk ((pts[i].f1) * s + pts[i].f0) := by unfold bitAt; rw [rdT_nat pts i hin]
    rw [hb, rdT_nat pts i hin, w64 (n := pts[i].f1 * s) (by omega), w64 (n := pts[i].f1 * s + pts[i].f0) (by omega), if_pos (by omega), if_pos (by omega), w64 (n := (i : Int) + 1) (by omega), show ((i : Int) + 1) = ((i + 1 : Nat) : Int) by omega, Ev.one_shl i (by omega), Ev.or_nat acc (2 ^ i) (by omega) (by omega), hor, ih1, ih0]
    split
    · congr 2; rw [hps, Nat.mul_add, Nat.mul_one, Nat.mul_comm 2 (2 ^ i), Nat.mul_assoc]; omega
    · congr 2; rw [hps, Nat.zero_add, Nat.mul_comm 2 (2 ^ i), Nat.mul_assoc]
def wordT (s : Int) (dk : List Bool) (pts : List S45) : Nat := up (bitAt s dk pts) 0 pts.length
theorem read_eq {s : Int} (h0 : 21 ≤ s) (h1 : s ≤ 177) (H : Int) (dk : List Bool) (hdk : (dk.length : Int) = s * s) (pts : List S45) (hp : ∀ p ∈ pts, inM s p) (hl : pts.length ≤ 30) (k : Nat) (hk : 40 ≤ k) : qrlayout_read.f k s H dk pts = some (wordT s dk pts : Int) := by
  have := read_l0 h0 h1 H dk hdk pts hp hl pts.length (k - pts.length - 1) 0 0 (by omega) (by simp)
  rw [show k - pts.length - 1 + pts.length + 1 = k by omega] at this
  unfold qrlayout_read.f wordT
  simpa using this
theorem ref_info_F {s : Int} (h0 : 21 ≤ s) (h1 : s ≤ 177) (H : Int) (dk : List Bool) (hdk : (dk.length : Int) = s * s) (c : Nat) (hc : c < 2) : ∀ (i d k : Nat), i + d = 15 →
    barscanref20_information.l0 (k + i + 1) (c : Int) 15 (up (bitAt s dk (ptsF s c 15)) i d : Int) ((i : Int) - 1) s H dk = some (up (bitAt s dk (ptsF s c 15)) 0 15 : Int)
  | 0, d, k, hi => by rw [barscanref20_information.l0, if_neg (by omega), show d = 15 by omega]
  | i + 1, d, k, hi => by
    have hp : inM s (fpt s c i) := fpt_in h0 h1 c i (by omega)
    obtain ⟨e1, e2, e3, e4⟩ := idx_lt hp (by omega) h1
    have e5 : s * s ≤ 177 * 177 := Int.mul_le_mul h1 h1 (by omega) (by omega)
    have ih := ref_info_F h0 h1 H dk hdk c hc i (d + 1) k (by omega)
    have hu := up_lt (bitAt s dk (ptsF s c 15)) d (i + 1)
    have hpow : 2 ^ d ≤ 2 ^ 15 := Nat.pow_le_pow_right (by decide) (by omega)
    have hin : i < (ptsF s c 15).length := by rw [ptsF_len]; omega
    have hb : bitAt s dk (ptsF s c 15) i = rdOf false dk ((fpt s c i).f1 * s + (fpt s c i).f0) := by
      unfold bitAt; rw [rdT_nat _ i hin]; simp [ptsF]
    rw [up, hb] at ih
    rw [show k + (i + 1) + 1 = (k + i + 1) + 1 by omega, show (((i + 1 : Nat) : Int) - 1) = (i : Int) by omega, barscanref20_information.l0, if_pos (by omega), Int.tmod_eq_emod_of_nonneg (by omega), show (i : Int) % 15 = (i : Int) by omega, formatAt_eq h0 h1 c i hc (by omega) _ (by omega), Option.bind_some, if_neg (by decide)]
    simp only []
    rw [w64 (n := (fpt s c i).f1 * s) (by omega), w64 (n := (fpt s c i).f1 * s + (fpt s c i).f0) (by omega), if_pos (by omega), if_pos (by omega), w64 (n := 2 * (up (bitAt s dk (ptsF s c 15)) (i + 1) d : Int)) (by omega), w64 (n := 2 * (up (bitAt s dk (ptsF s c 15)) (i + 1) d : Int) + 1) (by omega), w64 (n := (i : Int) - 1) (by omega)]
    split
    · rename_i hh
      rw [if_pos hh] at ih
      rw [show 2 * (up (bitAt s dk (ptsF s c 15)) (i + 1) d : Int) + 1 = ((1 + 2 * up (bitAt s dk (ptsF s c 15)) (i + 1) d : Nat) : Int) by omega]
      exact ih
    · rename_i hh
      rw [if_neg hh] at ih
      rw [show 2 * (up (bitAt s dk (ptsF s c 15)) (i + 1) d : Int) = ((0 + 2 * up (bitAt s dk (ptsF s c 15)) (i + 1) d : Nat) : Int) by omega]
      exact ih
theorem ref_info_V {s : Int} (h0 : 45 ≤ s) (h1 : s ≤ 177) (H : Int) (dk : List Bool) (hdk : (dk.length : Int) = s * s) (c : Nat) (hc : c < 2) : ∀ (i d k : Nat), i + d = 18 →
    barscanref20_information.l0 (k + i + 1) (c : Int) 18 (up (bitAt s dk (ptsV s c 18)) i d : Int) ((i : Int) - 1) s H dk = some (up (bitAt s dk (ptsV s c 18)) 0 18 : Int)
  | 0, d, k, hi => by rw [barscanref20_information.l0, if_neg (by omega), show d = 18 by omega]
  | i + 1, d, k, hi => by
    have hp : inM s (vpt s c i) := vpt_in h0 h1 c i (by omega)
    obtain ⟨e1, e2, e3, e4⟩ := idx_lt hp (by omega) h1
    have e5 : s * s ≤ 177 * 177 := Int.mul_le_mul h1 h1 (by omega) (by omega)
    have ih := ref_info_V h0 h1 H dk hdk c hc i (d + 1) k (by omega)
    have hu := up_lt (bitAt s dk (ptsV s c 18)) d (i + 1)
    have hpow : 2 ^ d ≤ 2 ^ 18 := Nat.pow_le_pow_right (by decide) (by omega)
    have hin : i < (ptsV s c 18).length := by rw [ptsV_len]; omega
    have hb : bitAt s dk (ptsV s c 18) i = rdOf false dk ((vpt s c i).f1 * s + (vpt s c i).f0) := by
      unfold bitAt; rw [rdT_nat _ i hin]; simp [ptsV]
    rw [up, hb] at ih
    rw [show k + (i + 1) + 1 = (k + i + 1) + 1 by omega, show (((i + 1 : Nat) : Int) - 1) = (i : Int) by omega, barscanref20_information.l0, if_pos (by omega), Int.tmod_eq_emod_of_nonneg (by omega), show (i : Int) % 15 = ((i % 15 : Nat) : Int) by omega, formatAt_eq (by omega) h1 c (i % 15) hc (Nat.mod_lt _ (by decide)) _ (by omega), Option.bind_some, if_pos rfl, versionAt_eq (by omega) h1 c i hc (by omega), Option.bind_some]
    simp only []
    rw [w64 (n := (vpt s c i).f1 * s) (by omega), w64 (n := (vpt s c i).f1 * s + (vpt s c i).f0) (by omega), if_pos (by omega), if_pos (by omega), w64 (n := 2 * (up (bitAt s dk (ptsV s c 18)) (i + 1) d : Int)) (by omega), w64 (n := 2 * (up (bitAt s dk (ptsV s c 18)) (i + 1) d : Int) + 1) (by omega), w64 (n := (i : Int) - 1) (by omega)]
    split
    · rename_i hh
      rw [if_pos hh] at ih
      rw [show 2 * (up (bitAt s dk (ptsV s c 18)) (i + 1) d : Int) + 1 = ((1 + 2 * up (bitAt s dk (ptsV s c 18)) (i + 1) d : Nat) : Int) by omega]
      exact ih
    · rename_i hh
      rw [if_neg hh] at ih
      rw [show 2 * (up (bitAt s dk (ptsV s c 18)) (i + 1) d : Int) = ((0 + 2 * up (bitAt s dk (ptsV s c 18)) (i + 1) d : Nat) : Int) by omega]
      exact ih
theorem infoF_eq {s : Int} (h0 : 21 ≤ s) (h1 : s ≤ 177) (H : Int) (dk : List Bool) (hdk : (dk.length : Int) = s * s) (c : Nat) (hc : c < 2) (k : Nat) (hk : 40 ≤ k) : barscanref20_information.f k s H dk (c : Int) 15 = some (wordT s dk (ptsF s c 15) : Int) := by
  have := ref_info_F h0 h1 H dk hdk c hc 15 0 (k - 16) (by omega)
  rw [show k - 16 + 15 + 1 = k by omega] at this
  unfold barscanref20_information.f wordT
  rw [ptsF_len, w64 (n := 15 - 1) (by omega)]
  exact this
theorem infoV_eq {s : Int} (h0 : 45 ≤ s) (h1 : s ≤ 177) (H : Int) (dk : List Bool) (hdk : (dk.length : Int) = s * s) (c : Nat) (hc : c < 2) (k : Nat) (hk : 40 ≤ k) : barscanref20_information.f k s H dk (c : Int) 18 = some (wordT s dk (ptsV s c 18) : Int) := by
  have := ref_info_V h0 h1 H dk hdk c hc 18 0 (k - 19) (by omega)
  rw [show k - 19 + 18 + 1 = k by omega] at this
  unfold barscanref20_information.f wordT
  rw [ptsV_len, w64 (n := 18 - 1) (by omega)]
  exact this

theorem word_lt (s : Int) (dk : List Bool) (pts : List S45) : wordT s dk pts < 2 ^ pts.length := up_lt _ _ _
def pV (w : Nat) : Int × Int × Int := Ev.pver w (Ev.hit 6 7973 12 w 3)
def pF (w : Nat) : Int × Int × Int × Int := Ev.pfmt w (Ev.hit 5 1335 10 (w ^^^ 21522) 3)
theorem pV_nonneg (w : Nat) : (pV w).2.2 = 0 → 0 ≤ (pV w).2.1 := by
  unfold pV
  cases Ev.hit 6 7973 12 w 3 with
  | none => intro h; simp [Ev.pver] at h
  | some v =>
    intro h
    by_cases hc : v < 7 ∨ 40 < v
    · simp [Ev.pver, hc]
    · simp only [Ev.pver, if_neg hc]; omega
theorem pF_nonneg (w : Nat) : (pF w).2.2.2 = 0 → 0 ≤ (pF w).2.2.1 := by
  unfold pF
  cases Ev.hit 5 1335 10 (w ^^^ 21522) 3 with
  | none => intro h; simp [Ev.pfmt] at h
  | some v => intro h; simp [Ev.pfmt]
def pick2 (a b : Int × Int × Int) : Int × Int :=
  if a.2.2 = 0 then (if b.2.2 = 0 then (if b.2.1 < a.2.1 then (b.1, 0) else (a.1, 0)) else (a.1, 0)) else (if b.2.2 = 0 then (b.1, 0) else (0, 21))
def agreeT (v : Int) (a b : Int × Int × Int) : Int := if (pick2 a b).2 = 0 then (if (pick2 a b).1 = v then 0 else 14) else 21
theorem confirm_eq {v : Int} (h : 7 ≤ v ∧ v ≤ 40) (H : Int) (dk : List Bool) (hdk : (dk.length : Int) = (17 + 4 * v) * (17 + 4 * v)) (k : Nat) (hk : 7000 ≤ k) (l : List Int) :
    qrlayout_frame_confirm.f k v (17 + 4 * v) l (17 + 4 * v) H dk = some (agreeT v (pV (wordT (17 + 4 * v) dk (ptsV (17 + 4 * v) 0 18))) (pV (wordT (17 + 4 * v) dk (ptsV (17 + 4 * v) 1 18)))) := by
  obtain ⟨s, hs⟩ : ∃ s, 17 + 4 * v = s := ⟨_, rfl⟩
  rw [hs] at hdk ⊢
  have h0 : 45 ≤ s := by omega
  have h1 : s ≤ 177 := by omega
  have w0 := word_lt s dk (ptsV s 0 18)
  have w1 := word_lt s dk (ptsV s 1 18)
  rw [ptsV_len] at w0 w1
  have na := pV_nonneg (wordT s dk (ptsV s 0 18))
  have nb := pV_nonneg (wordT s dk (ptsV s 1 18))
  have p0 := Ev.ParseVersion_nat (wordT s dk (ptsV s 0 18)) k (by omega) (by omega)
  have p1 := Ev.ParseVersion_nat (wordT s dk (ptsV s 1 18)) k (by omega) (by omega)
  have e0 : Ev.pver (wordT s dk (ptsV s 0 18)) (Ev.hit 6 7973 12 (wordT s dk (ptsV s 0 18)) 3) = pV (wordT s dk (ptsV s 0 18)) := rfl
  have e1 : Ev.pver (wordT s dk (ptsV s 1 18)) (Ev.hit 6 7973 12 (wordT s dk (ptsV s 1 18)) 3) = pV (wordT s dk (ptsV s 1 18)) := rfl
  rw [e0] at p0
  rw [e1] at p1
  unfold qrlayout_frame_confirm.f cfStep
  rw [info_eq s v l (by omega) h1 k (by omega), Option.bind_some]
  simp only []
  rw [read_eq (by omega) h1 H dk hdk (ptsV s 0 18) (V_in h0 h1 0) (by rw [ptsV_len]; omega) k (by omega), Option.bind_some, p0, Option.bind_some, Option.bind_some,
    read_eq (by omega) h1 H dk hdk (ptsV s 1 18) (V_in h0 h1 1) (by rw [ptsV_len]; omega) k (by omega), Option.bind_some, p1, Option.bind_some, Option.bind_some]
  generalize pV (wordT s dk (ptsV s 0 18)) = a at na ⊢
  generalize pV (wordT s dk (ptsV s 1 18)) = b at nb ⊢
  obtain ⟨a1, a2, a3⟩ := a
  obtain ⟨b1, b2, b3⟩ := b
  dsimp only at na nb ⊢
  unfold agreeT pick2
  dsimp only
  by_cases ha : a3 = 0
  · have na := na ha
    have na' : ¬ a2 < 0 := by omega
    by_cases hb : b3 = 0
    · have nb := nb hb
      have nb' : ¬ b2 < 0 := by omega
      by_cases hd : b2 < a2 <;> by_cases e1 : b1 = v <;> by_cases e2 : a1 = v <;> simp [ha, hb, hd, e1, e2, na', nb']
    · by_cases e2 : a1 = v <;> simp [ha, hb, e2, na']
  · by_cases hb : b3 = 0
    · have nb := nb hb
      have nb' : ¬ b2 < 0 := by omega
      by_cases e1 : b1 = v <;> simp [ha, hb, e1, nb']
    · simp [ha, hb]
theorem agrees_eq {v : Int} (h : 7 ≤ v ∧ v ≤ 40) (H : Int) (dk : List Bool) (hdk : (dk.length : Int) = (17 + 4 * v) * (17 + 4 * v)) (k : Nat) (hk : 7000 ≤ k) :
    barscanref20_agrees.f k (17 + 4 * v) H dk v = some (agreeT v (pV (wordT (17 + 4 * v) dk (ptsV (17 + 4 * v) 0 18))) (pV (wordT (17 + 4 * v) dk (ptsV (17 + 4 * v) 1 18)))) := by
  obtain ⟨s, hs⟩ : ∃ s, 17 + 4 * v = s := ⟨_, rfl⟩
  rw [hs] at hdk ⊢
  have h0 : 45 ≤ s := by omega
  have h1 : s ≤ 177 := by omega
  have w0 := word_lt s dk (ptsV s 0 18)
  have w1 := word_lt s dk (ptsV s 1 18)
  rw [ptsV_len] at w0 w1
  have i0 := infoV_eq h0 h1 H dk hdk 0 (by decide) k (by omega)
  have i1 := infoV_eq h0 h1 H dk hdk 1 (by decide) k (by omega)
  rw [show ((0 : Nat) : Int) = 0 from rfl] at i0
  rw [show ((1 : Nat) : Int) = 1 from rfl] at i1
  unfold barscanref20_agrees.f
  rw [i0, Option.bind_some, Ev.rParseVersion_nat _ k (by omega) (by omega), Option.bind_some, i1, Option.bind_some, Ev.rParseVersion_nat _ k (by omega) (by omega), Option.bind_some]
  obtain ⟨k, rfl⟩ : ∃ k', k = k' + 2 := ⟨k - 2, by omega⟩
  have e0 : Ev.pver (wordT s dk (ptsV s 0 18)) (Ev.hit 6 7973 12 (wordT s dk (ptsV s 0 18)) 3) = pV (wordT s dk (ptsV s 0 18)) := rfl
  have e1 : Ev.pver (wordT s dk (ptsV s 1 18)) (Ev.hit 6 7973 12 (wordT s dk (ptsV s 1 18)) 3) = pV (wordT s dk (ptsV s 1 18)) := rfl
  rw [e0, e1]
  generalize pV (wordT s dk (ptsV s 0 18)) = a
  generalize pV (wordT s dk (ptsV s 1 18)) = b
  obtain ⟨a1, a2, a3⟩ := a
  obtain ⟨b1, b2, b3⟩ := b
  simp only [barscanref20_agrees.j0, barscanref20_agrees.j1]
  unfold agreeT pick2
  dsimp only
  by_cases ha : a3 = 0 <;> by_cases hb : b3 = 0 <;> by_cases hd : b2 < a2 <;> by_cases e1 : b1 = v <;> by_cases e2 : a1 = v <;> simp [ha, hb, hd, e1, e2]
def fmt2 (v : Int) (a b : Int × Int × Int × Int) : Int × Int × Int × Int :=
  if a.2.2.2 = 0 then (if b.2.2.2 = 0 then (if b.2.2.1 < a.2.2.1 then (v, b.1, b.2.1, 0) else (v, a.1, a.2.1, 0)) else (v, a.1, a.2.1, 0)) else (if b.2.2.2 = 0 then (v, b.1, b.2.1, 0) else (0, 0, 0, 21))
theorem rest_eq {v : Int} (h : 1 ≤ v ∧ v ≤ 40) (H : Int) (dk : List Bool) (hdk : (dk.length : Int) = (17 + 4 * v) * (17 + 4 * v)) (k : Nat) (hk : 7000 ≤ k) (l : List Int) :
    rdRest k v (17 + 4 * v) l (17 + 4 * v) H dk = some (fmt2 v (pF (wordT (17 + 4 * v) dk (ptsF (17 + 4 * v) 0 15))) (pF (wordT (17 + 4 * v) dk (ptsF (17 + 4 * v) 1 15)))) := by
  obtain ⟨s, hs⟩ : ∃ s, 17 + 4 * v = s := ⟨_, rfl⟩
  rw [hs] at hdk ⊢
  have h0 : 21 ≤ s := by omega
  have h1 : s ≤ 177 := by omega
  have w0 := word_lt s dk (ptsF s 0 15)
  have w1 := word_lt s dk (ptsF s 1 15)
  rw [ptsF_len] at w0 w1
  have na := pF_nonneg (wordT s dk (ptsF s 0 15))
  have nb := pF_nonneg (wordT s dk (ptsF s 1 15))
  have p0 := Ev.ParseFormat_nat (wordT s dk (ptsF s 0 15)) k (by omega) (by omega)
  have p1 := Ev.ParseFormat_nat (wordT s dk (ptsF s 1 15)) k (by omega) (by omega)
  have e0 : Ev.pfmt (wordT s dk (ptsF s 0 15)) (Ev.hit 5 1335 10 (wordT s dk (ptsF s 0 15) ^^^ 21522) 3) = pF (wordT s dk (ptsF s 0 15)) := rfl
  have e1 : Ev.pfmt (wordT s dk (ptsF s 1 15)) (Ev.hit 5 1335 10 (wordT s dk (ptsF s 1 15) ^^^ 21522) 3) = pF (wordT s dk (ptsF s 1 15)) := rfl
  rw [e0] at p0
  rw [e1] at p1
  unfold rdRest rdStep
  rw [format_eq s v l k (by omega), Option.bind_some]
  simp only []
  rw [read_eq h0 h1 H dk hdk (ptsF s 0 15) (F_in h0 h1 0) (by rw [ptsF_len]; omega) k (by omega), Option.bind_some, p0, Option.bind_some, Option.bind_some,
    read_eq h0 h1 H dk hdk (ptsF s 1 15) (F_in h0 h1 1) (by rw [ptsF_len]; omega) k (by omega), Option.bind_some, p1, Option.bind_some, Option.bind_some]
  generalize pF (wordT s dk (ptsF s 0 15)) = a at na ⊢
  generalize pF (wordT s dk (ptsF s 1 15)) = b at nb ⊢
  obtain ⟨a1, a2, a3, a4⟩ := a
  obtain ⟨b1, b2, b3, b4⟩ := b
  dsimp only at na nb ⊢
  unfold fmt2
  dsimp only
  by_cases ha : a4 = 0
  · have na := na ha
    have na' : ¬ a3 < 0 := by omega
    by_cases hb : b4 = 0
    · have nb := nb hb
      have nb' : ¬ b3 < 0 := by omega
      by_cases hd : b3 < a3 <;> simp [ha, hb, hd, na', nb']
    · simp [ha, hb, na']
  · by_cases hb : b4 = 0
    · have nb := nb hb
      have nb' : ¬ b3 < 0 := by omega
      simp [ha, hb, nb']
    · simp [ha, hb]
theorem read_both (W H : Int) (l : List Bool) (k : Nat) (hk : 10000 ≤ k) : ∃ r1 r2 r3 r4, qrlayout_Read.f k W H l = some (r1, r2, r3, r4) ∧ barscanref20_Read.f k W H l = some (r1, r2, r3, r4) := by
  rcases sized_cases W H l with ⟨v, h1, h2, rfl, rfl, hlen, hs, hv⟩ | ⟨e, he, hs, hv⟩
  · have h : 1 ≤ v ∧ v ≤ 40 := ⟨h1, h2⟩
    have hsd := sdS_eq h
    have hdk : (l.length : Int) = (17 + 4 * v) * (17 + 4 * v) := by rw [hlen, Int.natCast_mul, hsd]
    have hF : ∀ k', 7000 ≤ k' → barscanref20_Read.j1 (k' + 2) v 0 (17 + 4 * v) (17 + 4 * v) l = some (fmt2 v (pF (wordT (17 + 4 * v) l (ptsF (17 + 4 * v) 0 15))) (pF (wordT (17 + 4 * v) l (ptsF (17 + 4 * v) 1 15)))) := fun k' hk' => by
      have w0 := word_lt (17 + 4 * v) l (ptsF (17 + 4 * v) 0 15)
      have w1 := word_lt (17 + 4 * v) l (ptsF (17 + 4 * v) 1 15)
      rw [ptsF_len] at w0 w1
      have i0 := infoF_eq (s := 17 + 4 * v) (by omega) (by omega) (17 + 4 * v) l hdk 0 (by decide) (k' + 1) (by omega)
      have i1 := infoF_eq (s := 17 + 4 * v) (by omega) (by omega) (17 + 4 * v) l hdk 1 (by decide) (k' + 1) (by omega)
      rw [show ((0 : Nat) : Int) = 0 from rfl] at i0
      rw [show ((1 : Nat) : Int) = 1 from rfl] at i1
      have p0 := Ev.rParseFormat_nat (wordT (17 + 4 * v) l (ptsF (17 + 4 * v) 0 15)) (k' + 1) (by omega) (by omega)
      have p1 := Ev.rParseFormat_nat (wordT (17 + 4 * v) l (ptsF (17 + 4 * v) 1 15)) (k' + 1) (by omega) (by omega)
      have e0 : Ev.pfmt (wordT (17 + 4 * v) l (ptsF (17 + 4 * v) 0 15)) (Ev.hit 5 1335 10 (wordT (17 + 4 * v) l (ptsF (17 + 4 * v) 0 15) ^^^ 21522) 3) = pF (wordT (17 + 4 * v) l (ptsF (17 + 4 * v) 0 15)) := rfl
      have e1 : Ev.pfmt (wordT (17 + 4 * v) l (ptsF (17 + 4 * v) 1 15)) (Ev.hit 5 1335 10 (wordT (17 + 4 * v) l (ptsF (17 + 4 * v) 1 15) ^^^ 21522) 3) = pF (wordT (17 + 4 * v) l (ptsF (17 + 4 * v) 1 15)) := rfl
      rw [e0] at p0
      rw [e1] at p1
      rw [show k' + 2 = (k' + 1) + 1 by omega, barscanref20_Read.j1, if_pos rfl, i0, Option.bind_some, p0, Option.bind_some, i1, Option.bind_some, p1, Option.bind_some]
      generalize pF (wordT (17 + 4 * v) l (ptsF (17 + 4 * v) 0 15)) = a
      generalize pF (wordT (17 + 4 * v) l (ptsF (17 + 4 * v) 1 15)) = b
      obtain ⟨a1, a2, a3, a4⟩ := a
      obtain ⟨b1, b2, b3, b4⟩ := b
      simp only [barscanref20_Read.j2]
      unfold fmt2
      dsimp only
      by_cases ha : a4 = 0 <;> by_cases hb : b4 = 0 <;> by_cases hd : b3 < a3 <;> simp [ha, hb, hd]
    obtain ⟨k, rfl⟩ : ∃ k', k = k' + 3 := ⟨k - 3, by omega⟩
    unfold qrlayout_Read.f barscanref20_Read.f
    rw [hs, hv, Option.bind_some, Option.bind_some]
    simp only [if_true]
    have hR := rest_eq h (17 + 4 * v) l hdk (k + 3) (by omega) (alg v)
    generalize fmt2 v (pF (wordT (17 + 4 * v) l (ptsF (17 + 4 * v) 0 15))) (pF (wordT (17 + 4 * v) l (ptsF (17 + 4 * v) 1 15))) = R at hR hF
    obtain ⟨R1, R2, R3, R4⟩ := R
    by_cases c7 : v ≥ 7
    · have hA := agrees_eq ⟨c7, h2⟩ (17 + 4 * v) l hdk (k + 2) (by omega)
      have hC := confirm_eq ⟨c7, h2⟩ (17 + 4 * v) l hdk (k + 3) (by omega) (alg v)
      generalize agreeT v _ _ = c at hA hC
      have hJ : barscanref20_Read.j0 (k + 3) v 0 (decide (v ≥ 7)) (17 + 4 * v) (17 + 4 * v) l = barscanref20_Read.j1 (k + 2) v c (17 + 4 * v) (17 + 4 * v) l := by
        rw [show k + 3 = (k + 2) + 1 by omega, barscanref20_Read.j0, decide_eq_true c7]
        simp only [if_true]
        rw [hA, Option.bind_some]
      rw [hJ, if_pos c7, hC, Option.bind_some]
      by_cases hc : c = 0
      · subst hc
        simp only [if_true]
        rw [hR, hF k (by omega)]
        exact ⟨_, _, _, _, rfl, rfl⟩
      · rw [if_neg hc, show k + 2 = (k + 1) + 1 by omega, barscanref20_Read.j1, if_neg hc]
        exact ⟨_, _, _, _, rfl, rfl⟩
    · have hJ : barscanref20_Read.j0 (k + 3) v 0 (decide (v ≥ 7)) (17 + 4 * v) (17 + 4 * v) l = barscanref20_Read.j1 (k + 2) v 0 (17 + 4 * v) (17 + 4 * v) l := by
        rw [show k + 3 = (k + 2) + 1 by omega, barscanref20_Read.j0, decide_eq_false c7]
        simp only [Bool.false_eq_true, if_false]
      rw [hJ, if_neg c7, hR, hF k (by omega)]
      exact ⟨_, _, _, _, rfl, rfl⟩
  · refine ⟨0, 0, 0, e, ?_, ?_⟩
    · unfold qrlayout_Read.f
      rw [hs, Option.bind_some, if_neg he]
    · unfold barscanref20_Read.f
      obtain ⟨k, rfl⟩ : ∃ k', k = k' + 2 := ⟨k - 2, by omega⟩
      rw [hv, Option.bind_some, if_neg he, barscanref20_Read.j0, if_neg (by decide), barscanref20_Read.j1, if_neg he]
end Go.Proofs.Ytbbnagjfjgkgjaa.Pure
