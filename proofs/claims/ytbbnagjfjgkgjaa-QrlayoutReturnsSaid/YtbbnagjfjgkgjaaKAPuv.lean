/- The places of the information, and what is written there. -/
import Derived.Test.YtbbnagjfjgkgjaaKAEvf
import Derived.Test.YtbbnagjfjgkgjaaKALx18
import Derived.Test.YtbbnagjfjgkgjaaKALx20
import Derived.Test.YtbbnagjfjgkgjaaKALx12
import Derived.Test.YtbbnagjfjgkgjaaKAPsz
namespace Go.Proofs.Ytbbnagjfjgkgjaa.Pure
open Go.RowKit Go.Proofs.Ytbbnagjfjgkgjaa.L Go.Proofs.YtbbnagjfjgkgjaaW.PrintWords Go.Proofs.YtbbnagjfjgkgjaaW.PrintLast Go.Proofs.YtbbnagjfjgkgjaaW.PrintMore
set_option linter.unusedVariables false
set_option linter.unusedSimpArgs false

def fpt (s : Int) (c i : Nat) : S45 := if c = 0 then fmtP (i : Int) else fmtQ s (i : Int)
def vpt (s : Int) (c i : Nat) : S45 := if c = 0 then ⟨s - 11 + ((i % 3 : Nat) : Int), ((i / 3 : Nat) : Int)⟩ else ⟨((i / 3 : Nat) : Int), s - 11 + ((i % 3 : Nat) : Int)⟩
def ptsF (s : Int) (c n : Nat) : List S45 := (List.range n).map (fpt s c)
def ptsV (s : Int) (c n : Nat) : List S45 := (List.range n).map (vpt s c)
theorem ptsF_succ (s : Int) (c n : Nat) : ptsF s c (n + 1) = ptsF s c n ++ [fpt s c n] := by simp [ptsF, List.range_succ]
theorem ptsV_succ (s : Int) (c n : Nat) : ptsV s c (n + 1) = ptsV s c n ++ [vpt s c n] := by simp [ptsV, List.range_succ]
theorem ptsF_len (s : Int) (c n : Nat) : (ptsF s c n).length = n := by simp [ptsF]
theorem ptsV_len (s : Int) (c n : Nat) : (ptsV s c n).length = n := by simp [ptsV]
theorem format_l0 (s : Int) : ∀ (d k i : Nat), i + d = 15 → qrlayout_frame_format.l0 s (k + d + 1) (i : Int) (ptsF s 0 i) (ptsF s 1 i) = some (ptsF s 0 15, ptsF s 1 15)
  | 0, k, i, hi => by rw [qrlayout_frame_format.l0, if_neg (by omega), show i = 15 by omega]
  | d + 1, k, i, hi => by
    have ih := format_l0 s d k (i + 1) (by omega)
    rw [show k + (d + 1) + 1 = (k + d + 1) + 1 by omega, qrlayout_frame_format.l0, if_pos (by omega), Option.bind_some, ptsF_len, if_pos (by simp; omega), Option.bind_some, ptsF_len, if_pos (by simp; omega), w64 (n := (i : Int) + 1) (by omega), show ((i : Int) + 1) = ((i + 1 : Nat) : Int) by omega, ← ih, ptsF_succ, ptsF_succ]
    rfl
theorem format_eq (s v : Int) (l : List Int) (k : Nat) (hk : 20 ≤ k) : qrlayout_frame_format.f k v s l = some (ptsF s 0 15, ptsF s 1 15) := by
  have := format_l0 s 15 (k - 16) 0 (by omega)
  rw [show k - 16 + 15 + 1 = k by omega] at this
  exact this
theorem info_l0 (s v : Int) (l : List Int) (h0 : 21 ≤ s) (h1 : s ≤ 177) : ∀ (d k i : Nat), i + d = 18 → qrlayout_frame_info.l0 (k + d + 1) (i : Int) v s l (ptsV s 0 i) (ptsV s 1 i) = some (ptsV s 0 18, ptsV s 1 18)
  | 0, k, i, hi => by rw [qrlayout_frame_info.l0, if_neg (by omega), show i = 18 by omega]
  | d + 1, k, i, hi => by
    have ih := info_l0 s v l h0 h1 d k (i + 1) (by omega)
    rw [show k + (d + 1) + 1 = (k + d + 1) + 1 by omega, qrlayout_frame_info.l0, if_pos (by omega), ptsV_len, if_pos (by omega), ptsV_len, if_pos (by omega), w64 (n := (i : Int) + 1) (by omega), show ((i : Int) + 1) = ((i + 1 : Nat) : Int) by omega, ← ih, ptsV_succ, ptsV_succ,
      Int.tmod_eq_emod_of_nonneg (Int.natCast_nonneg i), Int.tdiv_eq_ediv_of_nonneg (Int.natCast_nonneg i), w64 (n := s - 11) (by omega), w64 (n := s - 11 + (i : Int) % 3) (by omega), w64 (n := (i : Int) / 3) (by omega)]
    rfl
theorem info_eq (s v : Int) (l : List Int) (h0 : 21 ≤ s) (h1 : s ≤ 177) (k : Nat) (hk : 20 ≤ k) : qrlayout_frame_info.f k v s l = some (ptsV s 0 18, ptsV s 1 18) := by
  have := info_l0 s v l h0 h1 18 (k - 19) 0 (by omega)
  rw [show k - 19 + 18 + 1 = k by omega] at this
  exact this
theorem fpt_in {s : Int} (h0 : 21 ≤ s) (h1 : s ≤ 177) (c i : Nat) (hi : i < 15) : (0 ≤ (fpt s c i).f0 ∧ (fpt s c i).f0 < s) ∧ (0 ≤ (fpt s c i).f1 ∧ (fpt s c i).f1 < s) := by
  unfold fpt fmtP fmtQ
  rw [w64 (n := s - 15) (by omega), w64 (n := s - 1) (by omega), w64 (n := s - 15 + (i : Int)) (by omega), w64 (n := s - 1 - (i : Int)) (by omega), w64 (n := (i : Int) + 1) (by omega), w64 (n := 14 - (i : Int)) (by omega)]
  repeat' split
  all_goals (refine ⟨⟨?_, ?_⟩, ?_, ?_⟩ <;> dsimp only <;> omega)
theorem vpt_in {s : Int} (h0 : 45 ≤ s) (h1 : s ≤ 177) (c i : Nat) (hi : i < 18) : (0 ≤ (vpt s c i).f0 ∧ (vpt s c i).f0 < s) ∧ (0 ≤ (vpt s c i).f1 ∧ (vpt s c i).f1 < s) := by
  unfold vpt
  split
  all_goals (refine ⟨⟨?_, ?_⟩, ?_, ?_⟩ <;> dsimp only <;> omega)
def bitv (word : Int) (i : Nat) : Bool := Go.bits .and .i64 (shr .i64 word (i : Int)) 1 == 1
def idx (s : Int) (p : S45) : Nat := (p.f1 * s + p.f0).toNat
def setAll (s word : Int) : List S45 → Nat → List Bool → List Bool
  | [], _, dk => dk
  | p :: ps, i, dk => setAll s word ps (i + 1) (dk.set (idx s p) (bitv word i))
theorem setAll_len (s word : Int) (ps : List S45) : ∀ (i : Nat) (dk : List Bool), (setAll s word ps i dk).length = dk.length := by
  induction ps with
  | nil => intro i dk; rfl
  | cons p ps ih => intro i dk; rw [setAll, ih, List.length_set]
def inM (s : Int) (p : S45) : Prop := (0 ≤ p.f0 ∧ p.f0 < s) ∧ (0 ≤ p.f1 ∧ p.f1 < s)
theorem idx_lt {s : Int} {p : S45} (h : inM s p) (h0 : 0 ≤ s) (h1 : s ≤ 177) : 0 ≤ p.f1 * s ∧ p.f1 * s ≤ 177 * 177 ∧ 0 ≤ p.f1 * s + p.f0 ∧ p.f1 * s + p.f0 < s * s := by
  obtain ⟨⟨a, b⟩, c, d⟩ := h
  have e1 : 0 ≤ p.f1 * s := Int.mul_nonneg c h0
  have e2 : p.f1 * s ≤ (s - 1) * s := Int.mul_le_mul_of_nonneg_right (by omega) h0
  have e3 : (s - 1) * s ≤ 177 * 177 := Int.mul_le_mul (by omega) h1 h0 (by omega)
  rw [Int.sub_mul, Int.one_mul] at e2
  have e4 : s * s ≤ 177 * 177 := Int.mul_le_mul h1 h1 h0 (by omega)
  refine ⟨e1, by omega, by omega, by omega⟩
theorem rdT_nat (l : List S45) (j : Nat) (h : j < l.length) : rd_T45 l (j : Int) = l[j] := by
  simp [rd_T45, List.getD_eq_getElem?_getD, List.getElem?_eq_getElem h]
theorem write_l0 {s : Int} (h0 : 21 ≤ s) (h1 : s ≤ 177) (H word : Int) (pts : List S45) (hp : ∀ p ∈ pts, inM s p) (hl : pts.length ≤ 100) : ∀ (d k i : Nat) (dk : List Bool), i + d = pts.length → (dk.length : Int) = s * s →
    qrlayout_write.l0 (k + d + 1) word pts (pts.length : Int) (i : Int) s H dk = some (setAll s word (pts.drop i) i dk)
  | 0, k, i, dk, hi, hdk => by rw [qrlayout_write.l0, if_neg (by omega), show i = pts.length by omega, List.drop_length]; rfl
  | d + 1, k, i, dk, hi, hdk => by
    have hin : i < pts.length := by omega
    have ih := write_l0 h0 h1 H word pts hp hl d k (i + 1) (dk.set (idx s pts[i]) (bitv word i)) (by omega) (by rw [List.length_set]; exact hdk)
    obtain ⟨e1, e2, e3, e4⟩ := idx_lt (hp _ (List.getElem_mem hin)) (by omega) h1
    have e5 : s * s ≤ 177 * 177 := Int.mul_le_mul h1 h1 (by omega) (by omega)
    rw [show k + (d + 1) + 1 = (k + d + 1) + 1 by omega, qrlayout_write.l0, if_pos (by omega), if_pos (by omega), if_pos (by omega), rdT_nat pts i hin, w64 (n := pts[i].f1 * s) (by omega), w64 (n := pts[i].f1 * s + pts[i].f0) (by omega), if_pos (by omega), if_pos (by omega), w64 (n := (i : Int) + 1) (by omega), show ((i : Int) + 1) = ((i + 1 : Nat) : Int) by omega, List.drop_eq_getElem_cons hin, setAll]
    exact ih
theorem write_eq {s : Int} (h0 : 21 ≤ s) (h1 : s ≤ 177) (H word : Int) (pts : List S45) (hp : ∀ p ∈ pts, inM s p) (hl : pts.length ≤ 100) (dk : List Bool) (hdk : (dk.length : Int) = s * s) (k : Nat) (hk : 200 ≤ k) :
    qrlayout_write.f k s H dk pts word = some (setAll s word pts 0 dk) := by
  have := write_l0 h0 h1 H word pts hp hl pts.length (k - pts.length - 1) 0 dk (by omega) hdk
  rw [show k - pts.length - 1 + pts.length + 1 = k by omega] at this
  exact this
theorem F_in {s : Int} (h0 : 21 ≤ s) (h1 : s ≤ 177) (c : Nat) : ∀ p ∈ ptsF s c 15, inM s p := fun p hp => by
  obtain ⟨i, hi, rfl⟩ := List.mem_map.1 hp
  exact fpt_in h0 h1 c i (List.mem_range.1 hi)
theorem V_in {s : Int} (h0 : 45 ≤ s) (h1 : s ≤ 177) (c : Nat) : ∀ p ∈ ptsV s c 18, inM s p := fun p hp => by
  obtain ⟨i, hi, rfl⟩ := List.mem_map.1 hp
  exact vpt_in h0 h1 c i (List.mem_range.1 hi)
theorem set_setAll (s w : Int) (n : Nat) (b : Bool) (ps : List S45) : ∀ (i : Nat) (dk : List Bool), (∀ p ∈ ps, idx s p ≠ n) → (setAll s w ps i dk).set n b = setAll s w ps i (dk.set n b) := by
  induction ps with
  | nil => intro i dk _; rfl
  | cons p ps ih =>
    intro i dk h
    rw [setAll, setAll, ih _ _ (fun q hq => h q (List.mem_cons_of_mem _ hq)), List.set_comm _ _ (h p List.mem_cons_self)]
theorem idx_ne {s : Int} {p q : S45} (h0 : 0 ≤ s) (h1 : s ≤ 177) (hp : inM s p) (hq : inM s q) (h : p.f0 ≠ q.f0 ∨ p.f1 ≠ q.f1) : idx s p ≠ idx s q := by
  intro e
  have a := idx_lt hp h0 h1
  have b := idx_lt hq h0 h1
  unfold idx at e
  have e' : p.f1 * s + p.f0 = q.f1 * s + q.f0 := by omega
  obtain ⟨⟨p1, p2⟩, p3, p4⟩ := hp
  obtain ⟨⟨q1, q2⟩, q3, q4⟩ := hq
  have m1 : p.f0 = q.f0 := by
    have x1 : (p.f1 * s + p.f0) % s = p.f0 := by rw [Int.add_comm, Int.add_mul_emod_self_right]; exact Int.emod_eq_of_lt p1 p2
    have x2 : (q.f1 * s + q.f0) % s = q.f0 := by rw [Int.add_comm, Int.add_mul_emod_self_right]; exact Int.emod_eq_of_lt q1 q2
    rw [← x1, ← x2, e']
  have m2 : p.f1 = q.f1 := by
    have : p.f1 * s = q.f1 * s := by omega
    exact Int.eq_of_mul_eq_mul_right (by omega) this
  rcases h with h | h
  · exact h m1
  · exact h m2
end Go.Proofs.Ytbbnagjfjgkgjaa.Pure

/- Sign and its reference: the same matrix. -/
namespace Go.Proofs.Ytbbnagjfjgkgjaa.Pure
open Go.RowKit Go.Proofs.Ytbbnagjfjgkgjaa.L Go.Proofs.YtbbnagjfjgkgjaaW.PrintWords Go.Proofs.YtbbnagjfjgkgjaaW.PrintLast Go.Proofs.YtbbnagjfjgkgjaaW.PrintMore
set_option linter.unusedVariables false
set_option linter.unusedSimpArgs false

def signT (v s wF wV : Int) (dk : List Bool) : List Bool :=
  let a := setAll s wF (ptsF s 1 15) 0 (setAll s wF (ptsF s 0 15) 0 dk)
  if v ≥ 7 then setAll s wV (ptsV s 1 18) 0 (setAll s wV (ptsV s 0 18) 0 a) else a
theorem signT_len (v s wF wV : Int) (dk : List Bool) : (signT v s wF wV dk).length = dk.length := by
  unfold signT; dsimp only; split <;> simp only [setAll_len]
theorem clone_eq (W H : Int) (l : List Bool) (hl : l.length ≤ 1000000) : qrlayout_clone.f W H l = some (W, H, l) := by
  unfold qrlayout_clone.f slices_Clone_bool_bool.f
  rw [Option.bind_some, if_pos (by simp; omega)]
  rfl
theorem ver_yes {v : Int} (h : 1 ≤ v ∧ v ≤ 40) : (Ev.ver v).2 = 0 ↔ v ≥ 7 := by
  unfold Ev.ver
  split
  · simp; omega
  · simp; omega
end Go.Proofs.Ytbbnagjfjgkgjaa.Pure

/- Read and its reference: the same. -/
namespace Go.Proofs.Ytbbnagjfjgkgjaa.Pure
open Go.RowKit Go.Proofs.Ytbbnagjfjgkgjaa.L Go.Proofs.YtbbnagjfjgkgjaaW.PrintWords Go.Proofs.YtbbnagjfjgkgjaaW.PrintLast Go.Proofs.YtbbnagjfjgkgjaaW.PrintMore
set_option linter.unusedVariables false
set_option linter.unusedSimpArgs false

def up (f : Nat → Bool) : Nat → Nat → Nat
  | _, 0 => 0
  | i, d + 1 => (if f i = true then 1 else 0) + 2 * up f (i + 1) d
theorem up_lt (f : Nat → Bool) : ∀ (d i : Nat), up f i d < 2 ^ d
  | 0, i => by simp [up]
  | d + 1, i => by
    have := up_lt f d (i + 1)
    rw [up, Nat.pow_succ]
    split <;> omega
def bitAt (s : Int) (dk : List Bool) (pts : List S45) (i : Nat) : Bool := rdOf false dk (((rd_T45 pts (i : Int)).f1) * s + (rd_T45 pts (i : Int)).f0)
theorem read_l0 {s : Int} (h0 : 21 ≤ s) (h1 : s ≤ 177) (H : Int) (dk : List Bool) (hdk : (dk.length : Int) = s * s) (pts : List S45) (hp : ∀ p ∈ pts, inM s p) (hl : pts.length ≤ 30) : ∀ (d k i acc : Nat), i + d = pts.length → acc < 2 ^ i →
    qrlayout_read.l0 (k + d + 1) (acc : Int) pts (pts.length : Int) (i : Int) s H dk = some ((acc + 2 ^ i * up (bitAt s dk pts) i d : Nat) : Int)
  | 0, k, i, acc, hi, ha => by rw [qrlayout_read.l0, if_neg (by omega)]; simp [up]
  | d + 1, k, i, acc, hi, ha => by
    have hin : i < pts.length := by omega
    have hpow : 2 ^ i ≤ 2 ^ 30 := Nat.pow_le_pow_right (by decide) (by omega)
    have hps : 2 ^ (i + 1) = 2 * 2 ^ i := by rw [Nat.pow_succ, Nat.mul_comm]
    obtain ⟨e1, e2, e3, e4⟩ := idx_lt (hp _ (List.getElem_mem hin)) (by omega) h1
    have e5 : s * s ≤ 177 * 177 := Int.mul_le_mul h1 h1 (by omega) (by omega)
    have hor : acc ||| 2 ^ i = acc + 2 ^ i := by
      rw [Nat.or_comm, Nat.add_comm]
      have := Nat.two_pow_add_eq_or_of_lt ha 1
      simpa using this.symm
    have ih1 := read_l0 h0 h1 H dk hdk pts hp hl d k (i + 1) (acc + 2 ^ i) (by omega) (by omega)
    have ih0 := read_l0 h0 h1 H dk hdk pts hp hl d k (i + 1) acc (by omega) (by omega)
    rw [show k + (d + 1) + 1 = (k + d + 1) + 1 by omega, qrlayout_read.l0, if_pos (by omega), if_pos (by omega), if_pos (by omega), up]
    have hb : bitAt s dk pts i = rdOf false dk ((pts[i].f1) * s + pts[i].f0) := by unfold bitAt; rw [rdT_nat pts i hin]
    rw [hb, rdT_nat pts i hin, w64 (n := pts[i].f1 * s) (by omega), w64 (n := pts[i].f1 * s + pts[i].f0) (by omega), if_pos (by omega), if_pos (by omega), w64 (n := (i : Int) + 1) (by omega), show ((i : Int) + 1) = ((i + 1 : Nat) : Int) by omega, Ev.one_shl i (by omega), Ev.or_nat acc (2 ^ i) (by omega) (by omega), hor, ih1, ih0]
    split
    · congr 2; rw [hps, Nat.mul_add, Nat.mul_one, Nat.mul_comm 2 (2 ^ i), Nat.mul_assoc]; omega
    · congr 2; rw [hps, Nat.zero_add, Nat.mul_comm 2 (2 ^ i), Nat.mul_assoc]
def wordT (s : Int) (dk : List Bool) (pts : List S45) : Nat := up (bitAt s dk pts) 0 pts.length
theorem read_eq {s : Int} (h0 : 21 ≤ s) (h1 : s ≤ 177) (H : Int) (dk : List Bool) (hdk : (dk.length : Int) = s * s) (pts : List S45) (hp : ∀ p ∈ pts, inM s p) (hl : pts.length ≤ 30) (k : Nat) (hk : 40 ≤ k) : qrlayout_read.f k s H dk pts = some (wordT s dk pts : Int) := by
  have := read_l0 h0 h1 H dk hdk pts hp hl pts.length (k - pts.length - 1) 0 0 (by omega) (by simp)
  rw [show k - pts.length - 1 + pts.length + 1 = k by omega] at this
  unfold qrlayout_read.f wordT
  simpa using this
theorem word_lt (s : Int) (dk : List Bool) (pts : List S45) : wordT s dk pts < 2 ^ pts.length := up_lt _ _ _
def pV (w : Nat) : Int × Int × Int := Ev.pver w (Ev.hit 6 7973 12 w 3)
def pF (w : Nat) : Int × Int × Int × Int := Ev.pfmt w (Ev.hit 5 1335 10 (w ^^^ 21522) 3)
theorem pV_nonneg (w : Nat) : (pV w).2.2 = 0 → 0 ≤ (pV w).2.1 := by
  unfold pV
  cases Ev.hit 6 7973 12 w 3 with
  | none => intro h; simp [Ev.pver] at h
  | some v =>
    intro h
    by_cases hc : v < 7 ∨ 40 < v
    · simp [Ev.pver, hc]
    · simp only [Ev.pver, if_neg hc]; omega
theorem pF_nonneg (w : Nat) : (pF w).2.2.2 = 0 → 0 ≤ (pF w).2.2.1 := by
  unfold pF
  cases Ev.hit 5 1335 10 (w ^^^ 21522) 3 with
  | none => intro h; simp [Ev.pfmt] at h
  | some v => intro h; simp [Ev.pfmt]
def pick2 (a b : Int × Int × Int) : Int × Int :=
  if a.2.2 = 0 then (if b.2.2 = 0 then (if b.2.1 < a.2.1 then (b.1, 0) else (a.1, 0)) else (a.1, 0)) else (if b.2.2 = 0 then (b.1, 0) else (0, 21))
def agreeT (v : Int) (a b : Int × Int × Int) : Int := if (pick2 a b).2 = 0 then (if (pick2 a b).1 = v then 0 else 14) else 21
theorem confirm_eq {v : Int} (h : 7 ≤ v ∧ v ≤ 40) (H : Int) (dk : List Bool) (hdk : (dk.length : Int) = (17 + 4 * v) * (17 + 4 * v)) (k : Nat) (hk : 7000 ≤ k) (l : List Int) :
    qrlayout_frame_confirm.f k v (17 + 4 * v) l (17 + 4 * v) H dk = some (agreeT v (pV (wordT (17 + 4 * v) dk (ptsV (17 + 4 * v) 0 18))) (pV (wordT (17 + 4 * v) dk (ptsV (17 + 4 * v) 1 18)))) := by
  obtain ⟨s, hs⟩ : ∃ s, 17 + 4 * v = s := ⟨_, rfl⟩
  rw [hs] at hdk ⊢
  have h0 : 45 ≤ s := by omega
  have h1 : s ≤ 177 := by omega
  have w0 := word_lt s dk (ptsV s 0 18)
  have w1 := word_lt s dk (ptsV s 1 18)
  rw [ptsV_len] at w0 w1
  have na := pV_nonneg (wordT s dk (ptsV s 0 18))
  have nb := pV_nonneg (wordT s dk (ptsV s 1 18))
  have p0 := Ev.ParseVersion_nat (wordT s dk (ptsV s 0 18)) k (by omega) (by omega)
  have p1 := Ev.ParseVersion_nat (wordT s dk (ptsV s 1 18)) k (by omega) (by omega)
  have e0 : Ev.pver (wordT s dk (ptsV s 0 18)) (Ev.hit 6 7973 12 (wordT s dk (ptsV s 0 18)) 3) = pV (wordT s dk (ptsV s 0 18)) := rfl
  have e1 : Ev.pver (wordT s dk (ptsV s 1 18)) (Ev.hit 6 7973 12 (wordT s dk (ptsV s 1 18)) 3) = pV (wordT s dk (ptsV s 1 18)) := rfl
  rw [e0] at p0
  rw [e1] at p1
  unfold qrlayout_frame_confirm.f cfStep
  rw [info_eq s v l (by omega) h1 k (by omega), Option.bind_some]
  simp only []
  rw [read_eq (by omega) h1 H dk hdk (ptsV s 0 18) (V_in h0 h1 0) (by rw [ptsV_len]; omega) k (by omega), Option.bind_some, p0, Option.bind_some, Option.bind_some,
    read_eq (by omega) h1 H dk hdk (ptsV s 1 18) (V_in h0 h1 1) (by rw [ptsV_len]; omega) k (by omega), Option.bind_some, p1, Option.bind_some, Option.bind_some]
  generalize pV (wordT s dk (ptsV s 0 18)) = a at na ⊢
  generalize pV (wordT s dk (ptsV s 1 18)) = b at nb ⊢
  obtain ⟨a1, a2, a3⟩ := a
  obtain ⟨b1, b2, b3⟩ := b
  dsimp only at na nb ⊢
  unfold agreeT pick2
  dsimp only
  by_cases ha : a3 = 0
  · have na := na ha
    have na' : ¬ a2 < 0 := by omega
    by_cases hb : b3 = 0
    · have nb := nb hb
      have nb' : ¬ b2 < 0 := by omega
      by_cases hd : b2 < a2 <;> by_cases e1 : b1 = v <;> by_cases e2 : a1 = v <;> simp [ha, hb, hd, e1, e2, na', nb']
    · by_cases e2 : a1 = v <;> simp [ha, hb, e2, na']
  · by_cases hb : b3 = 0
    · have nb := nb hb
      have nb' : ¬ b2 < 0 := by omega
      by_cases e1 : b1 = v <;> simp [ha, hb, e1, nb']
    · simp [ha, hb]
def fmt2 (v : Int) (a b : Int × Int × Int × Int) : Int × Int × Int × Int :=
  if a.2.2.2 = 0 then (if b.2.2.2 = 0 then (if b.2.2.1 < a.2.2.1 then (v, b.1, b.2.1, 0) else (v, a.1, a.2.1, 0)) else (v, a.1, a.2.1, 0)) else (if b.2.2.2 = 0 then (v, b.1, b.2.1, 0) else (0, 0, 0, 21))
theorem rest_eq {v : Int} (h : 1 ≤ v ∧ v ≤ 40) (H : Int) (dk : List Bool) (hdk : (dk.length : Int) = (17 + 4 * v) * (17 + 4 * v)) (k : Nat) (hk : 7000 ≤ k) (l : List Int) :
    rdRest k v (17 + 4 * v) l (17 + 4 * v) H dk = some (fmt2 v (pF (wordT (17 + 4 * v) dk (ptsF (17 + 4 * v) 0 15))) (pF (wordT (17 + 4 * v) dk (ptsF (17 + 4 * v) 1 15)))) := by
  obtain ⟨s, hs⟩ : ∃ s, 17 + 4 * v = s := ⟨_, rfl⟩
  rw [hs] at hdk ⊢
  have h0 : 21 ≤ s := by omega
  have h1 : s ≤ 177 := by omega
  have w0 := word_lt s dk (ptsF s 0 15)
  have w1 := word_lt s dk (ptsF s 1 15)
  rw [ptsF_len] at w0 w1
  have na := pF_nonneg (wordT s dk (ptsF s 0 15))
  have nb := pF_nonneg (wordT s dk (ptsF s 1 15))
  have p0 := Ev.ParseFormat_nat (wordT s dk (ptsF s 0 15)) k (by omega) (by omega)
  have p1 := Ev.ParseFormat_nat (wordT s dk (ptsF s 1 15)) k (by omega) (by omega)
  have e0 : Ev.pfmt (wordT s dk (ptsF s 0 15)) (Ev.hit 5 1335 10 (wordT s dk (ptsF s 0 15) ^^^ 21522) 3) = pF (wordT s dk (ptsF s 0 15)) := rfl
  have e1 : Ev.pfmt (wordT s dk (ptsF s 1 15)) (Ev.hit 5 1335 10 (wordT s dk (ptsF s 1 15) ^^^ 21522) 3) = pF (wordT s dk (ptsF s 1 15)) := rfl
  rw [e0] at p0
  rw [e1] at p1
  unfold rdRest rdStep
  rw [format_eq s v l k (by omega), Option.bind_some]
  simp only []
  rw [read_eq h0 h1 H dk hdk (ptsF s 0 15) (F_in h0 h1 0) (by rw [ptsF_len]; omega) k (by omega), Option.bind_some, p0, Option.bind_some, Option.bind_some,
    read_eq h0 h1 H dk hdk (ptsF s 1 15) (F_in h0 h1 1) (by rw [ptsF_len]; omega) k (by omega), Option.bind_some, p1, Option.bind_some, Option.bind_some]
  generalize pF (wordT s dk (ptsF s 0 15)) = a at na ⊢
  generalize pF (wordT s dk (ptsF s 1 15)) = b at nb ⊢
  obtain ⟨a1, a2, a3, a4⟩ := a
  obtain ⟨b1, b2, b3, b4⟩ := b
  dsimp only at na nb ⊢
  unfold fmt2
  dsimp only
  by_cases ha : a4 = 0
  · have na := na ha
    have na' : ¬ a3 < 0 := by omega
    by_cases hb : b4 = 0
    · have nb := nb hb
      have nb' : ¬ b3 < 0 := by omega
      by_cases hd : b3 < a3 <;> simp [ha, hb, hd, na', nb']
    · simp [ha, hb, na']
  · by_cases hb : b4 = 0
    · have nb := nb hb
      have nb' : ¬ b3 < 0 := by omega
      simp [ha, hb, nb']
    · simp [ha, hb]
end Go.Proofs.Ytbbnagjfjgkgjaa.Pure
