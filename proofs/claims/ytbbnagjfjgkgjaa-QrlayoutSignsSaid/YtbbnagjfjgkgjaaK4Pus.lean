/- The places of the information, and what is written there. -/
import Derived.Test.YtbbnagjfjgkgjaaK4Evf
import Derived.Test.YtbbnagjfjgkgjaaK4Lx18
import Derived.Test.YtbbnagjfjgkgjaaK4Lx20
import Derived.Test.YtbbnagjfjgkgjaaK4Lx12
import Derived.Test.YtbbnagjfjgkgjaaK4Pua
import Derived.Test.YtbbnagjfjgkgjaaK4Psz
namespace Go.Proofs.Ytbbnagjfjgkgjaa.Pure
open Go.RowKit Go.Proofs.Ytbbnagjfjgkgjaa.L Go.Proofs.YtbbnagjfjgkgjaaW.PrintWords Go.Proofs.YtbbnagjfjgkgjaaW.PrintLast Go.Proofs.YtbbnagjfjgkgjaaW.PrintMore
set_option linter.unusedVariables false
set_option linter.unusedSimpArgs false

def fpt (s : Int) (c i : Nat) : S45 := if c = 0 then fmtP (i : Int) else fmtQ s (i : Int)
def vpt (s : Int) (c i : Nat) : S45 := if c = 0 then ⟨s - 11 + ((i % 3 : Nat) : Int), ((i / 3 : Nat) : Int)⟩ else ⟨((i / 3 : Nat) : Int), s - 11 + ((i % 3 : Nat) : Int)⟩
def ptsF (s : Int) (c n : Nat) : List S45 := (List.range n).map (fpt s c)
def ptsV (s : Int) (c n : Nat) : List S45 := (List.range n).map (vpt s c)
theorem ptsF_succ (s : Int) (c n : Nat) : ptsF s c (n + 1) = ptsF s c n ++ [fpt s c n] := by simp [ptsF, List.range_succ]
theorem ptsV_succ (s : Int) (c n : Nat) : ptsV s c (n + 1) = ptsV s c n ++ [vpt s c n] := by simp [ptsV, List.range_succ]
theorem ptsF_len (s : Int) (c n : Nat) : (ptsF s c n).length = n := by simp [ptsF]
theorem ptsV_len (s : Int) (c n : Nat) : (ptsV s c n).length = n := by simp [ptsV]
theorem format_l0 (s : Int) : ∀ (d k i : Nat), i + d = 15 → qrlayout_frame_format.l0 s (k + d + 1) (i : Int) (ptsF s 0 i) (ptsF s 1 i) = some (ptsF s 0 15, ptsF s 1 15)
  | 0, k, i, hi => by rw [qrlayout_frame_format.l0, if_neg (by omega), show i = 15 by omega]
  | d + 1, k, i, hi => by
    have ih := format_l0 s d k (i + 1) (by omega)
    rw [show k + (d + 1) + 1 = (k + d + 1) + 1 by omega, qrlayout_frame_format.l0, if_pos (by omega), Option.bind_some, ptsF_len, if_pos (by simp; omega), Option.bind_some, ptsF_len, if_pos (by simp; omega), w64 (n := (i : Int) + 1) (by omega), show ((i : Int) + 1) = ((i + 1 : Nat) : Int) by omega, ← ih, ptsF_succ, ptsF_succ]
    rfl
theorem format_eq (s v : Int) (l : List Int) (k : Nat) (hk : 20 ≤ k) : qrlayout_frame_format.f k v s l = some (ptsF s 0 15, ptsF s 1 15) := by
  have := format_l0 s 15 (k - 16) 0 (by omega)
  rw [show k - 16 + 15 + 1 = k by omega] at this
  exact this
theorem info_l0 (s v : Int) (l : List Int) (h0 : 21 ≤ s) (h1 : s ≤ 177) : ∀ (d k i : Nat), i + d = 18 → qrlayout_frame_info.l0 (k + d + 1) (i : Int) v s l (ptsV s 0 i) (ptsV s 1 i) = some (ptsV s 0 18, ptsV s 1 18)
  | 0, k, i, hi => by rw [qrlayout_frame_info.l0, if_neg (by omega), show i = 18 by omega]
  | d + 1, k, i, hi => by
    have ih := info_l0 s v l h0 h1 d k (i + 1) (by omega)
    rw [show k + (d + 1) + 1 = (k + d + 1) + 1 by omega, qrlayout_frame_info.l0, if_pos (by omega), ptsV_len, if_pos (by omega), ptsV_len, if_pos (by omega), w64 (n := (i : Int) + 1) (by omega), show ((i : Int) + 1) = ((i + 1 : Nat) : Int) by omega, ← ih, ptsV_succ, ptsV_succ,
      Int.tmod_eq_emod_of_nonneg (Int.natCast_nonneg i), Int.tdiv_eq_ediv_of_nonneg (Int.natCast_nonneg i), w64 (n := s - 11) (by omega), w64 (n := s - 11 + (i : Int) % 3) (by omega), w64 (n := (i : Int) / 3) (by omega)]
    rfl
theorem info_eq (s v : Int) (l : List Int) (h0 : 21 ≤ s) (h1 : s ≤ 177) (k : Nat) (hk : 20 ≤ k) : qrlayout_frame_info.f k v s l = some (ptsV s 0 18, ptsV s 1 18) := by
  have := info_l0 s v l h0 h1 18 (k - 19) 0 (by omega)
  rw [show k - 19 + 18 + 1 = k by omega] at this
  exact this
theorem fpt_in {s : Int} (h0 : 21 ≤ s) (h1 : s ≤ 177) (c i : Nat) (hi : i < 15) : (0 ≤ (fpt s c i).f0 ∧ (fpt s c i).f0 < s) ∧ (0 ≤ (fpt s c i).f1 ∧ (fpt s c i).f1 < s) := by
  unfold fpt fmtP fmtQ
  rw [w64 (n := s - 15) (by omega), w64 (n := s - 1) (by omega), w64 (n := s - 15 + (i : Int)) (by omega), w64 (n := s - 1 - (i : Int)) (by omega), w64 (n := (i : Int) + 1) (by omega), w64 (n := 14 - (i : Int)) (by omega)]
  repeat' split
  all_goals (refine ⟨⟨?_, ?_⟩, ?_, ?_⟩ <;> dsimp only <;> omega)
theorem vpt_in {s : Int} (h0 : 45 ≤ s) (h1 : s ≤ 177) (c i : Nat) (hi : i < 18) : (0 ≤ (vpt s c i).f0 ∧ (vpt s c i).f0 < s) ∧ (0 ≤ (vpt s c i).f1 ∧ (vpt s c i).f1 < s) := by
  unfold vpt
  split
  all_goals (refine ⟨⟨?_, ?_⟩, ?_, ?_⟩ <;> dsimp only <;> omega)
theorem formatAt_eq {s : Int} (h0 : 21 ≤ s) (h1 : s ≤ 177) (c i : Nat) (hc : c < 2) (hi : i < 15) (k : Nat) (hk : 1 ≤ k) : barscanref20_FormatAt.f k s (c : Int) (i : Int) = some ((fpt s c i).f0, (fpt s c i).f1) := by
  obtain ⟨k, rfl⟩ : ∃ k', k = k' + 1 := ⟨k - 1, by omega⟩
  unfold barscanref20_FormatAt.f fpt fmtP fmtQ
  simp only [barscanref20_FormatAt.j0, w64 (n := s - 15) (by omega), w64 (n := s - 1) (by omega), w64 (n := s - 15 + (i : Int)) (by omega), w64 (n := s - 1 - (i : Int)) (by omega), w64 (n := (i : Int) + 1) (by omega), w64 (n := 14 - (i : Int)) (by omega)]
  rcases (show c = 0 ∨ c = 1 by omega) with rfl | rfl
  · simp only [Int.natCast_zero, if_true, show ¬ ((0 : Int) = 1) by decide, if_false, Bool.false_eq_true]
    repeat' split
    all_goals first | rfl | (exfalso; omega)
  · simp only [Int.natCast_one, if_true, show ¬ (1 = 0) by decide, if_false, decide_eq_true_eq]
    repeat' split
    all_goals first | rfl | (exfalso; omega)
theorem versionAt_eq {s : Int} (h0 : 21 ≤ s) (h1 : s ≤ 177) (c i : Nat) (hc : c < 2) (hi : i < 18) : barscanref20_VersionAt.f s (c : Int) (i : Int) = some ((vpt s c i).f0, (vpt s c i).f1) := by
  unfold barscanref20_VersionAt.f vpt
  rw [Int.tmod_eq_emod_of_nonneg (Int.natCast_nonneg i), Int.tdiv_eq_ediv_of_nonneg (Int.natCast_nonneg i), w64 (n := s - 11) (by omega), w64 (n := s - 11 + (i : Int) % 3) (by omega), w64 (n := (i : Int) / 3) (by omega)]
  rcases (show c = 0 ∨ c = 1 by omega) with rfl | rfl
  · rfl
  · rfl

def bitv (word : Int) (i : Nat) : Bool := Go.bits .and .i64 (shr .i64 word (i : Int)) 1 == 1
def idx (s : Int) (p : S45) : Nat := (p.f1 * s + p.f0).toNat
def setAll (s word : Int) : List S45 → Nat → List Bool → List Bool
  | [], _, dk => dk
  | p :: ps, i, dk => setAll s word ps (i + 1) (dk.set (idx s p) (bitv word i))
theorem setAll_len (s word : Int) (ps : List S45) : ∀ (i : Nat) (dk : List Bool), (setAll s word ps i dk).length = dk.length := by
  induction ps with
  | nil => intro i dk; rfl
  | cons p ps ih => intro i dk; rw [setAll, ih, List.length_set]
def inM (s : Int) (p : S45) : Prop := (0 ≤ p.f0 ∧ p.f0 < s) ∧ (0 ≤ p.f1 ∧ p.f1 < s)
theorem idx_lt {s : Int} {p : S45} (h : inM s p) (h0 : 0 ≤ s) (h1 : s ≤ 177) : 0 ≤ p.f1 * s ∧ p.f1 * s ≤ 177 * 177 ∧ 0 ≤ p.f1 * s + p.f0 ∧ p.f1 * s + p.f0 < s * s := by
  obtain ⟨⟨a, b⟩, c, d⟩ := h
  have e1 : 0 ≤ p.f1 * s := Int.mul_nonneg c h0
  have e2 : p.f1 * s ≤ (s - 1) * s := Int.mul_le_mul_of_nonneg_right (by omega) h0
  have e3 : (s - 1) * s ≤ 177 * 177 := Int.mul_le_mul (by omega) h1 h0 (by omega)
  rw [Int.sub_mul, Int.one_mul] at e2
  have e4 : s * s ≤ 177 * 177 := Int.mul_le_mul h1 h1 h0 (by omega)
  refine ⟨e1, by omega, by omega, by omega⟩
theorem rdT_nat (l : List S45) (j : Nat) (h : j < l.length) : rd_T45 l (j : Int) = l[j] := by
  simp [rd_T45, List.getD_eq_getElem?_getD, List.getElem?_eq_getElem h]
theorem write_l0 {s : Int} (h0 : 21 ≤ s) (h1 : s ≤ 177) (H word : Int) (pts : List S45) (hp : ∀ p ∈ pts, inM s p) (hl : pts.length ≤ 100) : ∀ (d k i : Nat) (dk : List Bool), i + d = pts.length → (dk.length : Int) = s * s →
    qrlayout_write.l0 (k + d + 1) word pts (pts.length : Int) (i : Int) s H dk = some (setAll s word (pts.drop i) i dk)
  | 0, k, i, dk, hi, hdk => by rw [qrlayout_write.l0, if_neg (by omega), show i = pts.length by omega, List.drop_length]; rfl
  | d + 1, k, i, dk, hi, hdk => by
    have hin : i < pts.length := by omega
    have ih := write_l0 h0 h1 H word pts hp hl d k (i + 1) (dk.set (idx s pts[i]) (bitv word i)) (by omega) (by rw [List.length_set]; exact hdk)
    obtain ⟨e1, e2, e3, e4⟩ := idx_lt (hp _ (List.getElem_mem hin)) (by omega) h1
    have e5 : s * s ≤ 177 * 177 := Int.mul_le_mul h1 h1 (by omega) (by omega)
    rw [show k + (d + 1) + 1 = (k + d + 1) + 1 by omega, qrlayout_write.l0, if_pos (by omega), if_pos (by omega), if_pos (by omega), rdT_nat pts i hin, w64 (n := pts[i].f1 * s) (by omega), w64 (n := pts[i].f1 * s + pts[i].f0) (by omega), if_pos (by omega), if_pos (by omega), w64 (n := (i : Int) + 1) (by omega), show ((i : Int) + 1) = ((i + 1 : Nat) : Int) by omega, List.drop_eq_getElem_cons hin, setAll]
    exact ih
theorem write_eq {s : Int} (h0 : 21 ≤ s) (h1 : s ≤ 177) (H word : Int) (pts : List S45) (hp : ∀ p ∈ pts, inM s p) (hl : pts.length ≤ 100) (dk : List Bool) (hdk : (dk.length : Int) = s * s) (k : Nat) (hk : 200 ≤ k) :
    qrlayout_write.f k s H dk pts word = some (setAll s word pts 0 dk) := by
  have := write_l0 h0 h1 H word pts hp hl pts.length (k - pts.length - 1) 0 dk (by omega) hdk
  rw [show k - pts.length - 1 + pts.length + 1 = k by omega] at this
  exact this
theorem F_in {s : Int} (h0 : 21 ≤ s) (h1 : s ≤ 177) (c : Nat) : ∀ p ∈ ptsF s c 15, inM s p := fun p hp => by
  obtain ⟨i, hi, rfl⟩ := List.mem_map.1 hp
  exact fpt_in h0 h1 c i (List.mem_range.1 hi)
theorem V_in {s : Int} (h0 : 45 ≤ s) (h1 : s ≤ 177) (c : Nat) : ∀ p ∈ ptsV s c 18, inM s p := fun p hp => by
  obtain ⟨i, hi, rfl⟩ := List.mem_map.1 hp
  exact vpt_in h0 h1 c i (List.mem_range.1 hi)
theorem set_setAll (s w : Int) (n : Nat) (b : Bool) (ps : List S45) : ∀ (i : Nat) (dk : List Bool), (∀ p ∈ ps, idx s p ≠ n) → (setAll s w ps i dk).set n b = setAll s w ps i (dk.set n b) := by
  induction ps with
  | nil => intro i dk _; rfl
  | cons p ps ih =>
    intro i dk h
    rw [setAll, setAll, ih _ _ (fun q hq => h q (List.mem_cons_of_mem _ hq)), List.set_comm _ _ (h p List.mem_cons_self)]
theorem setAll_comm (s w1 w2 : Int) (ps qs : List S45) : ∀ (i j : Nat) (dk : List Bool), (∀ p ∈ ps, ∀ q ∈ qs, idx s p ≠ idx s q) → setAll s w1 ps i (setAll s w2 qs j dk) = setAll s w2 qs j (setAll s w1 ps i dk) := by
  induction ps with
  | nil => intro i j dk _; rfl
  | cons p ps ih =>
    intro i j dk h
    rw [setAll, setAll, set_setAll _ _ _ _ _ _ _ (fun q hq => (h p List.mem_cons_self q hq).symm), ih _ _ _ (fun a ha => h a (List.mem_cons_of_mem _ ha))]
theorem idx_ne {s : Int} {p q : S45} (h0 : 0 ≤ s) (h1 : s ≤ 177) (hp : inM s p) (hq : inM s q) (h : p.f0 ≠ q.f0 ∨ p.f1 ≠ q.f1) : idx s p ≠ idx s q := by
  intro e
  have a := idx_lt hp h0 h1
  have b := idx_lt hq h0 h1
  unfold idx at e
  have e' : p.f1 * s + p.f0 = q.f1 * s + q.f0 := by omega
  obtain ⟨⟨p1, p2⟩, p3, p4⟩ := hp
  obtain ⟨⟨q1, q2⟩, q3, q4⟩ := hq
  have m1 : p.f0 = q.f0 := by
    have x1 : (p.f1 * s + p.f0) % s = p.f0 := by rw [Int.add_comm, Int.add_mul_emod_self_right]; exact Int.emod_eq_of_lt p1 p2
    have x2 : (q.f1 * s + q.f0) % s = q.f0 := by rw [Int.add_comm, Int.add_mul_emod_self_right]; exact Int.emod_eq_of_lt q1 q2
    rw [← x1, ← x2, e']
  have m2 : p.f1 = q.f1 := by
    have : p.f1 * s = q.f1 * s := by omega
    exact Int.eq_of_mul_eq_mul_right (by omega) this
  rcases h with h | h
  · exact h m1
  · exact h m2
theorem FV_apart {s : Int} (h0 : 45 ≤ s) (h1 : s ≤ 177) (c : Nat) : ∀ p ∈ ptsF s 1 15, ∀ q ∈ ptsV s 0 18, idx s p ≠ idx s q := fun p hp q hq => by
  refine idx_ne (by omega) h1 (F_in (by omega) h1 1 p hp) (V_in h0 h1 0 q hq) ?_
  obtain ⟨i, hi, rfl⟩ := List.mem_map.1 hp
  obtain ⟨j, hj, rfl⟩ := List.mem_map.1 hq
  have hi := List.mem_range.1 hi
  have hj := List.mem_range.1 hj
  unfold fpt vpt fmtQ
  rw [w64 (n := s - 15) (by omega), w64 (n := s - 1) (by omega), w64 (n := s - 15 + (i : Int)) (by omega), w64 (n := s - 1 - (i : Int)) (by omega)]
  simp only [show ¬ (1 = 0) by decide, if_false, if_true]
  split
  · left; dsimp only; omega
  · right; dsimp only; omega
end Go.Proofs.Ytbbnagjfjgkgjaa.Pure
