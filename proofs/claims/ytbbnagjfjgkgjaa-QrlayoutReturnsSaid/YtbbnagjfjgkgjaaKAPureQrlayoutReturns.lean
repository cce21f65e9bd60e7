/- Few changed bits: what is read is what was signed. -/
import Derived.Test.YtbbnagjfjgkgjaaKAPuv
import Derived.Test.YtbbnagjfjgkgjaaKAPub
import Derived.Test.YtbbnagjfjgkgjaaKAPsz
import Derived.Test.YtbbnagjfjgkgjaaKALx6
import Derived.Test.YtbbnagjfjgkgjaaKAPureQrlayoutFills
import Derived.Test.YtbbnagjfjgkgjaaKALs9
namespace Go.Proofs.Ytbbnagjfjgkgjaa.Pure
open Go.RowKit Go.Proofs.Ytbbnagjfjgkgjaa.L Go.Proofs.YtbbnagjfjgkgjaaW.PrintWords Go.Proofs.YtbbnagjfjgkgjaaW.PrintLast Go.Proofs.YtbbnagjfjgkgjaaW.PrintMore
set_option linter.unusedVariables false
set_option linter.unusedSimpArgs false

theorem bit_xor (a b : Bool) (x y : Nat) : ((if a = true then 1 else 0) + 2 * x) ^^^ ((if b = true then 1 else 0) + 2 * y) = (if (a ^^ b) = true then 1 else 0) + 2 * (x ^^^ y) := by
  have h1 := Math.xor_half ((if a = true then 1 else 0) + 2 * x) ((if b = true then 1 else 0) + 2 * y)
  have h2 := Math.xor_odd ((if a = true then 1 else 0) + 2 * x) ((if b = true then 1 else 0) + 2 * y)
  have e1 : ((if a = true then 1 else 0) + 2 * x) / 2 = x := by split <;> omega
  have e2 : ((if b = true then 1 else 0) + 2 * y) / 2 = y := by split <;> omega
  rw [e1, e2] at h1
  generalize ((if a = true then 1 else 0) + 2 * x) ^^^ ((if b = true then 1 else 0) + 2 * y) = q at h1 h2 ⊢
  cases a <;> cases b <;> simp at h2 ⊢ <;> omega
theorem up_xor (f g : Nat → Bool) : ∀ (d i : Nat), up (fun j => f j ^^ g j) i d = up f i d ^^^ up g i d
  | 0, i => by simp [up]
  | d + 1, i => by
    rw [up, up, up, up_xor f g d (i + 1), bit_xor]
theorem up_congr {f g : Nat → Bool} : ∀ (d i : Nat), (∀ j, i ≤ j → j < i + d → f j = g j) → up f i d = up g i d
  | 0, i, h => rfl
  | d + 1, i, h => by
    rw [up, up, h i (by omega) (by omega), up_congr d (i + 1) (fun j h1 h2 => h j (by omega) (by omega))]
def cb (f : Nat → Bool) : Nat → Nat → Nat
  | _, 0 => 0
  | i, d + 1 => (if f i = true then 1 else 0) + cb f (i + 1) d
theorem up_word (w : Nat) : ∀ (d i : Nat), up (fun j => w.testBit j) i d = w / 2 ^ i % 2 ^ d
  | 0, i => by simp [up, Nat.mod_one]
  | d + 1, i => by
    rw [up, up_word w d (i + 1), Nat.pow_succ 2 i, ← Nat.div_div_eq_div_mul, Nat.pow_succ 2 d, Nat.mul_comm (2 ^ d) 2, Nat.mod_mul]
    congr 1
    have : w.testBit i = decide (w / 2 ^ i % 2 = 1) := Nat.testBit_eq_decide_div_mod_eq
    rw [this]
    by_cases h : w / 2 ^ i % 2 = 1
    · simp [h]
    · simp [h]; omega
theorem bitv_nat (w i : Nat) (hw : w < 2 ^ 62) (hi : i ≤ 60) : bitv (w : Int) i = w.testBit i := by
  unfold bitv shr
  rw [show min ((i : Int)).toNat IntKind.i64.bits = i by simp [IntKind.bits]; omega]
  have e : (w : Int) / 2 ^ i = ((w / 2 ^ i : Nat) : Int) := by simp
  have hl : w / 2 ^ i ≤ w := Nat.div_le_self _ _
  rw [e, show (1 : Int) = ((1 : Nat) : Int) from rfl, Ev.and_nat _ _ (by omega) (by omega)]
  have : w.testBit i = decide (w / 2 ^ i % 2 = 1) := Nat.testBit_eq_decide_div_mod_eq
  rw [this, Nat.and_one_is_mod]
  by_cases h : w / 2 ^ i % 2 = 1
  · simp [h]
  · have h0 : w / 2 ^ i % 2 = 0 := by omega
    simp [h0]

def pt (s : Int) (g i : Nat) : S45 := if g < 2 then fpt s g i else vpt s (g - 2) i
def lenG (g : Nat) : Nat := if g < 2 then 15 else 18
def ptsG (s : Int) (g : Nat) : List S45 := if g < 2 then ptsF s g 15 else ptsV s (g - 2) 18
theorem ptsG_len (s : Int) (g : Nat) : (ptsG s g).length = lenG g := by unfold ptsG lenG; split <;> simp [ptsF_len, ptsV_len]
theorem ptsG_get (s : Int) (g i : Nat) (hi : i < lenG g) : rd_T45 (ptsG s g) (i : Int) = pt s g i := by
  have hl := ptsG_len s g
  rw [rdT_nat _ i (by omega)]
  unfold ptsG pt
  unfold ptsG at hl
  by_cases h : g < 2
  · simp only [h, if_true, ptsF, List.getElem_map, List.getElem_range]
  · simp only [h, if_false, ptsV, List.getElem_map, List.getElem_range]
theorem pt_in {s : Int} {g i : Nat} (h0 : 21 ≤ s) (h1 : s ≤ 177) (h2 : g < 2 ∨ 45 ≤ s) (hi : i < lenG g) : inM s (pt s g i) := by
  unfold pt
  unfold lenG at hi
  by_cases h : g < 2
  · rw [if_pos h] at hi ⊢; exact fpt_in h0 h1 g i hi
  · rw [if_neg h] at hi ⊢; exact vpt_in (by omega) h1 _ i hi
theorem fpt0 (s : Int) (i : Nat) (hi : i < 15) : fpt s 0 i = if i < 6 then ⟨8, i⟩ else if i < 8 then ⟨8, i + 1⟩ else if i = 8 then ⟨7, 8⟩ else ⟨14 - i, 8⟩ := by
  unfold fpt fmtP
  rw [w64 (n := (i : Int) + 1) (by omega), w64 (n := 14 - (i : Int)) (by omega), if_pos rfl]
  repeat' split
  all_goals first | rfl | (exfalso; omega)
theorem fpt1 {s : Int} (h0 : 21 ≤ s) (h1 : s ≤ 177) (i : Nat) (hi : i < 15) : fpt s 1 i = if 8 ≤ i then ⟨8, s - 15 + i⟩ else ⟨s - 1 - i, 8⟩ := by
  unfold fpt fmtQ
  rw [w64 (n := s - 15) (by omega), w64 (n := s - 1) (by omega), w64 (n := s - 15 + (i : Int)) (by omega), w64 (n := s - 1 - (i : Int)) (by omega), if_neg (by decide)]
  repeat' split
  all_goals first | rfl | (exfalso; omega)
theorem pt_apart {s : Int} (h0 : 21 ≤ s) (h1 : s ≤ 177) {g g' i j : Nat} (hg : g < 4) (hg' : g' < 4) (h2 : g < 2 ∨ 45 ≤ s) (h3 : g' < 2 ∨ 45 ≤ s) (hi : i < lenG g) (hj : j < lenG g') (hne : ¬ (g = g' ∧ i = j)) :
    (pt s g i).f0 ≠ (pt s g' j).f0 ∨ (pt s g i).f1 ≠ (pt s g' j).f1 := by
  have c : g = 0 ∨ g = 1 ∨ g = 2 ∨ g = 3 := by omega
  have c' : g' = 0 ∨ g' = 1 ∨ g' = 2 ∨ g' = 3 := by omega
  have P0 : ∀ i, i < 15 → pt s 0 i = if i < 6 then ⟨8, i⟩ else if i < 8 then ⟨8, i + 1⟩ else if i = 8 then ⟨7, 8⟩ else ⟨14 - i, 8⟩ := fun i hi => fpt0 s i hi
  have P1 : ∀ i, i < 15 → pt s 1 i = if 8 ≤ i then ⟨8, s - 15 + i⟩ else ⟨s - 1 - i, 8⟩ := fun i hi => fpt1 h0 h1 i hi
  have P2 : ∀ i : Nat, pt s 2 i = ⟨s - 11 + ((i % 3 : Nat) : Int), ((i / 3 : Nat) : Int)⟩ := fun i => rfl
  have P3 : ∀ i : Nat, pt s 3 i = ⟨((i / 3 : Nat) : Int), s - 11 + ((i % 3 : Nat) : Int)⟩ := fun i => rfl
  have hn : ∀ a b c d : Int, ¬ (a = b ∧ c = d) → a ≠ b ∨ c ≠ d := fun a b c d h => by omega
  apply hn
  rcases c with rfl | rfl | rfl | rfl <;> rcases c' with rfl | rfl | rfl | rfl <;> (
    first | rw [P0 i hi] | rw [P1 i hi] | rw [P2 i] | rw [P3 i]) <;> (first | rw [P0 j hj] | rw [P1 j hj] | rw [P2 j] | rw [P3 j]) <;> (
    simp only [show lenG 0 = 15 from rfl, show lenG 1 = 15 from rfl, show lenG 2 = 18 from rfl, show lenG 3 = 18 from rfl] at hi hj; clear P0 P1 P2 P3 hn; repeat' split) <;> (dsimp only; omega)
theorem idx_apart {s : Int} (h0 : 21 ≤ s) (h1 : s ≤ 177) {g g' i j : Nat} (hg : g < 4) (hg' : g' < 4) (h2 : g < 2 ∨ 45 ≤ s) (h3 : g' < 2 ∨ 45 ≤ s) (hi : i < lenG g) (hj : j < lenG g') (hne : ¬ (g = g' ∧ i = j)) :
    idx s (pt s g i) ≠ idx s (pt s g' j) := idx_ne (by omega) h1 (pt_in h0 h1 h2 hi) (pt_in h0 h1 h3 hj) (pt_apart h0 h1 hg hg' h2 h3 hi hj hne)
theorem ptsG_mem {s : Int} {g : Nat} {p : S45} (h : p ∈ ptsG s g) : ∃ i, i < lenG g ∧ p = pt s g i := by
  unfold ptsG at h
  unfold lenG pt
  by_cases hg : g < 2
  · rw [if_pos hg] at h ⊢
    obtain ⟨i, hi, rfl⟩ := List.mem_map.1 h
    exact ⟨i, List.mem_range.1 hi, by rw [if_pos hg]⟩
  · rw [if_neg hg] at h ⊢
    obtain ⟨i, hi, rfl⟩ := List.mem_map.1 h
    exact ⟨i, List.mem_range.1 hi, by rw [if_neg hg]⟩

theorem getD_set (l : List Bool) (n m : Nat) (b : Bool) (hn : n < l.length) : (l.set n b).getD m false = if n = m then b else l.getD m false := by
  rw [List.getD_eq_getElem?_getD, List.getElem?_set, List.getD_eq_getElem?_getD]
  by_cases h : n = m
  · subst h; simp [hn]
  · rw [if_neg h, if_neg h]
theorem setAll_far (s w : Int) (n : Nat) : ∀ (ps : List S45) (i : Nat) (dk : List Bool), (∀ p ∈ ps, idx s p ≠ n) → (∀ p ∈ ps, idx s p < dk.length) → (setAll s w ps i dk).getD n false = dk.getD n false
  | [], i, dk, _, _ => rfl
  | p :: ps, i, dk, h, hl => by
    rw [setAll, setAll_far s w n ps (i + 1) _ (fun q hq => h q (List.mem_cons_of_mem _ hq)) (fun q hq => by rw [List.length_set]; exact hl q (List.mem_cons_of_mem _ hq)), getD_set _ _ _ _ (hl p List.mem_cons_self), if_neg (h p List.mem_cons_self)]
theorem setAll_at (s w : Int) : ∀ (ps : List S45) (i : Nat) (dk : List Bool) (j : Nat) (hj : j < ps.length), (∀ a b (ha : a < ps.length) (hb : b < ps.length), idx s ps[a] = idx s ps[b] → a = b) → (∀ p ∈ ps, idx s p < dk.length) →
    (setAll s w ps i dk).getD (idx s ps[j]) false = bitv w (i + j)
  | [], i, dk, j, hj, _, _ => by simp at hj
  | p :: ps, i, dk, 0, hj, hd, hl => by
    rw [setAll, List.getElem_cons_zero, setAll_far s w _ ps (i + 1) _ (fun q hq e => by
      obtain ⟨b, hb, rfl⟩ := List.getElem_of_mem hq
      have := hd (b + 1) 0 (by simp; omega) (by simp) (by simpa using e)
      omega) (fun q hq => by rw [List.length_set]; exact hl q (List.mem_cons_of_mem _ hq)), getD_set _ _ _ _ (hl p List.mem_cons_self), if_pos rfl, Nat.add_zero]
  | p :: ps, i, dk, j + 1, hj, hd, hl => by
    rw [setAll, List.getElem_cons_succ, setAll_at s w ps (i + 1) _ j (by simpa using hj) (fun a b ha hb e => by
      have := hd (a + 1) (b + 1) (by simp; omega) (by simp; omega) (by simpa using e)
      omega) (fun q hq => by rw [List.length_set]; exact hl q (List.mem_cons_of_mem _ hq)), show i + 1 + j = i + (j + 1) by omega]
theorem idx_in {s : Int} {dk : List Bool} (h0 : 21 ≤ s) (h1 : s ≤ 177) (hdk : (dk.length : Int) = s * s) {p : S45} (h : inM s p) : idx s p < dk.length := by
  have := idx_lt h (by omega) h1
  unfold idx
  omega
theorem grp_far {s : Int} (h0 : 21 ≤ s) (h1 : s ≤ 177) (w : Int) {g g' i : Nat} (hg : g < 4) (hg' : g' < 4) (h2 : g < 2 ∨ 45 ≤ s) (h3 : g' < 2 ∨ 45 ≤ s) (hi : i < lenG g) (hne : g ≠ g') (dk : List Bool) (hdk : (dk.length : Int) = s * s) :
    (setAll s w (ptsG s g') 0 dk).getD (idx s (pt s g i)) false = dk.getD (idx s (pt s g i)) false :=
  setAll_far s w _ _ 0 dk (fun p hp => by
    obtain ⟨j, hj, rfl⟩ := ptsG_mem hp
    exact (idx_apart h0 h1 hg hg' h2 h3 hi hj (by omega)).symm) (fun p hp => by
    obtain ⟨j, hj, rfl⟩ := ptsG_mem hp
    exact idx_in h0 h1 hdk (pt_in h0 h1 h3 hj))
theorem grp_at {s : Int} (h0 : 21 ≤ s) (h1 : s ≤ 177) (w : Int) {g i : Nat} (hg : g < 4) (h2 : g < 2 ∨ 45 ≤ s) (hi : i < lenG g) (dk : List Bool) (hdk : (dk.length : Int) = s * s) :
    (setAll s w (ptsG s g) 0 dk).getD (idx s (pt s g i)) false = bitv w i := by
  have hl := ptsG_len s g
  have e : ∀ j (hj : j < lenG g), (ptsG s g)[j]'(by omega) = pt s g j := fun j hj => by rw [← ptsG_get s g j hj, rdT_nat _ j (by omega)]
  have := setAll_at s w (ptsG s g) 0 dk i (by omega) (fun a b ha hb he => by
    rw [e a (by omega), e b (by omega)] at he
    by_cases h : a = b
    · exact h
    · exact absurd he (idx_apart h0 h1 hg hg h2 h2 (by omega) (by omega) (by omega))) (fun p hp => by
    obtain ⟨j, hj, rfl⟩ := ptsG_mem hp
    exact idx_in h0 h1 hdk (pt_in h0 h1 h2 hj))
  rw [e i hi, Nat.zero_add] at this
  exact this
theorem sign_bit {v s : Int} (hv : 1 ≤ v ∧ v ≤ 40) (hs : s = 17 + 4 * v) (wF wV : Int) (dk : List Bool) (hdk : (dk.length : Int) = s * s) {g i : Nat} (hg : g < 4) (h2 : g < 2 ∨ 7 ≤ v) (hi : i < lenG g) :
    (signT v s wF wV dk).getD (idx s (pt s g i)) false = bitv (if g < 2 then wF else wV) i := by
  have h0 : 21 ≤ s := by omega
  have h1 : s ≤ 177 := by omega
  have h2' : g < 2 ∨ 45 ≤ s := by omega
  have F : ∀ g' w (dk : List Bool), g' < 4 → (g' < 2 ∨ 45 ≤ s) → (dk.length : Int) = s * s → g ≠ g' → (setAll s w (ptsG s g') 0 dk).getD (idx s (pt s g i)) false = dk.getD (idx s (pt s g i)) false := fun g' w dk a b c d => grp_far h0 h1 w hg a h2' b hi d dk c
  have A : ∀ w (dk : List Bool), (dk.length : Int) = s * s → (setAll s w (ptsG s g) 0 dk).getD (idx s (pt s g i)) false = bitv w i := fun w dk c => grp_at h0 h1 w hg h2' hi dk c
  have e0 : ptsF s 0 15 = ptsG s 0 := rfl
  have e1 : ptsF s 1 15 = ptsG s 1 := rfl
  have e2 : ptsV s 0 18 = ptsG s 2 := rfl
  have e3 : ptsV s 1 18 = ptsG s 3 := rfl
  unfold signT
  dsimp only
  rw [e0, e1, e2, e3]
  have c : g = 0 ∨ g = 1 ∨ g = 2 ∨ g = 3 := by omega
  by_cases h7 : v ≥ 7
  · rw [if_pos h7]
    rcases c with rfl | rfl | rfl | rfl
    · rw [F 3 _ _ (by decide) (by omega) (by simp only [setAll_len]; exact hdk) (by decide), F 2 _ _ (by decide) (by omega) (by simp only [setAll_len]; exact hdk) (by decide), F 1 _ _ (by decide) (by omega) (by simp only [setAll_len]; exact hdk) (by decide), A _ _ hdk]; rfl
    · rw [F 3 _ _ (by decide) (by omega) (by simp only [setAll_len]; exact hdk) (by decide), F 2 _ _ (by decide) (by omega) (by simp only [setAll_len]; exact hdk) (by decide), A _ _ (by simp only [setAll_len]; exact hdk)]; rfl
    · rw [F 3 _ _ (by decide) (by omega) (by simp only [setAll_len]; exact hdk) (by decide), A _ _ (by simp only [setAll_len]; exact hdk)]; rfl
    · rw [A _ _ (by simp only [setAll_len]; exact hdk)]; rfl
  · rw [if_neg h7]
    rcases c with rfl | rfl | rfl | rfl
    · rw [F 1 _ _ (by decide) (by omega) (by simp only [setAll_len]; exact hdk) (by decide), A _ _ hdk]; rfl
    · rw [A _ _ (by simp only [setAll_len]; exact hdk)]; rfl
    · omega
    · omega
theorem wordG {s : Int} (dk : List Bool) (g : Nat) : wordT s dk (ptsG s g) = up (fun i => dk.getD (idx s (pt s g i)) false) 0 (lenG g) := by
  unfold wordT
  rw [ptsG_len]
  refine up_congr _ _ (fun j h1 h2 => ?_)
  unfold bitAt
  rw [ptsG_get s g j (by omega)]
  rfl
end Go.Proofs.Ytbbnagjfjgkgjaa.Pure

/- What Sign has written, Read reads. -/
namespace Go.Proofs.Ytbbnagjfjgkgjaa.Pure
open Go.RowKit Go.Proofs.Ytbbnagjfjgkgjaa.L Go.Proofs.YtbbnagjfjgkgjaaW.PrintWords Go.Proofs.YtbbnagjfjgkgjaaW.PrintLast Go.Proofs.YtbbnagjfjgkgjaaW.PrintMore
set_option linter.unusedVariables false
set_option linter.unusedSimpArgs false

theorem sized_yes {v : Int} (h : 1 ≤ v ∧ v ≤ 40) (l : List Bool) (hl : (l.length : Int) = (17 + 4 * v) * (17 + 4 * v)) (k : Nat) : qrlayout_sized.f k (17 + 4 * v) (17 + 4 * v) l = some (v, 17 + 4 * v, alg v, 0) := by
  have hval : qrlayout_valid.f (17 + 4 * v) (17 + 4 * v) l = some true := by
    obtain ⟨s, hs⟩ : ∃ s, 17 + 4 * v = s := ⟨_, rfl⟩
    rw [hs] at hl ⊢
    have h0 : 21 ≤ s := by omega
    have h1 : s ≤ 177 := by omega
    have e5 : s * s ≤ 177 * 177 := Int.mul_le_mul h1 h1 (by omega) (by omega)
    have e6 : 0 ≤ s * s := Int.mul_nonneg (by omega) (by omega)
    unfold qrlayout_valid.f
    rw [w64 (n := s * s) (by omega)]
    repeat' split
    all_goals first | (exfalso; omega) | rfl | simp [hl]
  unfold qrlayout_sized.f
  rw [hval, Option.bind_some, if_pos rfl, w64 (n := 17 + 4 * v - 17) (by omega), show 17 + 4 * v - 17 = 4 * v by omega, Int.tdiv_eq_ediv_of_nonneg (by omega), show 4 * v / 4 = v by omega, w64 (n := v) (by omega), frame_yes h, Option.bind_some, if_pos rfl, if_pos rfl, if_pos rfl]
def fw (a1 a2 : Int) : Nat := Math.cw 1335 10 (8 * Ev.lev a1 + a2.toNat) ^^^ 21522
theorem sign_val {v : Int} (h : 1 ≤ v ∧ v ≤ 40) (l : List Bool) (hl : (l.length : Int) = (17 + 4 * v) * (17 + 4 * v)) (a1 a2 : Int) (k : Nat) (hk : 100000 ≤ k) :
    qrlayout_Sign.f k (17 + 4 * v) (17 + 4 * v) l a1 a2 = if a1 < 1 ∨ 4 < a1 then some (0, 0, [], 15) else if a2 < 0 ∨ 7 < a2 then some (0, 0, [], 3) else some (17 + 4 * v, 17 + 4 * v, signT v (17 + 4 * v) (fw a1 a2 : Int) (Ev.ver v).1 l, 0) := by
  have hs := sized_yes h l hl
  have hdk := hl
  obtain ⟨s, hS⟩ : ∃ s, 17 + 4 * v = s := ⟨_, rfl⟩
  rw [hS] at hdk ⊢
  have h0 : 21 ≤ s := by omega
  have h3 : s ≤ 177 := by omega
  have e5 : s * s ≤ 177 * 177 := Int.mul_le_mul h3 h3 (by omega) (by omega)
  rw [hS] at hs
  unfold qrlayout_Sign.f
  rw [hs, Option.bind_some, if_pos rfl, Ev.Format_nat a1 a2 k (by omega), Option.bind_some]
  unfold Ev.fmt
  by_cases c1 : a1 < 1 ∨ 4 < a1
  · rw [if_pos c1, if_pos c1]; rfl
  · rw [if_neg c1, if_neg c1]
    by_cases c2 : a2 < 0 ∨ 7 < a2
    · rw [if_pos c2, if_pos c2]; rfl
    · rw [if_neg c2, if_neg c2, if_pos rfl, clone_eq _ _ _ (by omega), Ev.Version_nat v k (by omega), format_eq _ _ _ k (by omega)]
      simp only [Option.bind_some]
      show _ = some (s, s, signT v s (fw a1 a2 : Int) (Ev.ver v).1 l, 0)
      have hwF : ((Math.cw 1335 10 (8 * Ev.lev a1 + a2.toNat) ^^^ 21522 : Nat) : Int) = (fw a1 a2 : Int) := rfl
      rw [hwF]
      generalize ((fw a1 a2 : Nat) : Int) = wF
      rw [write_eq h0 h3 s _ (ptsF s 0 15) (F_in h0 h3 0) (by rw [ptsF_len]; omega) l hdk k (by omega), Option.bind_some, write_eq h0 h3 s _ (ptsF s 1 15) (F_in h0 h3 1) (by rw [ptsF_len]; omega) _ (by rw [setAll_len]; exact hdk) k (by omega), Option.bind_some]
      by_cases c7 : v ≥ 7
      · rw [if_pos ((ver_yes h).2 c7), info_eq s v _ h0 h3 k (by omega), Option.bind_some, write_eq h0 h3 s _ (ptsV s 0 18) (V_in (by omega) h3 0) (by rw [ptsV_len]; omega) _ (by rw [setAll_len, setAll_len]; exact hdk) k (by omega), Option.bind_some, write_eq h0 h3 s _ (ptsV s 1 18) (V_in (by omega) h3 1) (by rw [ptsV_len]; omega) _ (by rw [setAll_len, setAll_len, setAll_len]; exact hdk) k (by omega), Option.bind_some]
        unfold signT
        dsimp only
        rw [if_pos c7]
      · rw [if_neg (fun hh => c7 ((ver_yes h).1 hh))]
        unfold signT
        dsimp only
        rw [if_neg c7]
theorem read_val {v : Int} (h : 1 ≤ v ∧ v ≤ 40) (l : List Bool) (hl : (l.length : Int) = (17 + 4 * v) * (17 + 4 * v)) (k : Nat) (hk : 10000 ≤ k)
    (ha : 7 ≤ v → agreeT v (pV (wordT (17 + 4 * v) l (ptsV (17 + 4 * v) 0 18))) (pV (wordT (17 + 4 * v) l (ptsV (17 + 4 * v) 1 18))) = 0) :
    qrlayout_Read.f k (17 + 4 * v) (17 + 4 * v) l = some (fmt2 v (pF (wordT (17 + 4 * v) l (ptsF (17 + 4 * v) 0 15))) (pF (wordT (17 + 4 * v) l (ptsF (17 + 4 * v) 1 15)))) := by
  have hs := sized_yes h l hl
  unfold qrlayout_Read.f
  rw [hs, Option.bind_some]
  simp only [if_true]
  have hR := rest_eq h (17 + 4 * v) l hl k (by omega) (alg v)
  by_cases c7 : v ≥ 7
  · have hC := confirm_eq ⟨c7, h.2⟩ (17 + 4 * v) l hl k (by omega) (alg v)
    rw [ha c7] at hC
    rw [if_pos c7, hC, Option.bind_some]
    simp only [if_true]
    exact hR
  · rw [if_neg c7]
    exact hR

theorem pV_near {v : Int} (h : 7 ≤ v ∧ v ≤ 40) (f : Nat) (hf : Math.wt f ≤ 3) : ∃ d, pV (Math.cw 7973 12 v.toNat ^^^ f) = (v, d, 0) := by
  unfold pV
  have hx : v.toNat < 2 ^ 6 := by omega
  rw [Ev.hit_changed (kk := 6) v.toNat f 3 7 hx Ev.minV' (by decide) hf]
  unfold Ev.pver
  dsimp only
  rw [if_neg (by omega), Int.toNat_of_nonneg (by omega)]
  exact ⟨_, rfl⟩
theorem pF_near {a1 a2 : Int} (h1 : 1 ≤ a1 ∧ a1 ≤ 4) (h2 : 0 ≤ a2 ∧ a2 ≤ 7) (f : Nat) (hf : Math.wt f ≤ 3) : ∃ d, pF (fw a1 a2 ^^^ f) = (a1, a2, d, 0) := by
  unfold pF fw
  have hlv := Ev.lev_lt a1
  have hx : 8 * Ev.lev a1 + a2.toNat < 2 ^ 5 := by omega
  have e : (Math.cw 1335 10 (8 * Ev.lev a1 + a2.toNat) ^^^ 21522 ^^^ f) ^^^ 21522 = Math.cw 1335 10 (8 * Ev.lev a1 + a2.toNat) ^^^ f := by
    rw [Nat.xor_assoc, Nat.xor_assoc, Nat.xor_comm f 21522, ← Nat.xor_assoc 21522 21522 f, Nat.xor_self, Nat.zero_xor]
  rw [e, Ev.hit_changed (kk := 5) _ f 3 7 hx Ev.minF' (by decide) hf]
  unfold Ev.pfmt
  have e1 : (8 * Ev.lev a1 + a2.toNat) / 8 = Ev.lev a1 := by omega
  have e2 : (8 * Ev.lev a1 + a2.toNat) % 8 = a2.toNat := by omega
  dsimp only
  rw [e1, e2, Ev.lvl_lev a1 h1.1 h1.2, Int.toNat_of_nonneg h2.1]
  exact ⟨_, rfl⟩
theorem fw_lt (a1 a2 : Int) (h2 : 0 ≤ a2 ∧ a2 ≤ 7) : fw a1 a2 < 2 ^ 15 := by
  have hlv := Ev.lev_lt a1
  exact Nat.xor_lt_two_pow (Math.cw_lt 1335 10 5 _ (by decide) (by decide) (by decide) (by omega)) (by decide)
theorem fmt2_both {v a1 a2 d e : Int} : fmt2 v (a1, a2, d, 0) (a1, a2, e, 0) = (v, a1, a2, 0) := by
  unfold fmt2
  dsimp only
  rw [if_pos rfl, if_pos rfl]
  split <;> rfl
theorem agreeT_both {v d e : Int} : agreeT v (v, d, 0) (v, e, 0) = 0 := by
  unfold agreeT pick2
  dsimp only
  rw [if_pos rfl, if_pos rfl]
  split <;> simp
theorem word_sign {v s : Int} (h : 1 ≤ v ∧ v ≤ 40) (hs : s = 17 + 4 * v) (wF wV : Nat) (hF : wF < 2 ^ 15) (hV : wV < 2 ^ 18) (d : List Bool) (hd : (d.length : Int) = s * s) {g : Nat} (hg : g < 4) (h2 : g < 2 ∨ 7 ≤ v) :
    wordT s (signT v s wF wV d) (ptsG s g) = if g < 2 then wF else wV := by
  rw [wordG]
  have hl : lenG g ≤ 18 := by unfold lenG; split <;> omega
  have e : up (fun i => (signT v s wF wV d).getD (idx s (pt s g i)) false) 0 (lenG g) = up (fun i => (if g < 2 then wF else wV).testBit i) 0 (lenG g) := by
    refine up_congr _ _ (fun j _ hj => ?_)
    have hsb := sign_bit h hs (wF : Int) (wV : Int) d hd hg h2 (i := j) (by omega)
    try dsimp only
    rw [hsb]
    by_cases hgg : g < 2
    · rw [if_pos hgg, if_pos hgg, bitv_nat _ _ (by omega) (by omega)]
    · rw [if_neg hgg, if_neg hgg, bitv_nat _ _ (by omega) (by omega)]
  rw [e, up_word, Nat.pow_zero, Nat.div_one, Nat.mod_eq_of_lt]
  unfold lenG
  split
  · exact hF
  · exact hV
theorem read_sign {v : Int} (h : 1 ≤ v ∧ v ≤ 40) (a1 a2 : Int) (h1 : 1 ≤ a1 ∧ a1 ≤ 4) (h2 : 0 ≤ a2 ∧ a2 ≤ 7) (d : List Bool) (hd : (d.length : Int) = (17 + 4 * v) * (17 + 4 * v)) (k : Nat) (hk : 10000 ≤ k) :
    qrlayout_Read.f k (17 + 4 * v) (17 + 4 * v) (signT v (17 + 4 * v) (fw a1 a2 : Int) (Ev.ver v).1 d) = some (v, a1, a2, 0) := by
  obtain ⟨s, hs⟩ : ∃ s, 17 + 4 * v = s := ⟨_, rfl⟩
  obtain ⟨wV, hV, hwV, hlV⟩ : ∃ wV : Nat, (Ev.ver v).1 = (wV : Int) ∧ (7 ≤ v → wV = Math.cw 7973 12 v.toNat) ∧ wV < 2 ^ 18 := by
    unfold Ev.ver
    by_cases c7 : v < 7 ∨ 40 < v
    · exact ⟨0, by rw [if_pos c7]; rfl, by omega, by decide⟩
    · exact ⟨_, by rw [if_neg c7], fun _ => rfl, Math.cw_lt 7973 12 6 _ (by decide) (by decide) (by decide) (by omega)⟩
  have hds : (d.length : Int) = s * s := by rw [← hs]; exact hd
  have W := fun g hg hh => word_sign h hs.symm (fw a1 a2) wV (fw_lt a1 a2 h2) hlV d hds (g := g) hg hh
  have hR := read_val h (signT v (17 + 4 * v) (fw a1 a2 : Int) (Ev.ver v).1 d) (by rw [signT_len]; exact hd) k hk (fun c7 => by
    have e2 : wordT s (signT v s (fw a1 a2 : Int) wV d) (ptsV s 0 18) = wV := W 2 (by decide) (.inr c7)
    have e3 : wordT s (signT v s (fw a1 a2 : Int) wV d) (ptsV s 1 18) = wV := W 3 (by decide) (.inr c7)
    rw [hs, hV, e2, e3, hwV c7]
    obtain ⟨d, hd⟩ := pV_near ⟨c7, h.2⟩ 0 (by decide)
    rw [Nat.xor_zero] at hd
    rw [hd, agreeT_both])
  have e0 : wordT s (signT v s (fw a1 a2 : Int) wV d) (ptsF s 0 15) = fw a1 a2 := W 0 (by decide) (.inl (by decide))
  have e1 : wordT s (signT v s (fw a1 a2 : Int) wV d) (ptsF s 1 15) = fw a1 a2 := W 1 (by decide) (.inl (by decide))
  obtain ⟨q, hq⟩ := pF_near h1 h2 0 (by decide)
  rw [Nat.xor_zero] at hq
  rw [hs, hV, e0, e1, hq, fmt2_both] at hR
  rw [hs, hV]
  exact hR
end Go.Proofs.Ytbbnagjfjgkgjaa.Pure

/- How many modules are wrong: what Faults counts. -/
namespace Go.Proofs.Ytbbnagjfjgkgjaa.Pure
open Go.RowKit Go.Proofs.Ytbbnagjfjgkgjaa.L Go.Proofs.YtbbnagjfjgkgjaaW.PrintWords Go.Proofs.YtbbnagjfjgkgjaaW.PrintLast Go.Proofs.YtbbnagjfjgkgjaaW.PrintMore
set_option linter.unusedVariables false
set_option linter.unusedSimpArgs false

def fault (v : Int) (l : List Bool) (i : Nat) : Bool :=
  let c := cellT v (17 + 4 * v) (alg v) ((i % sd v : Nat) : Int) ((i / sd v : Nat) : Int)
  (c == 2 || c == 4 || c == 3 || c == 7) && (rdOf false l (i : Int) != darkT v (17 + 4 * v) (alg v) ((i % sd v : Nat) : Int) ((i / sd v : Nat) : Int))
def faultN (v : Int) (l : List Bool) : Nat → Nat
  | 0 => 0
  | n + 1 => faultN v l n + if fault v l n = true then 1 else 0
theorem faultN_le (v : Int) (l : List Bool) (n : Nat) : faultN v l n ≤ n := by
  induction n with
  | zero => exact Nat.le_refl _
  | succ n ih => unfold faultN; split <;> omega
theorem faults_l0 {v : Int} (h : 1 ≤ v ∧ v ≤ 40) (l : List Bool) (hl : l.length = sd v * sd v) (H : Int) : ∀ (d k i : Nat), i + d = sd v * sd v → 100 ≤ k →
    qrlayout_Faults.l0 (k + 2 * d + 1) (faultN v l i : Int) l (l.length : Int) (i : Int) (17 + 4 * v) H l v (17 + 4 * v) (alg v) = some ((faultN v l (sd v * sd v) : Int), 0)
  | 0, k, i, hi, hk => by
    rw [qrlayout_Faults.l0, if_neg (by omega), show i = sd v * sd v by omega]
  | d + 1, k, i, hi, hk => by
    have hs := sd_eq h; have hb := sd_bd h
    have hm : sd v * sd v ≤ 177 * 177 := Nat.mul_le_mul (by omega) (by omega)
    have ih := faults_l0 h l hl H d k (i + 1) (by omega) hk
    have hN := faultN_le v l i
    have t1 : Int.tmod (i : Int) (17 + 4 * v) = ((i % sd v : Nat) : Int) := by rw [← hs, Int.tmod_eq_emod_of_nonneg (by omega)]; rfl
    have t2 : Int.tdiv (i : Int) (17 + 4 * v) = ((i / sd v : Nat) : Int) := by rw [← hs, Int.tdiv_eq_ediv_of_nonneg (by omega)]; rfl
    have b1 : i % sd v < sd v := Nat.mod_lt _ (by omega)
    have b2 : i / sd v < sd v := Nat.div_lt_of_lt_mul (by omega)
    have hfs : faultN v l (i + 1) = faultN v l i + if fault v l i = true then 1 else 0 := rfl
    unfold fault at hfs
    obtain ⟨q', hq⟩ : ∃ q', i / sd v = q' := ⟨_, rfl⟩
    obtain ⟨r, hr⟩ : ∃ r, i % sd v = r := ⟨_, rfl⟩
    rw [hq] at t2 b2
    rw [hr] at t1 b1
    simp only [hq, hr] at hfs
    rw [show k + 2 * (d + 1) + 1 = (k + 2 * d + 1 + 1) + 1 by omega, qrlayout_Faults.l0, if_pos (by omega), if_pos (by omega), if_pos (by omega), if_neg (by omega), t1, t2, w64 (n := (q' : Int)) (by omega), cell_eq v (17 + 4 * v) (alg v) _ _ (bd_of h (by omega) (by omega)) (k + 2 * d + 1 + 1) (by omega), Option.bind_some]
    simp only [qrlayout_Faults.j1, dark_eq v (17 + 4 * v) (alg v) _ _ (bd_of h (x := (r : Int)) (y := (q' : Int)) (by omega) (by omega)) (k + 2 * d + 1) (by omega), Option.bind_some, w64 (n := (i : Int) + 1) (by omega), w64 (n := (faultN v l i : Int) + 1) (by omega)]
    rw [show ((i : Int) + 1) = ((i + 1 : Nat) : Int) by omega]
    rw [hfs] at ih
    generalize cellT v (17 + 4 * v) (alg v) (r : Int) (q' : Int) = c at ih ⊢
    generalize (rdOf false l (i : Int) != darkT v (17 + 4 * v) (alg v) (r : Int) (q' : Int)) = f at ih ⊢
    cases f
    · simp only [Bool.and_false, Bool.false_eq_true, if_false, Nat.add_zero, ite_self] at ih ⊢
      exact ih
    · simp only [Bool.and_true, if_true, Int.natCast_add] at ih ⊢
      by_cases c2 : c = 2 <;> by_cases c4 : c = 4 <;> by_cases c3 : c = 3 <;> by_cases c7 : c = 7 <;> simp [c2, c4, c3, c7] at ih ⊢ <;> first | exact ih | omega

theorem faults_of {v : Int} (h : 1 ≤ v ∧ v ≤ 40) (l : List Bool) (hl : l.length = sd v * sd v) (H : Int) (k : Nat) (hk : 100000 ≤ k) : qrlayout_Faults.l0 k 0 l (l.length : Int) 0 (17 + 4 * v) H l v (17 + 4 * v) (alg v) = some ((faultN v l (sd v * sd v) : Int), 0) := by
  have hb := sd_bd h
  have hm : sd v * sd v ≤ 177 * 177 := Nat.mul_le_mul (by omega) (by omega)
  have := faults_l0 h l hl H (sd v * sd v) (k - 2 * (sd v * sd v) - 1) 0 (by omega) (by omega)
  rw [show k - 2 * (sd v * sd v) - 1 + 2 * (sd v * sd v) + 1 = k by omega] at this
  exact this
theorem faultN_same (v : Int) (l m : List Bool) : ∀ n : Nat, (∀ i, i < n → (let c := cellT v (17 + 4 * v) (alg v) ((i % sd v : Nat) : Int) ((i / sd v : Nat) : Int); c = 2 ∨ c = 4 ∨ c = 3 ∨ c = 7) → rdOf false m (i : Int) = rdOf false l (i : Int)) → faultN v m n = faultN v l n
  | 0, _ => rfl
  | n + 1, hh => by
    have ih := faultN_same v l m n (fun i hi => hh i (by omega))
    have hn := hh n (by omega)
    have e : fault v m n = fault v l n := by
      unfold fault
      dsimp only at hn ⊢
      generalize cellT v (17 + 4 * v) (alg v) ((n % sd v : Nat) : Int) ((n / sd v : Nat) : Int) = c at hn ⊢
      by_cases hc : c = 2 ∨ c = 4 ∨ c = 3 ∨ c = 7
      · rw [hn hc]
      · have : (c == 2 || c == 4 || c == 3 || c == 7) = false := by
          simp only [Bool.or_eq_false_iff, beq_eq_false_iff_ne]
          omega
        rw [this, Bool.false_and, Bool.false_and]
    rw [faultN, faultN, ih, e]
end Go.Proofs.Ytbbnagjfjgkgjaa.Pure

/- Filling and signing: places apart; what was filled is taken out again. -/
namespace Go.Proofs.Ytbbnagjfjgkgjaa.Pure
open Go.RowKit Go.Proofs.Ytbbnagjfjgkgjaa.L Go.Proofs.YtbbnagjfjgkgjaaW.PrintWords Go.Proofs.YtbbnagjfjgkgjaaW.PrintLast Go.Proofs.YtbbnagjfjgkgjaaW.PrintMore
set_option linter.unusedVariables false
set_option linter.unusedSimpArgs false

def chkP (v : Int) : Bool := (List.range 4).all fun g => if g < 2 ∨ 7 ≤ v then (List.range (lenG g)).all fun i => cellT v (17 + 4 * v) (alg v) (pt (17 + 4 * v) g i).f0 (pt (17 + 4 * v) g i).f1 == 5 || cellT v (17 + 4 * v) (alg v) (pt (17 + 4 * v) g i).f0 (pt (17 + 4 * v) g i).f1 == 6 else true
set_option maxRecDepth 100000 in
theorem chk_all : ∀ j : Fin 40, chkP ((j.val + 1 : Nat) : Int) = true := by decide +kernel
theorem pt_cell {v : Int} (h : 1 ≤ v ∧ v ≤ 40) {g i : Nat} (hg : g < 4) (h2 : g < 2 ∨ 7 ≤ v) (hi : i < lenG g) : cellT v (17 + 4 * v) (alg v) (pt (17 + 4 * v) g i).f0 (pt (17 + 4 * v) g i).f1 = 5 ∨ cellT v (17 + 4 * v) (alg v) (pt (17 + 4 * v) g i).f0 (pt (17 + 4 * v) g i).f1 = 6 := by
  obtain ⟨j, rfl⟩ := of_fin h
  have := chk_all j
  unfold chkP at this
  have a := List.all_eq_true.1 this g (List.mem_range.2 hg)
  rw [if_pos h2] at a
  have b := List.all_eq_true.1 a i (List.mem_range.2 hi)
  simpa using b
theorem dp_apart {v : Int} (h : 1 ≤ v ∧ v ≤ 40) {g i : Nat} (hg : g < 4) (h2 : g < 2 ∨ 7 ≤ v) (hi : i < lenG g) {p : S45} (hp : p ∈ ptsT v) : idx (17 + 4 * v) p ≠ idx (17 + 4 * v) (pt (17 + 4 * v) g i) := by
  have hc := pt_cell h hg h2 hi
  obtain ⟨x, y, c⟩ := pts_facts h p hp
  refine idx_ne (by omega) (by omega) ⟨x, y⟩ (pt_in (by omega) (by omega) (by omega) hi) ?_
  by_cases e0 : p.f0 = (pt (17 + 4 * v) g i).f0
  · by_cases e1 : p.f1 = (pt (17 + 4 * v) g i).f1
    · rw [← e0, ← e1, c] at hc
      omega
    · exact .inr e1
  · exact .inl e0
theorem fillL_setAll (s w : Int) (b : List Bool) (qs : List S45) (j : Nat) : ∀ (ps : List S45) (i : Nat) (dk : List Bool), (∀ p ∈ ps, ∀ q ∈ qs, idx s q ≠ idx s p) → fillL s b ps i (setAll s w qs j dk) = setAll s w qs j (fillL s b ps i dk)
  | [], i, dk, _ => rfl
  | p :: ps, i, dk, hh => by
    have e := set_setAll s w (idx s p) (b.getD i false) qs j dk (fun q hq => hh p List.mem_cons_self q hq)
    unfold idx at e
    rw [fillL, fillL, e, fillL_setAll s w b qs j ps (i + 1) _ (fun a ha => hh a (List.mem_cons_of_mem _ ha))]
theorem signT_eq (v s wF wV : Int) (dk : List Bool) : signT v s wF wV dk = if v ≥ 7 then setAll s wV (ptsG s 3) 0 (setAll s wV (ptsG s 2) 0 (setAll s wF (ptsG s 1) 0 (setAll s wF (ptsG s 0) 0 dk))) else setAll s wF (ptsG s 1) 0 (setAll s wF (ptsG s 0) 0 dk) := rfl
theorem fill_sign {v : Int} (h : 1 ≤ v ∧ v ≤ 40) (wF wV : Int) (b : List Bool) (l : List Bool) : fillL (17 + 4 * v) b (ptsT v) 0 (signT v (17 + 4 * v) wF wV l) = signT v (17 + 4 * v) wF wV (fillL (17 + 4 * v) b (ptsT v) 0 l) := by
  have K : ∀ (w : Int) (g : Nat) (dk : List Bool), g < 4 → (g < 2 ∨ 7 ≤ v) → fillL (17 + 4 * v) b (ptsT v) 0 (setAll (17 + 4 * v) w (ptsG (17 + 4 * v) g) 0 dk) = setAll (17 + 4 * v) w (ptsG (17 + 4 * v) g) 0 (fillL (17 + 4 * v) b (ptsT v) 0 dk) := fun w g dk hg h2 =>
    fillL_setAll _ _ _ _ _ _ _ _ (fun p hp q hq => by
      obtain ⟨i, hi, rfl⟩ := ptsG_mem hq
      exact (dp_apart h hg h2 hi hp).symm)
  rw [signT_eq, signT_eq]
  by_cases c7 : v ≥ 7
  · rw [if_pos c7, if_pos c7, K _ 3 _ (by decide) (.inr c7), K _ 2 _ (by decide) (.inr c7), K _ 1 _ (by decide) (.inl (by decide)), K _ 0 _ (by decide) (.inl (by decide))]
  · rw [if_neg c7, if_neg c7, K _ 1 _ (by decide) (.inl (by decide)), K _ 0 _ (by decide) (.inl (by decide))]
theorem sign_far {v : Int} (h : 1 ≤ v ∧ v ≤ 40) (wF wV : Int) (d : List Bool) (hd : (d.length : Int) = (17 + 4 * v) * (17 + 4 * v)) (n : Nat) (hn : ∀ g i, g < 4 → (g < 2 ∨ 7 ≤ v) → i < lenG g → idx (17 + 4 * v) (pt (17 + 4 * v) g i) ≠ n) : (signT v (17 + 4 * v) wF wV d).getD n false = d.getD n false := by
  have K : ∀ (w : Int) (g : Nat) (dk : List Bool), (dk.length : Int) = (17 + 4 * v) * (17 + 4 * v) → g < 4 → (g < 2 ∨ 7 ≤ v) → (setAll (17 + 4 * v) w (ptsG (17 + 4 * v) g) 0 dk).getD n false = dk.getD n false := fun w g dk hdk hg h2 =>
    setAll_far _ _ _ _ _ _ (fun p hp => by
      obtain ⟨i, hi, rfl⟩ := ptsG_mem hp
      exact hn g i hg h2 hi) (fun p hp => by
      obtain ⟨i, hi, rfl⟩ := ptsG_mem hp
      exact idx_in (by omega) (by omega) hdk (pt_in (by omega) (by omega) (by omega) hi))
  rw [signT_eq]
  by_cases c7 : v ≥ 7
  · rw [if_pos c7, K _ 3 _ (by simp only [setAll_len]; exact hd) (by decide) (.inr c7), K _ 2 _ (by simp only [setAll_len]; exact hd) (by decide) (.inr c7), K _ 1 _ (by simp only [setAll_len]; exact hd) (by decide) (.inl (by decide)), K _ 0 _ hd (by decide) (.inl (by decide))]
  · rw [if_neg c7, K _ 1 _ (by simp only [setAll_len]; exact hd) (by decide) (.inl (by decide)), K _ 0 _ hd (by decide) (.inl (by decide))]
theorem fillL_far (W : Int) (b : List Bool) (n : Nat) : ∀ (ps : List S45) (i : Nat) (dk : List Bool), (∀ p ∈ ps, idx W p ≠ n) → (∀ p ∈ ps, idx W p < dk.length) → (fillL W b ps i dk).getD n false = dk.getD n false
  | [], i, dk, _, _ => rfl
  | p :: ps, i, dk, hh, hl => by
    have e : (dk.set (p.f1 * W + p.f0).toNat (b.getD i false)).getD n false = dk.getD n false := by
      have := getD_set dk (idx W p) n (b.getD i false) (hl p List.mem_cons_self)
      rw [if_neg (hh p List.mem_cons_self)] at this
      exact this
    rw [fillL, fillL_far W b n ps (i + 1) _ (fun q hq => hh q (List.mem_cons_of_mem _ hq)) (fun q hq => by rw [List.length_set]; exact hl q (List.mem_cons_of_mem _ hq)), e]
theorem fillL_at (W : Int) (b : List Bool) : ∀ (ps : List S45) (i : Nat) (dk : List Bool) (j : Nat) (hj : j < ps.length), (∀ a b (ha : a < ps.length) (hb : b < ps.length), idx W ps[a] = idx W ps[b] → a = b) → (∀ p ∈ ps, idx W p < dk.length) →
    (fillL W b ps i dk).getD (idx W ps[j]) false = b.getD (i + j) false
  | [], i, dk, j, hj, _, _ => by simp at hj
  | p :: ps, i, dk, 0, hj, hd, hl => by
    have e : (dk.set (p.f1 * W + p.f0).toNat (b.getD i false)).getD (idx W p) false = b.getD i false := by
      have := getD_set dk (idx W p) (idx W p) (b.getD i false) (hl p List.mem_cons_self)
      rw [if_pos rfl] at this
      exact this
    rw [fillL, List.getElem_cons_zero, fillL_far W b _ ps (i + 1) _ (fun q hq e => by
      obtain ⟨c, hc, rfl⟩ := List.getElem_of_mem hq
      have := hd (c + 1) 0 (by simp; omega) (by simp) (by simpa using e)
      omega) (fun q hq => by rw [List.length_set]; exact hl q (List.mem_cons_of_mem _ hq)), e, Nat.add_zero]
  | p :: ps, i, dk, j + 1, hj, hd, hl => by
    rw [fillL, List.getElem_cons_succ, fillL_at W b ps (i + 1) _ j (by simpa using hj) (fun a c ha hc e => by
      have := hd (a + 1) (c + 1) (by simp; omega) (by simp; omega) (by simpa using e)
      omega) (fun q hq => by rw [List.length_set]; exact hl q (List.mem_cons_of_mem _ hq)), show i + 1 + j = i + (j + 1) by omega]
theorem pts_inM {v : Int} (h : 1 ≤ v ∧ v ≤ 40) {p : S45} (hp : p ∈ ptsT v) : inM (17 + 4 * v) p := by
  obtain ⟨x, y, _⟩ := pts_facts h p hp
  exact ⟨x, y⟩
theorem pts_inj {v : Int} (h : 1 ≤ v ∧ v ≤ 40) : ∀ a b (ha : a < (ptsT v).length) (hb : b < (ptsT v).length), idx (17 + 4 * v) (ptsT v)[a] = idx (17 + 4 * v) (ptsT v)[b] → a = b := fun a b ha hb e => by
  have pa := pts_inM h (List.getElem_mem ha)
  have pb := pts_inM h (List.getElem_mem hb)
  have e' : (ptsT v)[a] = (ptsT v)[b] := by
    refine ix_inj h pa.1 pb.1 ?_
    have i1 := idx_lt pa (by omega) (by omega)
    have i2 := idx_lt pb (by omega) (by omega)
    unfold idx at e
    unfold ix
    omega
  exact (List.getElem_inj (pts_nodup h)).1 e'
theorem take_back {v : Int} (h : 1 ≤ v ∧ v ≤ 40) (wF wV : Int) (b l : List Bool) (hl : (l.length : Int) = (17 + 4 * v) * (17 + 4 * v)) (hb : b.length ≤ (ptsT v).length) : bitsAt (17 + 4 * v) (signT v (17 + 4 * v) wF wV (fillL (17 + 4 * v) b (ptsT v) 0 l)) ((ptsT v).take b.length) = b := by
  refine List.ext_getElem (by simp [bitsAt]; omega) (fun j h1 h2 => ?_)
  have hj : j < (ptsT v).length := by omega
  have hin : ∀ p ∈ ptsT v, idx (17 + 4 * v) p < l.length := fun p hp => idx_in (by omega) (by omega) hl (pts_inM h hp)
  have e1 : (bitsAt (17 + 4 * v) (signT v (17 + 4 * v) wF wV (fillL (17 + 4 * v) b (ptsT v) 0 l)) ((ptsT v).take b.length))[j] = (signT v (17 + 4 * v) wF wV (fillL (17 + 4 * v) b (ptsT v) 0 l)).getD (idx (17 + 4 * v) (ptsT v)[j]) false := by
    simp only [bitsAt, List.getElem_map, List.getElem_take]
    rfl
  rw [e1, sign_far h wF wV _ (by rw [fillL_len]; exact hl) _ (fun g i hg h2 hi => (dp_apart h hg h2 hi (List.getElem_mem hj)).symm), fillL_at _ _ _ _ _ j hj (pts_inj h) hin, Nat.zero_add, List.getD_eq_getElem?_getD, List.getElem?_eq_getElem h2]
  rfl
theorem vq_same (b c : List Bool) (q r : Nat) : ∀ i, (∀ j, j < i → b.getD (8 * q + j) false = c.getD (8 * r + j) false) → vq b q i = vq c r i
  | 0, _ => rfl
  | i + 1, hh => by rw [vq, vq, vq_same b c q r i (fun j hj => hh j (by omega)), hh i (by omega)]
theorem vq_wbits : ∀ x : Fin 256, vq (wbits (x.val : Int) 8) 0 8 = x.val := by decide +kernel
theorem wordBits_at : ∀ (ws : List Int) (q i : Nat), q < ws.length → i < 8 → (wordBits ws).getD (8 * q + i) false = (wbits (ws.getD q 0) 8).getD i false
  | [], q, i, hq, _ => by simp at hq
  | x :: ws, 0, i, _, hi => by
    have hl : (wbits x 8).length = 8 := by simp [wbits]
    simp only [wordBits, List.flatMap_cons, List.getD_eq_getElem?_getD, Nat.mul_zero, Nat.zero_add, List.getElem?_cons_zero, Option.getD_some]
    rw [List.getElem?_append_left (by omega)]
  | x :: ws, q + 1, i, hq, hi => by
    have hl : (wbits x 8).length = 8 := by simp [wbits]
    have ih := wordBits_at ws q i (by simpa using hq) hi
    simp only [wordBits, List.flatMap_cons, List.getD_eq_getElem?_getD, List.getElem?_cons_succ] at ih ⊢
    rw [List.getElem?_append_right (by omega), hl, show 8 * (q + 1) + i - 8 = 8 * q + i by omega]
    exact ih
theorem words_back (ws : List Int) (hg : ∀ i, i < ws.length → 0 ≤ rd ws (i : Int) ∧ rd ws (i : Int) / 256 = 0) : ((List.range ws.length).map fun q => (vq (wordBits ws) q 8 : Int)) = ws := by
  refine List.ext_getElem (by simp) (fun j h1 h2 => ?_)
  obtain ⟨g0, g1⟩ := hg j h2
  have e0 : rd ws (j : Int) = ws[j] := by simp [rd, List.getD_eq_getElem?_getD, h2]
  have e1 : ws.getD j 0 = ws[j] := by simp [List.getD_eq_getElem?_getD, h2]
  rw [e0] at g0 g1
  obtain ⟨n, hn⟩ := Int.eq_ofNat_of_zero_le g0
  simp only [List.getElem_map, List.getElem_range]
  rw [vq_same (wordBits ws) (wbits ws[j] 8) j 0 8 (fun i hi => by rw [wordBits_at ws j i h2 hi, e1, Nat.mul_zero, Nat.zero_add])]
  have := vq_wbits ⟨n, by omega⟩
  rw [hn]
  exact congrArg Int.ofNat this
end Go.Proofs.Ytbbnagjfjgkgjaa.Pure

/- Filled, signed, read and taken out again: the law's walk at every argument. -/
namespace Go.Proofs.Ytbbnagjfjgkgjaa.Pure
open Go.RowKit Go.Proofs.Ytbbnagjfjgkgjaa.L Go.Proofs.YtbbnagjfjgkgjaaW.PrintWords Go.Proofs.YtbbnagjfjgkgjaaW.PrintLast Go.Proofs.YtbbnagjfjgkgjaaW.PrintMore
set_option linter.unusedVariables false
set_option linter.unusedSimpArgs false

theorem fill_yes {v : Int} (h : 1 ≤ v ∧ v ≤ 40) (l : List Bool) (hlen : (l.length : Int) = (17 + 4 * v) * (17 + 4 * v)) (hl : l.length ≤ 40000) (ws : List Int) (hws : ws.length ≤ 4000) (hn : (ws.length : Int) = cwN (v - 1).toNat) (hgood : ∀ i, i < ws.length → 0 ≤ rd ws (i : Int) ∧ rd ws (i : Int) / 256 = 0) (k : Nat) (hk : 2000000 ≤ k) :
    Does30 (17 + 4 * v) (17 + 4 * v) l ws (17 + 4 * v) (17 + 4 * v) (fillL (17 + 4 * v) (wordBits ws) (ptsT v) 0 l) 0 := by
  have hs := fun k => sized_yes h l hlen k
  obtain ⟨j, hj, rfl⟩ : ∃ j : Nat, j < 40 ∧ v = (j : Int) + 1 := ⟨(v - 1).toNat, by omega, by omega⟩
  rw [show ((j : Int) + 1 - 1).toNat = j by omega] at hn
  have hin := pts_in h l.length hlen
  obtain ⟨q1, q2, q3, q4⟩ := path_parts h k (by omega)
  have hl0 : 0 < l.length := by
    have : (21 : Int) * 21 ≤ (17 + 4 * ((j : Int) + 1)) * (17 + 4 * ((j : Int) + 1)) := Int.mul_le_mul (by omega) (by omega) (by omega) (by omega)
    omega
  have hpl : (ptsT ((j : Int) + 1)).length ≤ 100000 := by
    have hb := sd_bd h
    rw [pts_len h]
    refine Nat.le_trans List.count_le_length ?_
    rw [gridL_len]
    exact Nat.le_trans (Nat.mul_le_mul hb.2 hb.2) (by decide)
  have h63 := fun w : World => codewords63 j hj w
  intro A c A2 c2 w hA hc hA2 hc2
  refine (callsIn_wide.1 (fill_ok k _ _ ((j : Int) + 1) (17 + 4 * ((j : Int) + 1)) (cwN j) (cwR j) A c l A2 c2 ws (alg ((j : Int) + 1)) w hA hc hA2 hl hws (hs k) h63 hn.symm hgood (clone_eq2 _ _ _ (by omega)) q1 (ptsT ((j : Int) + 1)) q3 q2 hin hpl hl0)).mono fun e w' h' => ?_
  obtain ⟨A1, c1', e1, e2, e3, e4⟩ := h'
  have hfl : (fillL (17 + 4 * ((j : Int) + 1)) (wordBits ws) (ptsT ((j : Int) + 1)) 0 l).length = l.length := fillL_len _ _ _ _ _
  exact ⟨A1, c1', by rw [hfl]; exact e1, by rw [hfl]; exact e2, by rw [hfl]; exact e3, e4⟩
theorem version_len (W H : Int) (l m : List Bool) (e : m.length = l.length) : barscanref20_Version.f W H m = barscanref20_Version.f W H l := by
  unfold barscanref20_Version.f barscanref20_Sound.f
  rw [e]
theorem faults_same {v : Int} (h : 1 ≤ v ∧ v ≤ 40) (wF wV : Int) (b l : List Bool) (hl : (l.length : Int) = (17 + 4 * v) * (17 + 4 * v)) : faultN v (signT v (17 + 4 * v) wF wV (fillL (17 + 4 * v) b (ptsT v) 0 l)) (sd v * sd v) = faultN v l (sd v * sd v) := by
  have hb := sd_bd h
  have hs := sd_eq h
  refine faultN_same v l _ _ (fun i hi => ?_)
  dsimp only
  intro hc
  have far : ∀ p : S45, inM (17 + 4 * v) p → (cellT v (17 + 4 * v) (alg v) p.f0 p.f1 = 1 ∨ cellT v (17 + 4 * v) (alg v) p.f0 p.f1 = 5 ∨ cellT v (17 + 4 * v) (alg v) p.f0 p.f1 = 6) → idx (17 + 4 * v) p ≠ i := fun p hp hq e => by
    obtain ⟨⟨x0, x1⟩, y0, y1⟩ := hp
    obtain ⟨a, ha⟩ := Int.eq_ofNat_of_zero_le x0
    obtain ⟨c, hcc⟩ := Int.eq_ofNat_of_zero_le y0
    rw [ha] at x1
    rw [hcc] at y1
    have e' : idx (17 + 4 * v) p = c * sd v + a := by
      unfold idx
      rw [ha, hcc, ← hs, show ((c : Int) * ((sd v : Nat) : Int) + (a : Int)) = ((c * sd v + a : Nat) : Int) by rw [Int.natCast_add, Int.natCast_mul], Int.toNat_natCast]
    have m0 : i % sd v = a := by
      rw [← e, e', Nat.mul_comm, Nat.mul_add_mod, Nat.mod_eq_of_lt (by omega)]
    have m1 : i / sd v = c := by
      rw [← e, e', Nat.mul_comm, Nat.mul_add_div (by omega), Nat.div_eq_of_lt (by omega), Nat.add_zero]
    rw [m0, m1] at hc
    rw [ha, hcc] at hq
    omega
  have e1 := sign_far h wF wV (fillL (17 + 4 * v) b (ptsT v) 0 l) (by rw [fillL_len]; exact hl) i (fun g j hg h2 hj => far _ (pt_in (by omega) (by omega) (by omega) hj) (.inr (pt_cell h hg h2 hj)))
  have e2 := fillL_far (17 + 4 * v) b i (ptsT v) 0 l (fun p hp => far p (pts_inM h hp) (.inl (pts_facts h p hp).2.2)) (fun p hp => idx_in (by omega) (by omega) hl (pts_inM h hp))
  exact e1.trans e2
theorem faults_val {v : Int} (h : 1 ≤ v ∧ v ≤ 40) (l : List Bool) (hl : (l.length : Int) = (17 + 4 * v) * (17 + 4 * v)) (k : Nat) (hk : 100000 ≤ k) : qrlayout_Faults.f k (17 + 4 * v) (17 + 4 * v) l = some ((faultN v l (sd v * sd v) : Int), 0) := by
  have hs := sd_eq h
  have hn : l.length = sd v * sd v := by
    have : ((l.length : Nat) : Int) = ((sd v * sd v : Nat) : Int) := by rw [Int.natCast_mul, hs, hl]
    omega
  unfold qrlayout_Faults.f
  rw [sized_yes h l hl k, Option.bind_some]
  simp only [if_true]
  exact faults_of h l hn _ k hk
theorem returns_walk (W H : Int) (A : Option Addr) (c : Nat) (l : List Bool) (A2 : Option Addr) (c2 : Nat) (ws : List Int) (mask : Int) (w : World) (hA : Kd.C Kd.bool w A l.length l) (hc : l.length ≤ c) (hA2 : Kd.C (Kd.int .i64) w A2 ws.length ws) (hc2 : ws.length ≤ c2) :
    Calls Try.prog 9 #[.agg #[.int .i64 W, .int .i64 H, .slice A l.length c], .slice A2 ws.length c2, .int .i64 mask] w fun e w' => e = .returned (.bool true) ∧ Below w.heap.size w w' := by
  by_cases hs : (l.length : Int) ≤ 40000
  · by_cases hw : (ws.length : Int) ≤ 4000
    · rcases sized_cases W H l with ⟨v, h1, h2, rfl, rfl, hlen, hsz, hv⟩ | ⟨e, he, hsz, hv⟩
      · have h : 1 ≤ v ∧ v ≤ 40 := ⟨h1, h2⟩
        obtain ⟨r1, r2, d, r4, h30, _, hdl, hF⟩ := fill_both (17 + 4 * v) (17 + 4 * v) l ws (by omega) (by omega) 2000000 (by omega)
        have hN : (l.length : Int) = (17 + 4 * v) * (17 + 4 * v) := by rw [hlen, Int.natCast_mul, sdS_eq h]
        rcases hF v hv with ⟨rfl, rfl, rfl, rfl, hn, hgood⟩ | ⟨hr, rfl⟩
        · have hfl : (fillL (17 + 4 * v) (wordBits ws) (ptsT v) 0 l).length = l.length := fillL_len _ _ _ _ _
          have hNa : ((fillL (17 + 4 * v) (wordBits ws) (ptsT v) 0 l).length : Int) = (17 + 4 * v) * (17 + 4 * v) := by rw [hfl]; exact hN
          have hSa := sign_val h (fillL (17 + 4 * v) (wordBits ws) (ptsT v) 0 l) hNa 3 mask 2000000 (by omega)
          have hSl := sign_val h l hN 3 mask 2000000 (by omega)
          rw [if_neg (by decide)] at hSa hSl
          by_cases hm : mask < 0 ∨ 7 < mask
          · rw [if_pos hm] at hSa
            exact law9_nosign 2000000 _ _ v mask A c l A2 c2 ws w hA hc hA2 hc2 hs hw hv _ _ _ h30 0 0 3 [] (by decide) hSa (by omega)
          · rw [if_neg hm] at hSa hSl
            have hFS := fill_sign h (fw 3 mask : Int) (Ev.ver v).1 (wordBits ws) l
            have hcl : (signT v (17 + 4 * v) (fw 3 mask : Int) (Ev.ver v).1 l).length = l.length := signT_len _ _ _ _ _
            have hbl : (signT v (17 + 4 * v) (fw 3 mask : Int) (Ev.ver v).1 (fillL (17 + 4 * v) (wordBits ws) (ptsT v) 0 l)).length = l.length := (signT_len _ _ _ _ _).trans hfl
            have hRd := read_sign h 3 mask (by decide) (by omega) _ hNa 2000000 (by omega)
            have hTB := take_back h (fw 3 mask : Int) (Ev.ver v).1 (wordBits ws) l hN
            have hFa := faults_same h (fw 3 mask : Int) (Ev.ver v).1 (wordBits ws) l hN
            have h30d := fill_yes h (signT v (17 + 4 * v) (fw 3 mask : Int) (Ev.ver v).1 l) (by rw [hcl]; exact hN) (by omega) ws (by omega) hn hgood 2000000 (by omega)
            rw [hFS] at h30d
            generalize signT v (17 + 4 * v) (fw 3 mask : Int) (Ev.ver v).1 (fillL (17 + 4 * v) (wordBits ws) (ptsT v) 0 l) = db at hSa hbl hRd hTB hFa h30d
            have hNb : (db.length : Int) = (17 + 4 * v) * (17 + 4 * v) := by rw [hbl]; exact hN
            obtain ⟨x, r, h32, _, hxl, hE⟩ := extract_both (17 + 4 * v) (17 + 4 * v) db (by omega) 2000000 (by omega)
            obtain ⟨rfl, hx⟩ := hE v ((version_len _ _ l db hbl).trans hv)
            obtain ⟨j, hj, hvj⟩ : ∃ j : Nat, j < 40 ∧ v = (j : Int) + 1 := ⟨(v - 1).toNat, by omega, by omega⟩
            have hcp := (cw_path j hj).1
            rw [show (v - 1).toNat = j by omega] at hn hx
            rw [← hvj] at hcp
            rw [← hn, Int.toNat_natCast] at hx
            have hwb : (wordBits ws).length = 8 * ws.length := wordBits_len ws
            rw [← hwb, hTB (by omega), words_back ws hgood] at hx
            rw [hx] at h32
            have h14a := faults_val h l hN 2000000 (by omega)
            have h14b := faults_val h db hNb 2000000 (by omega)
            rw [hFa] at h14b
            exact law9_main 2000000 _ _ v mask _ A c l _ db _ A2 c2 ws w hA hc hA2 hc2 hs hw hv h30 hSa hSl h30d h32 h14a h14b (by rw [hbl]; simp) hRd (samF_yes _ _ _ (by omega) _ (by omega)) (ints_yes _ (by omega) _ (by omega))
        · exact law9_nofill 2000000 _ _ v mask A c l A2 c2 ws w hA hc hA2 hc2 hs hw hv _ _ _ hr h30
      · exact law9_none 2000000 W H 0 mask A c l A2 c2 ws w hA hc hA2 hc2 e hs hw he hv
    · obtain ⟨v, ev, hv⟩ : ∃ v ev, barscanref20_Version.f W H l = some (v, ev) := by
        rcases sized_cases W H l with ⟨v, h1, h2, rfl, rfl, hlen, hsz, hv⟩ | ⟨e, he, hsz, hv⟩
        · exact ⟨_, _, hv⟩
        · exact ⟨_, _, hv⟩
      exact law9_long 2000000 W H v mask A c l A2 c2 ws w hA hc hA2 hc2 ev hs (by omega) hv
  · obtain ⟨v, ev, hv⟩ : ∃ v ev, barscanref20_Version.f W H l = some (v, ev) := by
      rcases sized_cases W H l with ⟨v, h1, h2, rfl, rfl, hlen, hsz, hv⟩ | ⟨e, he, hsz, hv⟩
      · exact ⟨_, _, hv⟩
      · exact ⟨_, _, hv⟩
    exact law9_big 2000000 W H v mask A c l A2 c2 ws w hA hc hA2 hc2 ev hs hv
end Go.Proofs.Ytbbnagjfjgkgjaa.Pure
