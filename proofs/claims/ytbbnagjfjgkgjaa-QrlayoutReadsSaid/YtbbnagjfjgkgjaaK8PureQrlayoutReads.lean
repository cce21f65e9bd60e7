/- Few changed bits: what is read is what was signed. -/
import Derived.Test.YtbbnagjfjgkgjaaK8Puv
import Derived.Test.YtbbnagjfjgkgjaaK8Pub
import Derived.Test.YtbbnagjfjgkgjaaK8Lr2
namespace Go.Proofs.Ytbbnagjfjgkgjaa.Pure
open Go.RowKit Go.Proofs.Ytbbnagjfjgkgjaa.L Go.Proofs.YtbbnagjfjgkgjaaW.PrintWords Go.Proofs.YtbbnagjfjgkgjaaW.PrintLast Go.Proofs.YtbbnagjfjgkgjaaW.PrintMore
set_option linter.unusedVariables false
set_option linter.unusedSimpArgs false

theorem bit_xor (a b : Bool) (x y : Nat) : ((if a = true then 1 else 0) + 2 * x) ^^^ ((if b = true then 1 else 0) + 2 * y) = (if (a ^^ b) = true then 1 else 0) + 2 * (x ^^^ y) := by
  have h1 := Math.xor_half ((if a = true then 1 else 0) + 2 * x) ((if b = true then 1 else 0) + 2 * y)
  have h2 := Math.xor_odd ((if a = true then 1 else 0) + 2 * x) ((if b = true then 1 else 0) + 2 * y)
  have e1 : ((if a = true then 1 else 0) + 2 * x) / 2 = x := by split <;> omega
  have e2 : ((if b = true then 1 else 0) + 2 * y) / 2 = y := by split <;> omega
  rw [e1, e2] at h1
  generalize ((if a = true then 1 else 0) + 2 * x) ^^^ ((if b = true then 1 else 0) + 2 * y) = q at h1 h2 ⊢
  cases a <;> cases b <;> simp at h2 ⊢ <;> omega
theorem up_xor (f g : Nat → Bool) : ∀ (d i : Nat), up (fun j => f j ^^ g j) i d = up f i d ^^^ up g i d
  | 0, i => by simp [up]
  | d + 1, i => by
    rw [up, up, up, up_xor f g d (i + 1), bit_xor]
theorem up_congr {f g : Nat → Bool} : ∀ (d i : Nat), (∀ j, i ≤ j → j < i + d → f j = g j) → up f i d = up g i d
  | 0, i, h => rfl
  | d + 1, i, h => by
    rw [up, up, h i (by omega) (by omega), up_congr d (i + 1) (fun j h1 h2 => h j (by omega) (by omega))]
def cb (f : Nat → Bool) : Nat → Nat → Nat
  | _, 0 => 0
  | i, d + 1 => (if f i = true then 1 else 0) + cb f (i + 1) d
theorem cb_zero : ∀ (d i : Nat), cb (fun _ => false) i d = 0
  | 0, i => rfl
  | d + 1, i => by rw [cb, cb_zero d]; rfl
theorem cb_congr {f g : Nat → Bool} : ∀ (d i : Nat), (∀ j, i ≤ j → j < i + d → f j = g j) → cb f i d = cb g i d
  | 0, i, h => rfl
  | d + 1, i, h => by
    rw [cb, cb, h i (by omega) (by omega), cb_congr d (i + 1) (fun j h1 h2 => h j (by omega) (by omega))]
theorem cb_one {f g : Nat → Bool} (n : Nat) : ∀ (d i : Nat), (∀ j, i ≤ j → j < i + d → j ≠ n → f j = g j) → cb g i d ≤ cb f i d + 1
  | 0, i, h => by simp [cb]
  | d + 1, i, h => by
    rw [cb, cb]
    by_cases e : i = n
    · have := cb_congr (f := f) (g := g) d (i + 1) (fun j h1 h2 => h j (by omega) (by omega) (by omega))
      rw [this]
      split <;> split <;> omega
    · have := cb_one (f := f) (g := g) n d (i + 1) (fun j h1 h2 h3 => h j (by omega) (by omega) h3)
      rw [h i (by omega) (by omega) e]
      omega
theorem wt_up (f : Nat → Bool) : ∀ (d i : Nat), d ≤ 63 → Math.wt (up f i d) ≤ cb f i d
  | 0, i, _ => by simp [up, cb, Math.wt_zero]
  | d + 1, i, hd => by
    have ih := wt_up f d (i + 1) (by omega)
    have hl := up_lt f (d + 1) i
    have hp : 2 ^ (d + 1) ≤ 2 ^ 63 := Nat.pow_le_pow_right (by decide) (by omega)
    rw [Math.wt_half _ (by omega), up, cb]
    have e1 : ((if f i = true then 1 else 0) + 2 * up f (i + 1) d) / 2 = up f (i + 1) d := by split <;> omega
    have e2 : ((if f i = true then 1 else 0) + 2 * up f (i + 1) d) % 2 = (if f i = true then 1 else 0) := by split <;> omega
    rw [e1, e2]
    omega
theorem up_word (w : Nat) : ∀ (d i : Nat), up (fun j => w.testBit j) i d = w / 2 ^ i % 2 ^ d
  | 0, i => by simp [up, Nat.mod_one]
  | d + 1, i => by
    rw [up, up_word w d (i + 1), Nat.pow_succ 2 i, ← Nat.div_div_eq_div_mul, Nat.pow_succ 2 d, Nat.mul_comm (2 ^ d) 2, Nat.mod_mul]
    congr 1
    have : w.testBit i = decide (w / 2 ^ i % 2 = 1) := Nat.testBit_eq_decide_div_mod_eq
    rw [this]
    by_cases h : w / 2 ^ i % 2 = 1
    · simp [h]
    · simp [h]; omega
theorem bitv_nat (w i : Nat) (hw : w < 2 ^ 62) (hi : i ≤ 60) : bitv (w : Int) i = w.testBit i := by
  unfold bitv shr
  rw [show min ((i : Int)).toNat IntKind.i64.bits = i by simp [IntKind.bits]; omega]
  have e : (w : Int) / 2 ^ i = ((w / 2 ^ i : Nat) : Int) := by simp
  have hl : w / 2 ^ i ≤ w := Nat.div_le_self _ _
  rw [e, show (1 : Int) = ((1 : Nat) : Int) from rfl, Ev.and_nat _ _ (by omega) (by omega)]
  have : w.testBit i = decide (w / 2 ^ i % 2 = 1) := Nat.testBit_eq_decide_div_mod_eq
  rw [this, Nat.and_one_is_mod]
  by_cases h : w / 2 ^ i % 2 = 1
  · simp [h]
  · have h0 : w / 2 ^ i % 2 = 0 := by omega
    simp [h0]

def pt (s : Int) (g i : Nat) : S45 := if g < 2 then fpt s g i else vpt s (g - 2) i
def lenG (g : Nat) : Nat := if g < 2 then 15 else 18
def ptsG (s : Int) (g : Nat) : List S45 := if g < 2 then ptsF s g 15 else ptsV s (g - 2) 18
theorem ptsG_len (s : Int) (g : Nat) : (ptsG s g).length = lenG g := by unfold ptsG lenG; split <;> simp [ptsF_len, ptsV_len]
theorem ptsG_get (s : Int) (g i : Nat) (hi : i < lenG g) : rd_T45 (ptsG s g) (i : Int) = pt s g i := by
  have hl := ptsG_len s g
  rw [rdT_nat _ i (by omega)]
  unfold ptsG pt
  unfold ptsG at hl
  by_cases h : g < 2
  · simp only [h, if_true, ptsF, List.getElem_map, List.getElem_range]
  · simp only [h, if_false, ptsV, List.getElem_map, List.getElem_range]
theorem pt_in {s : Int} {g i : Nat} (h0 : 21 ≤ s) (h1 : s ≤ 177) (h2 : g < 2 ∨ 45 ≤ s) (hi : i < lenG g) : inM s (pt s g i) := by
  unfold pt
  unfold lenG at hi
  by_cases h : g < 2
  · rw [if_pos h] at hi ⊢; exact fpt_in h0 h1 g i hi
  · rw [if_neg h] at hi ⊢; exact vpt_in (by omega) h1 _ i hi
theorem fpt0 (s : Int) (i : Nat) (hi : i < 15) : fpt s 0 i = if i < 6 then ⟨8, i⟩ else if i < 8 then ⟨8, i + 1⟩ else if i = 8 then ⟨7, 8⟩ else ⟨14 - i, 8⟩ := by
  unfold fpt fmtP
  rw [w64 (n := (i : Int) + 1) (by omega), w64 (n := 14 - (i : Int)) (by omega), if_pos rfl]
  repeat' split
  all_goals first | rfl | (exfalso; omega)
theorem fpt1 {s : Int} (h0 : 21 ≤ s) (h1 : s ≤ 177) (i : Nat) (hi : i < 15) : fpt s 1 i = if 8 ≤ i then ⟨8, s - 15 + i⟩ else ⟨s - 1 - i, 8⟩ := by
  unfold fpt fmtQ
  rw [w64 (n := s - 15) (by omega), w64 (n := s - 1) (by omega), w64 (n := s - 15 + (i : Int)) (by omega), w64 (n := s - 1 - (i : Int)) (by omega), if_neg (by decide)]
  repeat' split
  all_goals first | rfl | (exfalso; omega)
theorem pt_apart {s : Int} (h0 : 21 ≤ s) (h1 : s ≤ 177) {g g' i j : Nat} (hg : g < 4) (hg' : g' < 4) (h2 : g < 2 ∨ 45 ≤ s) (h3 : g' < 2 ∨ 45 ≤ s) (hi : i < lenG g) (hj : j < lenG g') (hne : ¬ (g = g' ∧ i = j)) :
    (pt s g i).f0 ≠ (pt s g' j).f0 ∨ (pt s g i).f1 ≠ (pt s g' j).f1 := by
  have c : g = 0 ∨ g = 1 ∨ g = 2 ∨ g = 3 := by omega
  have c' : g' = 0 ∨ g' = 1 ∨ g' = 2 ∨ g' = 3 := by omega
  have P0 : ∀ i, i < 15 → pt s 0 i = if i < 6 then ⟨8, i⟩ else if i < 8 then ⟨8, i + 1⟩ else if i = 8 then ⟨7, 8⟩ else ⟨14 - i, 8⟩ := fun i hi => fpt0 s i hi
  have P1 : ∀ i, i < 15 → pt s 1 i = if 8 ≤ i then ⟨8, s - 15 + i⟩ else ⟨s - 1 - i, 8⟩ := fun i hi => fpt1 h0 h1 i hi
  have P2 : ∀ i : Nat, pt s 2 i = ⟨s - 11 + ((i % 3 : Nat) : Int), ((i / 3 : Nat) : Int)⟩ := fun i => rfl
  have P3 : ∀ i : Nat, pt s 3 i = ⟨((i / 3 : Nat) : Int), s - 11 + ((i % 3 : Nat) : Int)⟩ := fun i => rfl
  have hn : ∀ a b c d : Int, ¬ (a = b ∧ c = d) → a ≠ b ∨ c ≠ d := fun a b c d h => by omega
  apply hn
  rcases c with rfl | rfl | rfl | rfl <;> rcases c' with rfl | rfl | rfl | rfl <;> (
    first | rw [P0 i hi] | rw [P1 i hi] | rw [P2 i] | rw [P3 i]) <;> (first | rw [P0 j hj] | rw [P1 j hj] | rw [P2 j] | rw [P3 j]) <;> (
    simp only [show lenG 0 = 15 from rfl, show lenG 1 = 15 from rfl, show lenG 2 = 18 from rfl, show lenG 3 = 18 from rfl] at hi hj; clear P0 P1 P2 P3 hn; repeat' split) <;> (dsimp only; omega)
theorem idx_apart {s : Int} (h0 : 21 ≤ s) (h1 : s ≤ 177) {g g' i j : Nat} (hg : g < 4) (hg' : g' < 4) (h2 : g < 2 ∨ 45 ≤ s) (h3 : g' < 2 ∨ 45 ≤ s) (hi : i < lenG g) (hj : j < lenG g') (hne : ¬ (g = g' ∧ i = j)) :
    idx s (pt s g i) ≠ idx s (pt s g' j) := idx_ne (by omega) h1 (pt_in h0 h1 h2 hi) (pt_in h0 h1 h3 hj) (pt_apart h0 h1 hg hg' h2 h3 hi hj hne)
theorem ptsG_mem {s : Int} {g : Nat} {p : S45} (h : p ∈ ptsG s g) : ∃ i, i < lenG g ∧ p = pt s g i := by
  unfold ptsG at h
  unfold lenG pt
  by_cases hg : g < 2
  · rw [if_pos hg] at h ⊢
    obtain ⟨i, hi, rfl⟩ := List.mem_map.1 h
    exact ⟨i, List.mem_range.1 hi, by rw [if_pos hg]⟩
  · rw [if_neg hg] at h ⊢
    obtain ⟨i, hi, rfl⟩ := List.mem_map.1 h
    exact ⟨i, List.mem_range.1 hi, by rw [if_neg hg]⟩

theorem getD_set (l : List Bool) (n m : Nat) (b : Bool) (hn : n < l.length) : (l.set n b).getD m false = if n = m then b else l.getD m false := by
  rw [List.getD_eq_getElem?_getD, List.getElem?_set, List.getD_eq_getElem?_getD]
  by_cases h : n = m
  · subst h; simp [hn]
  · rw [if_neg h, if_neg h]
theorem setAll_far (s w : Int) (n : Nat) : ∀ (ps : List S45) (i : Nat) (dk : List Bool), (∀ p ∈ ps, idx s p ≠ n) → (∀ p ∈ ps, idx s p < dk.length) → (setAll s w ps i dk).getD n false = dk.getD n false
  | [], i, dk, _, _ => rfl
  | p :: ps, i, dk, h, hl => by
    rw [setAll, setAll_far s w n ps (i + 1) _ (fun q hq => h q (List.mem_cons_of_mem _ hq)) (fun q hq => by rw [List.length_set]; exact hl q (List.mem_cons_of_mem _ hq)), getD_set _ _ _ _ (hl p List.mem_cons_self), if_neg (h p List.mem_cons_self)]
theorem setAll_at (s w : Int) : ∀ (ps : List S45) (i : Nat) (dk : List Bool) (j : Nat) (hj : j < ps.length), (∀ a b (ha : a < ps.length) (hb : b < ps.length), idx s ps[a] = idx s ps[b] → a = b) → (∀ p ∈ ps, idx s p < dk.length) →
    (setAll s w ps i dk).getD (idx s ps[j]) false = bitv w (i + j)
  | [], i, dk, j, hj, _, _ => by simp at hj
  | p :: ps, i, dk, 0, hj, hd, hl => by
    rw [setAll, List.getElem_cons_zero, setAll_far s w _ ps (i + 1) _ (fun q hq e => by
      obtain ⟨b, hb, rfl⟩ := List.getElem_of_mem hq
      have := hd (b + 1) 0 (by simp; omega) (by simp) (by simpa using e)
      omega) (fun q hq => by rw [List.length_set]; exact hl q (List.mem_cons_of_mem _ hq)), getD_set _ _ _ _ (hl p List.mem_cons_self), if_pos rfl, Nat.add_zero]
  | p :: ps, i, dk, j + 1, hj, hd, hl => by
    rw [setAll, List.getElem_cons_succ, setAll_at s w ps (i + 1) _ j (by simpa using hj) (fun a b ha hb e => by
      have := hd (a + 1) (b + 1) (by simp; omega) (by simp; omega) (by simpa using e)
      omega) (fun q hq => by rw [List.length_set]; exact hl q (List.mem_cons_of_mem _ hq)), show i + 1 + j = i + (j + 1) by omega]
theorem idx_in {s : Int} {dk : List Bool} (h0 : 21 ≤ s) (h1 : s ≤ 177) (hdk : (dk.length : Int) = s * s) {p : S45} (h : inM s p) : idx s p < dk.length := by
  have := idx_lt h (by omega) h1
  unfold idx
  omega
theorem grp_far {s : Int} (h0 : 21 ≤ s) (h1 : s ≤ 177) (w : Int) {g g' i : Nat} (hg : g < 4) (hg' : g' < 4) (h2 : g < 2 ∨ 45 ≤ s) (h3 : g' < 2 ∨ 45 ≤ s) (hi : i < lenG g) (hne : g ≠ g') (dk : List Bool) (hdk : (dk.length : Int) = s * s) :
    (setAll s w (ptsG s g') 0 dk).getD (idx s (pt s g i)) false = dk.getD (idx s (pt s g i)) false :=
  setAll_far s w _ _ 0 dk (fun p hp => by
    obtain ⟨j, hj, rfl⟩ := ptsG_mem hp
    exact (idx_apart h0 h1 hg hg' h2 h3 hi hj (by omega)).symm) (fun p hp => by
    obtain ⟨j, hj, rfl⟩ := ptsG_mem hp
    exact idx_in h0 h1 hdk (pt_in h0 h1 h3 hj))
theorem grp_at {s : Int} (h0 : 21 ≤ s) (h1 : s ≤ 177) (w : Int) {g i : Nat} (hg : g < 4) (h2 : g < 2 ∨ 45 ≤ s) (hi : i < lenG g) (dk : List Bool) (hdk : (dk.length : Int) = s * s) :
    (setAll s w (ptsG s g) 0 dk).getD (idx s (pt s g i)) false = bitv w i := by
  have hl := ptsG_len s g
  have e : ∀ j (hj : j < lenG g), (ptsG s g)[j]'(by omega) = pt s g j := fun j hj => by rw [← ptsG_get s g j hj, rdT_nat _ j (by omega)]
  have := setAll_at s w (ptsG s g) 0 dk i (by omega) (fun a b ha hb he => by
    rw [e a (by omega), e b (by omega)] at he
    by_cases h : a = b
    · exact h
    · exact absurd he (idx_apart h0 h1 hg hg h2 h2 (by omega) (by omega) (by omega))) (fun p hp => by
    obtain ⟨j, hj, rfl⟩ := ptsG_mem hp
    exact idx_in h0 h1 hdk (pt_in h0 h1 h2 hj))
  rw [e i hi, Nat.zero_add] at this
  exact this
theorem sign_bit {v s : Int} (hv : 1 ≤ v ∧ v ≤ 40) (hs : s = 17 + 4 * v) (wF wV : Int) (dk : List Bool) (hdk : (dk.length : Int) = s * s) {g i : Nat} (hg : g < 4) (h2 : g < 2 ∨ 7 ≤ v) (hi : i < lenG g) :
    (signT v s wF wV dk).getD (idx s (pt s g i)) false = bitv (if g < 2 then wF else wV) i := by
  have h0 : 21 ≤ s := by omega
  have h1 : s ≤ 177 := by omega
  have h2' : g < 2 ∨ 45 ≤ s := by omega
  have F : ∀ g' w (dk : List Bool), g' < 4 → (g' < 2 ∨ 45 ≤ s) → (dk.length : Int) = s * s → g ≠ g' → (setAll s w (ptsG s g') 0 dk).getD (idx s (pt s g i)) false = dk.getD (idx s (pt s g i)) false := fun g' w dk a b c d => grp_far h0 h1 w hg a h2' b hi d dk c
  have A : ∀ w (dk : List Bool), (dk.length : Int) = s * s → (setAll s w (ptsG s g) 0 dk).getD (idx s (pt s g i)) false = bitv w i := fun w dk c => grp_at h0 h1 w hg h2' hi dk c
  have e0 : ptsF s 0 15 = ptsG s 0 := rfl
  have e1 : ptsF s 1 15 = ptsG s 1 := rfl
  have e2 : ptsV s 0 18 = ptsG s 2 := rfl
  have e3 : ptsV s 1 18 = ptsG s 3 := rfl
  unfold signT
  dsimp only
  rw [e0, e1, e2, e3]
  have c : g = 0 ∨ g = 1 ∨ g = 2 ∨ g = 3 := by omega
  by_cases h7 : v ≥ 7
  · rw [if_pos h7]
    rcases c with rfl | rfl | rfl | rfl
    · rw [F 3 _ _ (by decide) (by omega) (by simp only [setAll_len]; exact hdk) (by decide), F 2 _ _ (by decide) (by omega) (by simp only [setAll_len]; exact hdk) (by decide), F 1 _ _ (by decide) (by omega) (by simp only [setAll_len]; exact hdk) (by decide), A _ _ hdk]; rfl
    · rw [F 3 _ _ (by decide) (by omega) (by simp only [setAll_len]; exact hdk) (by decide), F 2 _ _ (by decide) (by omega) (by simp only [setAll_len]; exact hdk) (by decide), A _ _ (by simp only [setAll_len]; exact hdk)]; rfl
    · rw [F 3 _ _ (by decide) (by omega) (by simp only [setAll_len]; exact hdk) (by decide), A _ _ (by simp only [setAll_len]; exact hdk)]; rfl
    · rw [A _ _ (by simp only [setAll_len]; exact hdk)]; rfl
  · rw [if_neg h7]
    rcases c with rfl | rfl | rfl | rfl
    · rw [F 1 _ _ (by decide) (by omega) (by simp only [setAll_len]; exact hdk) (by decide), A _ _ hdk]; rfl
    · rw [A _ _ (by simp only [setAll_len]; exact hdk)]; rfl
    · omega
    · omega
theorem wordG {s : Int} (dk : List Bool) (g : Nat) : wordT s dk (ptsG s g) = up (fun i => dk.getD (idx s (pt s g i)) false) 0 (lenG g) := by
  unfold wordT
  rw [ptsG_len]
  refine up_congr _ _ (fun j h1 h2 => ?_)
  unfold bitAt
  rw [ptsG_get s g j (by omega)]
  rfl
end Go.Proofs.Ytbbnagjfjgkgjaa.Pure

/- Sign and Read on a matrix of a version: their values. -/
namespace Go.Proofs.Ytbbnagjfjgkgjaa.Pure
open Go.RowKit Go.Proofs.Ytbbnagjfjgkgjaa.L Go.Proofs.YtbbnagjfjgkgjaaW.PrintWords Go.Proofs.YtbbnagjfjgkgjaaW.PrintLast Go.Proofs.YtbbnagjfjgkgjaaW.PrintMore
set_option linter.unusedVariables false
set_option linter.unusedSimpArgs false

theorem sized_yes {v : Int} (h : 1 ≤ v ∧ v ≤ 40) (l : List Bool) (hl : (l.length : Int) = (17 + 4 * v) * (17 + 4 * v)) (k : Nat) : qrlayout_sized.f k (17 + 4 * v) (17 + 4 * v) l = some (v, 17 + 4 * v, alg v, 0) := by
  have hval : qrlayout_valid.f (17 + 4 * v) (17 + 4 * v) l = some true := by
    obtain ⟨s, hs⟩ : ∃ s, 17 + 4 * v = s := ⟨_, rfl⟩
    rw [hs] at hl ⊢
    have h0 : 21 ≤ s := by omega
    have h1 : s ≤ 177 := by omega
    have e5 : s * s ≤ 177 * 177 := Int.mul_le_mul h1 h1 (by omega) (by omega)
    have e6 : 0 ≤ s * s := Int.mul_nonneg (by omega) (by omega)
    unfold qrlayout_valid.f
    rw [w64 (n := s * s) (by omega)]
    repeat' split
    all_goals first | (exfalso; omega) | rfl | simp [hl]
  unfold qrlayout_sized.f
  rw [hval, Option.bind_some, if_pos rfl, w64 (n := 17 + 4 * v - 17) (by omega), show 17 + 4 * v - 17 = 4 * v by omega, Int.tdiv_eq_ediv_of_nonneg (by omega), show 4 * v / 4 = v by omega, w64 (n := v) (by omega), frame_yes h, Option.bind_some, if_pos rfl, if_pos rfl, if_pos rfl]
def fw (a1 a2 : Int) : Nat := Math.cw 1335 10 (8 * Ev.lev a1 + a2.toNat) ^^^ 21522
theorem sign_val {v : Int} (h : 1 ≤ v ∧ v ≤ 40) (l : List Bool) (hl : (l.length : Int) = (17 + 4 * v) * (17 + 4 * v)) (a1 a2 : Int) (k : Nat) (hk : 100000 ≤ k) :
    qrlayout_Sign.f k (17 + 4 * v) (17 + 4 * v) l a1 a2 = if a1 < 1 ∨ 4 < a1 then some (0, 0, [], 15) else if a2 < 0 ∨ 7 < a2 then some (0, 0, [], 3) else some (17 + 4 * v, 17 + 4 * v, signT v (17 + 4 * v) (fw a1 a2 : Int) (Ev.ver v).1 l, 0) := by
  have hs := sized_yes h l hl
  have hdk := hl
  obtain ⟨s, hS⟩ : ∃ s, 17 + 4 * v = s := ⟨_, rfl⟩
  rw [hS] at hdk ⊢
  have h0 : 21 ≤ s := by omega
  have h3 : s ≤ 177 := by omega
  have e5 : s * s ≤ 177 * 177 := Int.mul_le_mul h3 h3 (by omega) (by omega)
  rw [hS] at hs
  unfold qrlayout_Sign.f
  rw [hs, Option.bind_some, if_pos rfl, Ev.Format_nat a1 a2 k (by omega), Option.bind_some]
  unfold Ev.fmt
  by_cases c1 : a1 < 1 ∨ 4 < a1
  · rw [if_pos c1, if_pos c1]; rfl
  · rw [if_neg c1, if_neg c1]
    by_cases c2 : a2 < 0 ∨ 7 < a2
    · rw [if_pos c2, if_pos c2]; rfl
    · rw [if_neg c2, if_neg c2, if_pos rfl, clone_eq _ _ _ (by omega), Ev.Version_nat v k (by omega), format_eq _ _ _ k (by omega)]
      simp only [Option.bind_some]
      show _ = some (s, s, signT v s (fw a1 a2 : Int) (Ev.ver v).1 l, 0)
      have hwF : ((Math.cw 1335 10 (8 * Ev.lev a1 + a2.toNat) ^^^ 21522 : Nat) : Int) = (fw a1 a2 : Int) := rfl
      rw [hwF]
      generalize ((fw a1 a2 : Nat) : Int) = wF
      rw [write_eq h0 h3 s _ (ptsF s 0 15) (F_in h0 h3 0) (by rw [ptsF_len]; omega) l hdk k (by omega), Option.bind_some, write_eq h0 h3 s _ (ptsF s 1 15) (F_in h0 h3 1) (by rw [ptsF_len]; omega) _ (by rw [setAll_len]; exact hdk) k (by omega), Option.bind_some]
      by_cases c7 : v ≥ 7
      · rw [if_pos ((ver_yes h).2 c7), info_eq s v _ h0 h3 k (by omega), Option.bind_some, write_eq h0 h3 s _ (ptsV s 0 18) (V_in (by omega) h3 0) (by rw [ptsV_len]; omega) _ (by rw [setAll_len, setAll_len]; exact hdk) k (by omega), Option.bind_some, write_eq h0 h3 s _ (ptsV s 1 18) (V_in (by omega) h3 1) (by rw [ptsV_len]; omega) _ (by rw [setAll_len, setAll_len, setAll_len]; exact hdk) k (by omega), Option.bind_some]
        unfold signT
        dsimp only
        rw [if_pos c7]
      · rw [if_neg (fun hh => c7 ((ver_yes h).1 hh))]
        unfold signT
        dsimp only
        rw [if_neg c7]
theorem read_val {v : Int} (h : 1 ≤ v ∧ v ≤ 40) (l : List Bool) (hl : (l.length : Int) = (17 + 4 * v) * (17 + 4 * v)) (k : Nat) (hk : 10000 ≤ k)
    (ha : 7 ≤ v → agreeT v (pV (wordT (17 + 4 * v) l (ptsV (17 + 4 * v) 0 18))) (pV (wordT (17 + 4 * v) l (ptsV (17 + 4 * v) 1 18))) = 0) :
    qrlayout_Read.f k (17 + 4 * v) (17 + 4 * v) l = some (fmt2 v (pF (wordT (17 + 4 * v) l (ptsF (17 + 4 * v) 0 15))) (pF (wordT (17 + 4 * v) l (ptsF (17 + 4 * v) 1 15)))) := by
  have hs := sized_yes h l hl
  unfold qrlayout_Read.f
  rw [hs, Option.bind_some]
  simp only [if_true]
  have hR := rest_eq h (17 + 4 * v) l hl k (by omega) (alg v)
  by_cases c7 : v ≥ 7
  · have hC := confirm_eq ⟨c7, h.2⟩ (17 + 4 * v) l hl k (by omega) (alg v)
    rw [ha c7] at hC
    rw [if_pos c7, hC, Option.bind_some]
    simp only [if_true]
    exact hR
  · rw [if_neg c7]
    exact hR

theorem pV_near {v : Int} (h : 7 ≤ v ∧ v ≤ 40) (f : Nat) (hf : Math.wt f ≤ 3) : ∃ d, pV (Math.cw 7973 12 v.toNat ^^^ f) = (v, d, 0) := by
  unfold pV
  have hx : v.toNat < 2 ^ 6 := by omega
  rw [Ev.hit_changed (kk := 6) v.toNat f 3 7 hx Ev.minV' (by decide) hf]
  unfold Ev.pver
  dsimp only
  rw [if_neg (by omega), Int.toNat_of_nonneg (by omega)]
  exact ⟨_, rfl⟩
theorem pF_near {a1 a2 : Int} (h1 : 1 ≤ a1 ∧ a1 ≤ 4) (h2 : 0 ≤ a2 ∧ a2 ≤ 7) (f : Nat) (hf : Math.wt f ≤ 3) : ∃ d, pF (fw a1 a2 ^^^ f) = (a1, a2, d, 0) := by
  unfold pF fw
  have hlv := Ev.lev_lt a1
  have hx : 8 * Ev.lev a1 + a2.toNat < 2 ^ 5 := by omega
  have e : (Math.cw 1335 10 (8 * Ev.lev a1 + a2.toNat) ^^^ 21522 ^^^ f) ^^^ 21522 = Math.cw 1335 10 (8 * Ev.lev a1 + a2.toNat) ^^^ f := by
    rw [Nat.xor_assoc, Nat.xor_assoc, Nat.xor_comm f 21522, ← Nat.xor_assoc 21522 21522 f, Nat.xor_self, Nat.zero_xor]
  rw [e, Ev.hit_changed (kk := 5) _ f 3 7 hx Ev.minF' (by decide) hf]
  unfold Ev.pfmt
  have e1 : (8 * Ev.lev a1 + a2.toNat) / 8 = Ev.lev a1 := by omega
  have e2 : (8 * Ev.lev a1 + a2.toNat) % 8 = a2.toNat := by omega
  dsimp only
  rw [e1, e2, Ev.lvl_lev a1 h1.1 h1.2, Int.toNat_of_nonneg h2.1]
  exact ⟨_, rfl⟩
def InvR (v s : Int) (N : Nat) (d2 : List Bool) (n : Nat → Int) (S D : List Bool) : Prop :=
  S.length = N ∧ D.length = N ∧ (∀ g, g < 4 → 0 ≤ n g ∧ n g ≤ 3) ∧ (∀ j, j < N → D.getD j false = (d2.getD j false ^^ S.getD j false)) ∧
  ∀ g, g < 4 → (g < 2 ∨ 7 ≤ v) → (cb (fun i => S.getD (idx s (pt s g i)) false) 0 (lenG g) : Int) ≤ n g
theorem inv_hit {v s : Int} (h : 1 ≤ v ∧ v ≤ 40) (hs : s = 17 + 4 * v) {N : Nat} (hN : (N : Int) = s * s) (d2 : List Bool) (i : Nat) {g i0 : Nat} (hg : g < 4) (h2 : g < 2 ∨ 7 ≤ v) (hi : i0 < lenG g) (J : Int) (hJ : J.toNat = idx s (pt s g i0)) :
    Hit (fun _ => InvR v s N d2) i g J := by
  have h0 : 21 ≤ s := by omega
  have h1 : s ≤ 177 := by omega
  have hin : idx s (pt s g i0) < N := by
    have := idx_lt (pt_in h0 h1 (g := g) (i := i0) (by omega) hi) (by omega) h1
    unfold idx
    omega
  rintro n S D ⟨hS, hD, hb, hx, hc⟩
  refine ⟨fun hn hf => ?_, fun _ => ⟨hS, hD, hb, hx, hc⟩⟩
  have hf' : S.getD (idx s (pt s g i0)) false = false := by rw [← hJ]; exact hf
  have hd' : rdOf false D J = D.getD (idx s (pt s g i0)) false := by rw [← hJ]; rfl
  rw [hJ, hd']
  refine ⟨by rw [List.length_set]; exact hS, by rw [List.length_set]; exact hD, ?_, ?_, ?_⟩
  · intro g' hg'
    have := hb g' hg'
    unfold bump
    split
    · rename_i e
      subst e
      omega
    · exact this
  · intro j hj
    rw [getD_set _ _ _ _ (by omega), getD_set _ _ _ _ (by omega)]
    by_cases e : idx s (pt s g i0) = j
    · subst e
      rw [if_pos rfl, if_pos rfl, hx _ hin, hf']
      simp
    · rw [if_neg e, if_neg e]
      exact hx j hj
  · intro g' hg' hv'
    have hcc := hc g' hg' hv'
    unfold bump
    by_cases e : g' = g
    · subst e
      rw [if_pos rfl]
      have := cb_one (f := fun i => S.getD (idx s (pt s g' i)) false) (g := fun i => (S.set (idx s (pt s g' i0)) true).getD (idx s (pt s g' i)) false) i0 (lenG g') 0 (fun j _ hj hne => by
        try dsimp only
        rw [getD_set _ _ _ _ (by omega), if_neg (idx_apart h0 h1 hg hg (by omega) (by omega) hi (by omega) (by omega))])
      omega
    · rw [if_neg e]
      have := cb_congr (f := fun i => S.getD (idx s (pt s g' i)) false) (g := fun i => (S.set (idx s (pt s g i0)) true).getD (idx s (pt s g' i)) false) (lenG g') 0 (fun j _ hj => by
        try dsimp only
        rw [getD_set _ _ _ _ (by omega), if_neg (idx_apart h0 h1 hg hg' (by omega) (by omega) hi (by omega) (by omega))])
      omega
theorem and_one (x : Int) : Go.bits .and .i64 x 1 = 0 ∨ Go.bits .and .i64 x 1 = 1 := by
  have e : Go.bits .and .i64 x 1 = IntKind.i64.wrap ((BitVec.ofInt 64 x &&& BitVec.ofInt 64 1).toNat : Int) := rfl
  have h1 : (BitVec.ofInt 64 x &&& BitVec.ofInt 64 1).toNat = (BitVec.ofInt 64 x).toNat % 2 := by
    rw [BitVec.toNat_and, show (BitVec.ofInt 64 1).toNat = 1 from rfl, Nat.and_one_is_mod]
  rw [e, h1]
  rcases Nat.mod_two_eq_zero_or_one (BitVec.ofInt 64 x).toNat with hh | hh
  · left; rw [hh]; rfl
  · right; rw [hh]; rfl
theorem spotted {v s : Int} (h : 1 ≤ v ∧ v ≤ 40) (hs : s = 17 + 4 * v) {N : Nat} (hN : (N : Int) = s * s) (d2 : List Bool) (k i : Nat) (hk : 1 ≤ k) (q : S43) : Spotted k (fun _ => InvR v s N d2) v s N i q := by
  have h0 : 21 ≤ s := by omega
  have h1 : s ≤ 177 := by omega
  obtain ⟨q0, q1, q2⟩ := q
  have P : ∀ g i0, g < 4 → (g < 2 ∨ 7 ≤ v) → i0 < lenG g → ((pt s g i0).f1 * s + (pt s g i0).f0 = (pt s g i0).f1 * s + (pt s g i0).f0 ∧ 0 ≤ (pt s g i0).f1 * s + (pt s g i0).f0 ∧ (pt s g i0).f1 * s + (pt s g i0).f0 < (N : Int) ∧ 0 ≤ (pt s g i0).f1 * s ∧ (pt s g i0).f1 * s ≤ 40000) ∧ Hit (fun _ => InvR v s N d2) i g ((pt s g i0).f1 * s + (pt s g i0).f0) := fun g i0 a b c => by
    have := idx_lt (pt_in h0 h1 (g := g) (i := i0) (by omega) c) (by omega) h1
    exact ⟨⟨rfl, by omega, by omega, by omega, by omega⟩, inv_hit h hs hN d2 i a b c _ rfl⟩
  refine ⟨_, and_one q0, rfl, ?_⟩
  have hcc := and_one q0
  generalize Go.bits .and .i64 q0 1 = cc at hcc
  obtain ⟨c, rfl⟩ : ∃ c : Nat, cc = (c : Int) := by
    rcases hcc with rfl | rfl
    · exact ⟨0, rfl⟩
    · exact ⟨1, rfl⟩
  have hc : c < 2 := by omega
  dsimp only
  cases q2 with
  | true =>
    by_cases hq : 7 ≤ v ∧ 0 ≤ q1 ∧ q1 < 18
    · right
      obtain ⟨a, b, d⟩ := hq
      obtain ⟨n, rfl⟩ := Int.eq_ofNat_of_zero_le b
      obtain ⟨p1, p2⟩ := P (c + 2) n (by omega) (by omega) (by unfold lenG; rw [if_neg (by omega)]; omega)
      have e : pt s (c + 2) n = vpt s c n := by unfold pt; rw [if_neg (by omega), Nat.add_sub_cancel]
      refine ⟨_, _, _, p1, .inl ⟨rfl, a, b, d, ?_, ?_⟩⟩
      · rw [e]; exact versionAt_eq h0 h1 c n hc (by omega)
      · rw [show ((c : Int) + 2).toNat = c + 2 by omega]; exact p2
    · left
      refine ⟨.inl ⟨rfl, by omega⟩, fun n S D hI => hI⟩
  | false =>
    by_cases hq : 0 ≤ q1 ∧ q1 < 15
    · right
      obtain ⟨b, d⟩ := hq
      obtain ⟨n, rfl⟩ := Int.eq_ofNat_of_zero_le b
      obtain ⟨p1, p2⟩ := P c n (by omega) (by omega) (by unfold lenG; rw [if_pos (by omega)]; omega)
      have e : pt s c n = fpt s c n := by unfold pt; rw [if_pos (by omega)]
      refine ⟨_, _, _, p1, .inr ⟨rfl, b, d, ?_, ?_⟩⟩
      · rw [e]; exact formatAt_eq h0 h1 c n hc (by omega) k hk
      · rw [Int.toNat_natCast]; exact p2
    · left
      refine ⟨.inr ⟨rfl, by omega⟩, fun n S D hI => hI⟩
end Go.Proofs.Ytbbnagjfjgkgjaa.Pure

/- Level and mask are read though bits are changed: the law's walk at every argument. -/
namespace Go.Proofs.Ytbbnagjfjgkgjaa.Pure
open Go.RowKit Go.Proofs.Ytbbnagjfjgkgjaa.L Go.Proofs.YtbbnagjfjgkgjaaW.PrintWords Go.Proofs.YtbbnagjfjgkgjaaW.PrintLast Go.Proofs.YtbbnagjfjgkgjaaW.PrintMore
set_option linter.unusedVariables false
set_option linter.unusedSimpArgs false

theorem repl_getD (n j : Nat) : (List.replicate n false).getD j false = false := by
  rw [List.getD_eq_getElem?_getD, List.getElem?_replicate]
  split <;> rfl
theorem fw_lt (a1 a2 : Int) (h2 : 0 ≤ a2 ∧ a2 ≤ 7) : fw a1 a2 < 2 ^ 15 := by
  have hlv := Ev.lev_lt a1
  exact Nat.xor_lt_two_pow (Math.cw_lt 1335 10 5 _ (by decide) (by decide) (by decide) (by omega)) (by decide)
theorem word_near {v s : Int} (h : 1 ≤ v ∧ v ≤ 40) (hs : s = 17 + 4 * v) {N : Nat} (hN : (N : Int) = s * s) (wF wV : Nat) (hF : wF < 2 ^ 15) (hV : wV < 2 ^ 18) (d1 : List Bool) (hd1 : (d1.length : Int) = s * s) {n : Nat → Int} {S D : List Bool}
    (hI : InvR v s N (signT v s wF wV d1) n S D) {g : Nat} (hg : g < 4) (h2 : g < 2 ∨ 7 ≤ v) : ∃ f, Math.wt f ≤ 3 ∧ wordT s D (ptsG s g) = (if g < 2 then wF else wV) ^^^ f := by
  have h0 : 21 ≤ s := by omega
  have h1 : s ≤ 177 := by omega
  obtain ⟨hS, hD, hb, hx, hc⟩ := hI
  have hl : lenG g ≤ 18 := by unfold lenG; split <;> omega
  refine ⟨up (fun i => S.getD (idx s (pt s g i)) false) 0 (lenG g), ?_, ?_⟩
  · have a := wt_up (fun i => S.getD (idx s (pt s g i)) false) (lenG g) 0 (by omega)
    have b := hc g hg h2
    have c := (hb g hg).2
    omega
  · rw [wordG]
    have e : up (fun i => D.getD (idx s (pt s g i)) false) 0 (lenG g) = up (fun i => (if g < 2 then wF else wV).testBit i ^^ S.getD (idx s (pt s g i)) false) 0 (lenG g) := by
      refine up_congr _ _ (fun j _ hj => ?_)
      have hin : idx s (pt s g j) < N := by
        have := idx_lt (pt_in h0 h1 (g := g) (i := j) (by omega) (by omega)) (by omega) h1
        unfold idx
        omega
      have hsb := sign_bit h hs (wF : Int) (wV : Int) d1 hd1 hg h2 (i := j) (by omega)
      try dsimp only
      rw [hx _ hin, hsb]
      by_cases hgg : g < 2
      · rw [if_pos hgg, if_pos hgg, bitv_nat _ _ (by omega) (by omega)]
      · rw [if_neg hgg, if_neg hgg, bitv_nat _ _ (by omega) (by omega)]
    rw [e, up_xor, up_word, Nat.pow_zero, Nat.div_one, Nat.mod_eq_of_lt]
    unfold lenG
    split
    · exact hF
    · exact hV
theorem fmt2_both {v a1 a2 d e : Int} : fmt2 v (a1, a2, d, 0) (a1, a2, e, 0) = (v, a1, a2, 0) := by
  unfold fmt2
  dsimp only
  rw [if_pos rfl, if_pos rfl]
  split <;> rfl
theorem agreeT_both {v d e : Int} : agreeT v (v, d, 0) (v, e, 0) = 0 := by
  unfold agreeT pick2
  dsimp only
  rw [if_pos rfl, if_pos rfl]
  split <;> simp
theorem reads_walk (x0 x1 x2 : Int) (A : Option Addr) (c : Nat) (L : List S43) (w : World) (hL : Kd.C k43 w A L.length L) :
    Calls Try.prog 5 #[.agg #[.int .i64 x0, .int .i64 x1, .int .i64 x2], .slice A L.length c] w fun e w' => e = .returned (.bool true) ∧ Below w.heap.size w w' := by
  by_cases h : 1 ≤ x0 ∧ x0 ≤ 40
  · by_cases hn : L.length ≤ 50
    · have hB := refblank_yes h 1000000 (by omega)
      have hlen := gridB_len x0 (sd x0 * sd x0)
      obtain ⟨d1, hd1⟩ : ∃ d1, gridB x0 (sd x0 * sd x0) = d1 := ⟨_, rfl⟩
      rw [hd1] at hB hlen
      have hsd := sd_eq h
      have hdl : (d1.length : Int) = (17 + 4 * x0) * (17 + 4 * x0) := by rw [hlen, Int.natCast_mul, hsd]
      have hS := sign_val h d1 hdl x1 x2 1000000 (by omega)
      by_cases c1 : x1 < 1 ∨ 4 < x1
      · rw [if_pos c1] at hS
        exact law5_bad 1000000 x0 x1 x2 A L.length c _ _ 15 _ _ _ _ w hB hS hn (by decide) (by omega)
      · rw [if_neg c1] at hS
        by_cases c2 : x2 < 0 ∨ 7 < x2
        · rw [if_pos c2] at hS
          exact law5_bad 1000000 x0 x1 x2 A L.length c _ _ 3 _ _ _ _ w hB hS hn (by decide) (by omega)
        · rw [if_neg c2] at hS
          obtain ⟨s, hs⟩ : ∃ s, 17 + 4 * x0 = s := ⟨_, rfl⟩
          obtain ⟨wV, hV, hwV, hlV⟩ : ∃ wV : Nat, (Ev.ver x0).1 = (wV : Int) ∧ (7 ≤ x0 → wV = Math.cw 7973 12 x0.toNat) ∧ wV < 2 ^ 18 := by
            unfold Ev.ver
            by_cases c7 : x0 < 7 ∨ 40 < x0
            · exact ⟨0, by rw [if_pos c7]; rfl, by omega, by decide⟩
            · exact ⟨_, by rw [if_neg c7], fun _ => rfl, Math.cw_lt 7973 12 6 _ (by decide) (by decide) (by decide) (by omega)⟩
          rw [hV] at hS
          rw [hs] at hB hS hdl
          have hN : ((sd x0 * sd x0 : Nat) : Int) = s * s := by rw [Int.natCast_mul, hsd, hs]
          have hsb : 21 ≤ s ∧ s ≤ 177 := by omega
          have hNb : s * s ≤ 177 * 177 := Int.mul_le_mul hsb.2 hsb.2 (by omega) (by omega)
          have hN0 : 21 * 21 ≤ s * s := Int.mul_le_mul hsb.1 hsb.1 (by omega) (by omega)
          refine law5_main 1000000 x0 x1 x2 s s (sd x0 * sd x0) A c L d1 (signT x0 s (fw x1 x2 : Int) wV d1) w hL hn hB hS hlen (by rw [signT_len]; exact hlen) ⟨by omega, by omega⟩ ⟨by omega, by omega⟩
            (fun _ => InvR x0 s (sd x0 * sd x0) (signT x0 s (fw x1 x2 : Int) wV d1)) ?_ (fun i n S D hI => ⟨hI.1, hI.2.1, hI.2.2.1⟩) (fun i hi => spotted h hs.symm hN _ 1000000 i (by omega) _) (fun n S D hI => ?_)
          · refine ⟨by simp, by rw [signT_len]; exact hlen, fun g hg => by simp, fun j hj => ?_, fun g hg hv => ?_⟩
            · rw [repl_getD, Bool.xor_false]
            · have : (fun i => (List.replicate (sd x0 * sd x0) false).getD (idx s (pt s g i)) false) = fun _ => false := by
                funext i
                exact repl_getD _ _
              rw [this, cb_zero]
              exact Int.le_refl _
          · have W := fun g hg h2 => word_near h hs.symm hN (fw x1 x2) wV (fw_lt x1 x2 ⟨by omega, by omega⟩) hlV d1 hdl hI (g := g) hg h2
            have hDl : (D.length : Int) = (17 + 4 * x0) * (17 + 4 * x0) := by rw [hI.2.1, hN, hs]
            have hR := read_val h D hDl 1000000 (by omega) (fun c7 => by
              obtain ⟨f2, hf2, e2⟩ := W 2 (by decide) (.inr c7)
              obtain ⟨f3, hf3, e3⟩ := W 3 (by decide) (.inr c7)
              have e2 : wordT s D (ptsV s 0 18) = wV ^^^ f2 := e2
              have e3 : wordT s D (ptsV s 1 18) = wV ^^^ f3 := e3
              rw [hs, e2, e3, hwV c7]
              obtain ⟨d, hd⟩ := pV_near ⟨c7, h.2⟩ f2 hf2
              obtain ⟨d', hd'⟩ := pV_near ⟨c7, h.2⟩ f3 hf3
              rw [hd, hd', agreeT_both])
            obtain ⟨f0, hf0, e0⟩ := W 0 (by decide) (.inl (by decide))
            obtain ⟨f1, hf1, e1⟩ := W 1 (by decide) (.inl (by decide))
            have e0 : wordT s D (ptsF s 0 15) = fw x1 x2 ^^^ f0 := e0
            have e1 : wordT s D (ptsF s 1 15) = fw x1 x2 ^^^ f1 := e1
            obtain ⟨d, hd⟩ := pF_near (a1 := x1) (a2 := x2) (by omega) (by omega) f0 hf0
            obtain ⟨d', hd'⟩ := pF_near (a1 := x1) (a2 := x2) (by omega) (by omega) f1 hf1
            rw [hs, e0, e1, hd, hd', fmt2_both] at hR
            exact hR
    · exact law5_many 1000000 x0 x1 x2 A L.length c _ _ _ w (refblank_yes h 1000000 (by omega)) (by omega)
  · exact law5_no 1000000 x0 x1 x2 A L.length c _ _ 14 _ w (refblank_no h 1000000) (by decide)
end Go.Proofs.Ytbbnagjfjgkgjaa.Pure
