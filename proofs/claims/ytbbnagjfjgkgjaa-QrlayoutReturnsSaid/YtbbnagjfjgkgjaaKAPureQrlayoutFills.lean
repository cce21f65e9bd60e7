/- Bits and words of eight bits: both sides. -/
import Derived.Test.YtbbnagjfjgkgjaaKAPsz
import Derived.Test.YtbbnagjfjgkgjaaKALg6
import Derived.Test.YtbbnagjfjgkgjaaKACop
import Derived.Test.YtbbnagjfjgkgjaaKALg0
import Derived.Test.YtbbnagjfjgkgjaaKALg3
import Derived.Test.YtbbnagjfjgkgjaaKALs9
namespace Go.Proofs.Ytbbnagjfjgkgjaa.Pure
open Go.RowKit Go.Proofs.Ytbbnagjfjgkgjaa.L Go.Proofs.YtbbnagjfjgkgjaaW.PrintWords Go.Proofs.YtbbnagjfjgkgjaaW.PrintLast Go.Proofs.YtbbnagjfjgkgjaaW.PrintMore
set_option linter.unusedVariables false
set_option linter.unusedSimpArgs false

def vq (b : List Bool) (q : Nat) : Nat → Nat
  | 0 => 0
  | i + 1 => 2 * vq b q i + (if b.getD (8 * q + i) false = true then 1 else 0)
theorem vq_lt (b : List Bool) (q : Nat) : ∀ i, vq b q i < 2 ^ i
  | 0 => by simp [vq]
  | i + 1 => by
    have := vq_lt b q i
    rw [vq, Nat.pow_succ]
    split <;> omega
theorem vq_le (b : List Bool) (q i : Nat) (hi : i ≤ 8) : vq b q i ≤ 255 := by
  have h1 := vq_lt b q i
  have h2 : 2 ^ i ≤ 2 ^ 8 := Nat.pow_le_pow_right (by decide) hi
  omega
theorem value_l0 (b ch : List Bool) (q : Nat) (hl : ch.length = 8) (hch : ∀ i, i < 8 → ch.getD i false = b.getD (8 * q + i) false) : ∀ (d k i : Nat), i + d = 8 → bits_value.l0 (k + d + 1) (vq b q i : Int) ch 8 (i : Int) = some (vq b q 8 : Int)
  | 0, k, i, hi => by
    have : i = 8 := by omega
    subst this
    rw [bits_value.l0, if_neg (by omega)]
  | d + 1, k, i, hi => by
    have ih := value_l0 b ch q hl hch d k (i + 1) (by omega)
    have hv := vq_le b q i (by omega)
    have hb : rdOf false ch (i : Int) = b.getD (8 * q + i) false := by rw [← hch i (by omega)]; rfl
    rw [show k + (d + 1) + 1 = (k + d + 1) + 1 by omega, bits_value.l0, if_pos (by omega), if_pos (by omega), if_pos (by omega), hb, w64 (n := (vq b q i : Int) * 2) (by omega), w64 (n := (vq b q i : Int) * 2 + 1) (by omega), w64 (n := (i : Int) + 1) (by omega)]
    rw [vq] at ih
    split
    · rename_i hh
      rw [if_pos hh] at ih
      rw [show (vq b q i : Int) * 2 + 1 = ((2 * vq b q i + 1 : Nat) : Int) by omega]
      exact ih
    · rename_i hh
      rw [if_neg hh] at ih
      rw [show (vq b q i : Int) * 2 = ((2 * vq b q i + 0 : Nat) : Int) by omega]
      exact ih
theorem value_eq (b : List Bool) (q : Nat) (hq : 8 * q + 8 ≤ b.length) (k : Nat) (hk : 9 ≤ k) : bits_value.f k ((b.drop (8 * q)).take 8) = some (vq b q 8 : Int) := by
  have hl : ((b.drop (8 * q)).take 8).length = 8 := by simp; omega
  have := value_l0 b ((b.drop (8 * q)).take 8) q hl (fun i hi => by
    rw [List.getD_eq_getElem?_getD, List.getD_eq_getElem?_getD, List.getElem?_take, if_pos hi, List.getElem?_drop]) 8 (k - 9) 0 (by omega)
  rw [show k - 9 + 8 + 1 = k by omega] at this
  unfold bits_value.f
  rw [hl]
  exact this
theorem rwords_l1 (b : List Bool) (hb : b.length ≤ 40000) (acc : List Int) (hacc : acc.length ≤ 40000) (q : Nat) (hq : 8 * q + 8 ≤ b.length) : ∀ (d k i : Nat), i + d = 8 →
    barscanref01_Words.l1 (k + d + 1) b 8 false acc ((8 * q : Nat) : Int) (vq b q i : Int) ((8 * q + i : Nat) : Int) = barscanref01_Words.l0 k b 8 false (acc ++ [(vq b q 8 : Int)]) ((8 * (q + 1) : Nat) : Int)
  | 0, k, i, hi => by
    have : i = 8 := by omega
    subst this
    rw [barscanref01_Words.l1, w64 (n := ((8 * q : Nat) : Int) + 8) (by omega), if_neg (by omega), if_pos (by omega), show ((8 * q : Nat) : Int) + 8 = ((8 * (q + 1) : Nat) : Int) by omega]
  | d + 1, k, i, hi => by
    have ih := rwords_l1 b hb acc hacc q hq d k (i + 1) (by omega)
    have hv := vq_le b q i (by omega)
    have hbt : rdOf false b ((8 * q + i : Nat) : Int) = b.getD (8 * q + i) false := rfl
    rw [show k + (d + 1) + 1 = (k + d + 1) + 1 by omega, barscanref01_Words.l1, w64 (n := ((8 * q : Nat) : Int) + 8) (by omega), if_pos (by omega), if_pos (by omega), if_pos (by omega), hbt, w64 (n := 2 * (vq b q i : Int)) (by omega), w64 (n := 2 * (vq b q i : Int) + 1) (by omega), w64 (n := ((8 * q + i : Nat) : Int) + 1) (by omega), show ((8 * q + i : Nat) : Int) + 1 = ((8 * q + (i + 1) : Nat) : Int) by omega]
    rw [vq] at ih
    split
    · rename_i hh
      rw [if_pos hh] at ih
      rw [show 2 * (vq b q i : Int) + 1 = ((2 * vq b q i + 1 : Nat) : Int) by omega]
      exact ih
    · rename_i hh
      rw [if_neg hh] at ih
      rw [if_neg (by omega), show 2 * (vq b q i : Int) = ((2 * vq b q i + 0 : Nat) : Int) by omega]
      exact ih
theorem rwords_l0 (b : List Bool) (n : Nat) (hn : b.length = 8 * n) (hb : b.length ≤ 40000) : ∀ (d k q : Nat), q + d = n →
    barscanref01_Words.l0 (k + 10 * d + 1) b 8 false ((List.range q).map fun x => (vq b x 8 : Int)) ((8 * q : Nat) : Int) = some ((List.range n).map fun x => (vq b x 8 : Int), 0)
  | 0, k, q, hq => by
    have : q = n := by omega
    subst this
    rw [barscanref01_Words.l0, if_neg (by omega)]
  | d + 1, k, q, hq => by
    have ih := rwords_l0 b n hn hb d k (q + 1) (by omega)
    have hl := rwords_l1 b hb ((List.range q).map fun x => (vq b x 8 : Int)) (by simp; omega) q (by omega) 8 (k + 10 * d + 1) 0 (by omega)
    rw [show k + 10 * (d + 1) + 1 = (k + 10 * d + 1 + 8 + 1) + 1 by omega, barscanref01_Words.l0, if_pos (by omega)]
    refine hl.trans ?_
    rw [List.range_succ, List.map_append] at ih
    exact ih
theorem rwords_eq (b : List Bool) (n : Nat) (hn : b.length = 8 * n) (hb : b.length ≤ 40000) (k : Nat) (hk : 60000 ≤ k) : barscanref01_Words.f k b 8 false = some ((List.range n).map fun x => (vq b x 8 : Int), 0) := by
  have := rwords_l0 b n hn hb n (k - 1 - 10 * n - 1) 0 (by omega)
  rw [show k - 1 - 10 * n - 1 + 10 * n + 1 = k - 1 by omega] at this
  unfold barscanref01_Words.f
  rw [if_neg (by decide), show decide ((8 : Int) > 62) = false from rfl, show k = (k - 1) + 1 by omega, barscanref01_Words.j0, if_neg (by decide)]
  exact this
theorem u64_w {x : Int} (h : 0 ≤ x ∧ x ≤ 100000) : IntKind.u64.wrap x = x := by
  rw [IntKind.wrap_u64]
  omega
theorem fromw_l1 (ws : List Int) (hw : ws.length ≤ 4000) (i : Nat) (hi : i < ws.length) (acc : List Bool) (hacc : acc.length ≤ 100000) : ∀ (d k t : Nat), t + d = 8 →
    barscanref01_FromWords.l1 (k + d + 1) ws 8 (acc ++ wbits (rd ws (i : Int)) t) (i : Int) (7 - (t : Int)) = barscanref01_FromWords.l0 k ws 8 (acc ++ wbits (rd ws (i : Int)) 8) (((i + 1 : Nat)) : Int)
  | 0, k, t, ht => by
    have : t = 8 := by omega
    subst this
    rw [barscanref01_FromWords.l1, if_neg (by omega), w64 (n := (i : Int) + 1) (by omega), show (i : Int) + 1 = ((i + 1 : Nat) : Int) by omega]
  | d + 1, k, t, ht => by
    have ih := fromw_l1 ws hw i hi acc hacc d k (t + 1) (by omega)
    have hln : (acc ++ wbits (rd ws (i : Int)) t).length < 140737488355328 := by simp [wbits]; omega
    rw [show k + (d + 1) + 1 = (k + d + 1) + 1 by omega, barscanref01_FromWords.l1, if_pos (by omega), if_pos (by omega), if_pos (by omega), u64_w (x := 7 - (t : Int)) (by omega), if_pos (by omega), if_pos hln, w64 (n := 7 - (t : Int) - 1) (by omega), show 7 - (t : Int) - 1 = 7 - ((t + 1 : Nat) : Int) by omega, ← ih, wbits_succ, List.append_assoc]
    rfl
theorem shl8 : wrap64 (shl .i64 1 8 - 1) = 255 := by decide +kernel
theorem fromw_l0 (ws : List Int) (hw : ws.length ≤ 4000) (m : Nat) (hm : m ≤ ws.length) (hgood : ∀ i, i < m → 0 ≤ rd ws (i : Int) ∧ rd ws (i : Int) / 256 = 0) (hbad : m < ws.length → rd ws (m : Int) < 0 ∨ (0 ≤ rd ws (m : Int) ∧ rd ws (m : Int) / 256 ≠ 0)) : ∀ (d k i : Nat), i + d = m →
    barscanref01_FromWords.l0 (k + 12 * d + 3) ws 8 (wordBits (ws.take i)) (i : Int) = some (if m = ws.length then wordBits ws else [], if m = ws.length then 0 else 3)
  | 0, k, i, hi => by
    have : i = m := by omega
    subst this
    by_cases hml : i = ws.length
    · rw [show k + 12 * 0 + 3 = (k + 2) + 1 by omega, barscanref01_FromWords.l0, if_neg (by omega), if_pos hml, if_pos hml, hml, List.take_length]
    · rw [if_neg hml, if_neg hml, show k + 12 * 0 + 3 = (k + 1 + 1) + 1 by omega, barscanref01_FromWords.l0, if_pos (by omega), if_pos (by omega)]
      rcases hbad (by omega) with hb | ⟨hb0, hb1⟩
      · rw [if_pos hb, barscanref01_FromWords.j2, if_pos rfl]
      · rw [if_neg (by omega), u64_w (x := 8) (by omega), if_pos (by decide), shl8, decide_eq_true (by omega), barscanref01_FromWords.j2, if_pos rfl]
  | d + 1, k, i, hi => by
    have ih := fromw_l0 ws hw m hm hgood hbad d (k + 1) (i + 1) (by omega)
    obtain ⟨g0, g1⟩ := hgood i (by omega)
    have hbl : (wordBits (ws.take i)).length ≤ 100000 := by rw [wordBits_len]; simp; omega
    have hl := fromw_l1 ws hw i (by omega) (wordBits (ws.take i)) hbl 8 (k + 1 + 12 * d + 3) 0 (by omega)
    rw [show k + 12 * (d + 1) + 3 = ((k + 1 + 12 * d + 3 + 8 + 1) + 1) + 1 by omega, barscanref01_FromWords.l0, if_pos (by omega), if_pos (by omega), if_neg (by omega), u64_w (x := 8) (by omega), if_pos (by decide), shl8, decide_eq_false (by omega), barscanref01_FromWords.j2, if_neg (by decide), w64 (n := (8 : Int) - 1) (by decide)]
    have e0 : wordBits (ws.take i) ++ wbits (rd ws (i : Int)) 0 = wordBits (ws.take i) := by simp [wbits]
    rw [e0, show 7 - ((0 : Nat) : Int) = 8 - 1 by decide] at hl
    rw [hl, ← wordBits_snoc ws i (by omega)]
    exact ih
theorem fromw_eq (ws : List Int) (hw : ws.length ≤ 4000) (m : Nat) (hm : m ≤ ws.length) (hgood : ∀ i, i < m → 0 ≤ rd ws (i : Int) ∧ rd ws (i : Int) / 256 = 0) (hbad : m < ws.length → rd ws (m : Int) < 0 ∨ (0 ≤ rd ws (m : Int) ∧ rd ws (m : Int) / 256 ≠ 0)) (k : Nat) (hk : 60000 ≤ k) :
    barscanref01_FromWords.f k ws 8 = some (if m = ws.length then wordBits ws else [], if m = ws.length then 0 else 3) := by
  have := fromw_l0 ws hw m hm hgood hbad m (k - 1 - 12 * m - 3) 0 (by omega)
  rw [show k - 1 - 12 * m - 3 + 12 * m + 3 = k - 1 by omega] at this
  unfold barscanref01_FromWords.f
  rw [if_neg (by decide), show decide ((8 : Int) > 62) = false from rfl, show k = (k - 1) + 1 by omega, barscanref01_FromWords.j0, if_neg (by decide), if_neg (by decide), w64 (n := (1048576 : Int) / 8) (by decide), if_neg (by omega)]
  exact this
theorem first_bad (ws : List Int) : ∃ m, m ≤ ws.length ∧ (∀ i, i < m → 0 ≤ rd ws (i : Int) ∧ rd ws (i : Int) / 256 = 0) ∧ (m < ws.length → rd ws (m : Int) < 0 ∨ (0 ≤ rd ws (m : Int) ∧ rd ws (m : Int) / 256 ≠ 0)) := by
  have key : ∀ d m : Nat, m + d = ws.length → (∀ i, i < m → 0 ≤ rd ws (i : Int) ∧ rd ws (i : Int) / 256 = 0) → ∃ m, m ≤ ws.length ∧ (∀ i, i < m → 0 ≤ rd ws (i : Int) ∧ rd ws (i : Int) / 256 = 0) ∧ (m < ws.length → rd ws (m : Int) < 0 ∨ (0 ≤ rd ws (m : Int) ∧ rd ws (m : Int) / 256 ≠ 0)) := by
    intro d
    induction d with
    | zero => exact fun m hm h => ⟨m, by omega, h, fun h' => by omega⟩
    | succ d ih =>
      intro m hm h
      by_cases hg : 0 ≤ rd ws (m : Int) ∧ rd ws (m : Int) / 256 = 0
      · exact ih (m + 1) (by omega) (fun i hi => by
          by_cases e : i = m
          · subst e; exact hg
          · exact h i (by omega))
      · refine ⟨m, by omega, h, fun _ => ?_⟩
        by_cases h0 : 0 ≤ rd ws (m : Int)
        · exact .inr ⟨h0, fun h1 => hg ⟨h0, h1⟩⟩
        · exact .inl (by omega)
  exact key ws.length 0 (by omega) (fun i hi => by omega)
theorem ints_l0 (a : List Int) (hl : a.length ≤ 1000000) : ∀ (d k i : Nat), i + d = a.length → barscanref01_Ints.l0 (k + d + 1) a a (i : Int) = some true
  | 0, k, i, hi => by rw [barscanref01_Ints.l0, if_neg (by omega)]
  | d + 1, k, i, hi => by
    have ih := ints_l0 a hl d k (i + 1) (by omega)
    rw [show k + (d + 1) + 1 = (k + d + 1) + 1 by omega, barscanref01_Ints.l0, if_pos (by omega), if_pos (by omega), if_pos (by omega), if_pos rfl, w64 (n := (i : Int) + 1) (by omega), show ((i : Int) + 1) = ((i + 1 : Nat) : Int) by omega, ih]
theorem ints_yes (a : List Int) (hl : a.length ≤ 1000000) (k : Nat) (hk : 1000001 ≤ k) : barscanref01_Ints.f k a a = some true := by
  have := ints_l0 a hl a.length (k - a.length - 1) 0 (by omega)
  rw [show k - a.length - 1 + a.length + 1 = k by omega] at this
  unfold barscanref01_Ints.f
  rw [if_pos rfl]
  exact this
end Go.Proofs.Ytbbnagjfjgkgjaa.Pure

/- Fill and Extract and their references: the same. -/
namespace Go.Proofs.Ytbbnagjfjgkgjaa.Pure
open Go.RowKit Go.Proofs.Ytbbnagjfjgkgjaa.L Go.Proofs.YtbbnagjfjgkgjaaW.PrintWords Go.Proofs.YtbbnagjfjgkgjaaW.PrintLast Go.Proofs.YtbbnagjfjgkgjaaW.PrintMore
set_option linter.unusedVariables false
set_option linter.unusedSimpArgs false

theorem rdT_at (l : List S45) (j : Nat) (h : j < l.length) : rd_T45 l (j : Int) = l[j] := by
  simp [rd_T45, List.getD_eq_getElem?_getD, List.getElem?_eq_getElem h]
def inRow (W : Int) (N : Nat) (p : S45) : Prop := (0 ≤ p.f1 * W ∧ p.f1 * W ≤ 40000) ∧ 0 ≤ p.f1 * W + p.f0 ∧ p.f1 * W + p.f0 < (N : Int)
theorem rfill_l0 (W H : Int) (l b : List Bool) (ps : List S45) (hpl : ps.length ≤ 100000) (N : Nat) (hN : N ≤ 40000) (hin : ∀ p ∈ ps, inRow W N p) (W' H' : Int) : ∀ (d k i : Nat) (dk : List Bool), i + d = ps.length → dk.length = N →
    barscanref20_Fill.l0 (k + d + 1) b ps (i : Int) W H l W' H' dk = some (W', H', fillL W b (ps.drop i) i dk, 0)
  | 0, k, i, dk, hi, hdk => by rw [barscanref20_Fill.l0, if_neg (by omega), show i = ps.length by omega, List.drop_length]; rfl
  | d + 1, k, i, dk, hi, hdk => by
    have hlt : i < ps.length := by omega
    obtain ⟨⟨a0, a1⟩, a2, a3⟩ := hin _ (List.getElem_mem hlt)
    have ih := rfill_l0 W H l b ps hpl N hN hin W' H' d k (i + 1) (dk.set (ps[i].f1 * W + ps[i].f0).toNat (b.getD i false)) (by omega) (by rw [List.length_set]; exact hdk)
    rw [show k + (d + 1) + 1 = (k + d + 1) + 1 by omega, barscanref20_Fill.l0, if_pos (by omega), if_pos (by omega), rdT_at ps i hlt, w64 (n := ps[i].f1 * W) (by omega), w64 (n := ps[i].f1 * W + ps[i].f0) (by omega), w64 (n := (i : Int) + 1) (by omega), show ((i : Int) + 1) = ((i + 1 : Nat) : Int) by omega, List.drop_eq_getElem_cons hlt, fillL]
    by_cases hb : (i : Int) < (b.length : Int)
    · rw [if_pos hb, if_pos (by omega), if_pos (by omega)]
      exact ih
    · have hbf : b.getD i false = false := by rw [List.getD_eq_getElem?_getD, List.getElem?_eq_none (by omega)]; rfl
      rw [hbf] at ih ⊢
      rw [if_neg hb, if_pos (by omega), if_pos (by omega)]
      exact ih
theorem rext_l0 (W H : Int) (l : List Bool) (ps : List S45) (hpl : ps.length ≤ 100000) (hl : l.length ≤ 40000) (hin : ∀ p ∈ ps, inRow W l.length p) (n : Nat) (hn : n ≤ 5000) (h8 : 8 * n ≤ ps.length) : ∀ (d k i : Nat), i + d = 8 * n → 60000 ≤ k →
    barscanref20_Extract.l0 (k + d + 1) (n : Int) ps (bitsAt W l (ps.take i)) (i : Int) W H l = some ((List.range n).map fun x => (vq (bitsAt W l (ps.take (8 * n))) x 8 : Int), 0)
  | 0, k, i, hi, hk => by
    have : i = 8 * n := by omega
    subst this
    have hbl : (bitsAt W l (ps.take (8 * n))).length = 8 * n := by simp [bitsAt]; omega
    rw [barscanref20_Extract.l0, w64 (n := 8 * (n : Int)) (by omega), if_neg (by omega), rwords_eq _ n hbl (by omega) k hk]
    rfl
  | d + 1, k, i, hi, hk => by
    have hlt : i < ps.length := by omega
    obtain ⟨⟨a0, a1⟩, a2, a3⟩ := hin _ (List.getElem_mem hlt)
    have ih := rext_l0 W H l ps hpl hl hin n hn h8 d k (i + 1) (by omega) hk
    have hbl : (bitsAt W l (ps.take i)).length < 140737488355328 := by simp [bitsAt]; omega
    have hst : bitsAt W l (ps.take (i + 1)) = bitsAt W l (ps.take i) ++ [rdOf false l (ps[i].f1 * W + ps[i].f0)] := by
      rw [List.take_add_one, List.getElem?_eq_getElem hlt]
      unfold bitsAt
      rw [Option.toList_some, List.map_append]
      rfl
    rw [hst] at ih
    rw [show k + (d + 1) + 1 = (k + d + 1) + 1 by omega, barscanref20_Extract.l0, w64 (n := 8 * (n : Int)) (by omega), if_pos (by omega), if_pos (by omega), if_pos (by omega), rdT_at ps i hlt, w64 (n := ps[i].f1 * W) (by omega), w64 (n := ps[i].f1 * W + ps[i].f0) (by omega), if_pos (by omega), if_pos (by omega), if_pos hbl, w64 (n := (i : Int) + 1) (by omega), show ((i : Int) + 1) = ((i + 1 : Nat) : Int) by omega]
    exact ih
theorem path_parts {v : Int} (h : 1 ≤ v ∧ v ≤ 40) (k : Nat) (hk : 80 ≤ k) : -2 ≤ wrap64 (17 + 4 * v - 1) ∧ allK k v (17 + 4 * v) (alg v) (allL (17 + 4 * v) (wrap64 (17 + 4 * v - 1)).toNat (wrap64 (17 + 4 * v - 1)) true) ∧ ptsT v = dataP k v (17 + 4 * v) (alg v) (allL (17 + 4 * v) (wrap64 (17 + 4 * v - 1)).toNat (wrap64 (17 + 4 * v - 1)) true) ∧ (ptsT v).length ≤ 1000000 := by
  have hp := path_yes h k hk
  unfold qrlayout_Path.f at hp
  rw [frame_yes h, Option.bind_some, if_pos rfl] at hp
  obtain ⟨ps, hps, hp⟩ := Option.bind_eq_some_iff.mp hp
  simp only [Option.some.injEq, Prod.mk.injEq, and_true] at hp
  subst hp
  unfold pathO at hps
  split at hps
  · rename_i hh
    obtain ⟨a, b, c⟩ := hh
    simp only [Option.some.injEq] at hps
    rw [hps] at c
    exact ⟨a, allK_of b, hps.symm, c⟩
  · cases hps
theorem cw_same : ∀ j : Fin 40, barscanref17_Codewords.f 10 ((j.val : Int) + 1) = some (cwN j.val, cwR j.val, 0) ∧ 1 ≤ cwN j.val ∧ cwN j.val ≤ 4000 := by decide +kernel
theorem cw_ref (j : Nat) (hj : j < 40) (k : Nat) (hk : 10 ≤ k) : barscanref17_Codewords.f k ((j : Int) + 1) = some (cwN j, cwR j, 0) :=
  mono_le (fun k => barscanref17_Codewords.mono _ k) hk (cw_same ⟨j, hj⟩).1
theorem cw_path (j : Nat) (hj : j < 40) : 8 * cwN j ≤ ((ptsT ((j : Int) + 1)).length : Int) ∧ 1 ≤ cwN j ∧ cwN j ≤ 4000 := by
  obtain ⟨c1, c2, c3⟩ := cw_same ⟨j, hj⟩
  obtain ⟨n, r, hf, ⟨_, _, hr, _⟩, hc, _⟩ := counts (v := j + 1) (by omega)
  have e : (((j + 1 : Nat)) : Int) = (j : Int) + 1 := by omega
  rw [e] at hf hc
  have hpl := pts_len (v := (j : Int) + 1) (by omega)
  simp only at c1
  rw [c1] at hf
  simp only [Option.some.injEq, Prod.mk.injEq, and_true] at hf
  obtain ⟨rfl, rfl⟩ := hf
  rw [← hpl] at hc
  exact ⟨by omega, c2, c3⟩
theorem clone_eq2 (W H : Int) (l : List Bool) (hl : l.length ≤ 1000000) : qrlayout_clone.f W H l = some (W, H, l) := by
  unfold qrlayout_clone.f slices_Clone_bool_bool.f
  rw [Option.bind_some, if_pos (by simp; omega)]
  rfl
theorem copy_eq2 (W H : Int) (l : List Bool) (hl : l.length ≤ 1000000) : barscanref20_Copy.f W H l = some (W, H, l) := by
  unfold barscanref20_Copy.f
  rw [if_pos (by simp; omega)]
  rfl
theorem pts_in {v : Int} (h : 1 ≤ v ∧ v ≤ 40) (N : Nat) (hN : (N : Int) = (17 + 4 * v) * (17 + 4 * v)) : ∀ p ∈ ptsT v, inRow (17 + 4 * v) N p := fun p hp => by
  obtain ⟨⟨x0, x1⟩, ⟨y0, y1⟩, _⟩ := pts_facts h p hp
  obtain ⟨s, hs⟩ : ∃ s, 17 + 4 * v = s := ⟨_, rfl⟩
  rw [hs] at x1 y1 hN ⊢
  have h0 : 21 ≤ s := by omega
  have h1 : s ≤ 177 := by omega
  have e1 : 0 ≤ p.f1 * s := Int.mul_nonneg y0 (by omega)
  have e2 : p.f1 * s ≤ (s - 1) * s := Int.mul_le_mul_of_nonneg_right (by omega) (by omega)
  rw [Int.sub_mul, Int.one_mul] at e2
  have e4 : s * s ≤ 177 * 177 := Int.mul_le_mul h1 h1 (by omega) (by omega)
  exact ⟨⟨e1, by omega⟩, by omega, by omega⟩
theorem fill_both (W H : Int) (l : List Bool) (ws : List Int) (hl : l.length ≤ 40000) (hws : ws.length ≤ 4000) (k : Nat) (hk : 2000000 ≤ k) :
    ∃ r1 r2 d r4, Does30 W H l ws r1 r2 d r4 ∧ barscanref20_Fill.f k W H l ws = some (r1, r2, d, r4) ∧ d.length ≤ 40000 ∧
      (∀ v, barscanref20_Version.f W H l = some (v, 0) → (r4 = 0 ∧ r1 = W ∧ r2 = H ∧ d = fillL W (wordBits ws) (ptsT v) 0 l ∧ (ws.length : Int) = cwN (v - 1).toNat ∧ ∀ i, i < ws.length → 0 ≤ rd ws (i : Int) ∧ rd ws (i : Int) / 256 = 0) ∨ (r4 ≠ 0 ∧ d = [])) := by
  rcases sized_cases W H l with ⟨v, h1, h2, rfl, rfl, hlen, hs, hv⟩ | ⟨e, he, hs, hv⟩
  · have h : 1 ≤ v ∧ v ≤ 40 := ⟨h1, h2⟩
    obtain ⟨j, hj, rfl⟩ : ∃ j : Nat, j < 40 ∧ v = (j : Int) + 1 := ⟨(v - 1).toNat, by omega, by omega⟩
    have hvj : ∀ u, (some ((j : Int) + 1, (0 : Int)) : Option (Int × Int)) = some (u, 0) → u = (j : Int) + 1 := fun u e => by simpa using e.symm
    have hsd := sdS_eq h
    have hN : (l.length : Int) = (17 + 4 * ((j : Int) + 1)) * (17 + 4 * ((j : Int) + 1)) := by rw [hlen, Int.natCast_mul, hsd]
    have hin := pts_in h l.length hN
    obtain ⟨q1, q2, q3, q4⟩ := path_parts h k (by omega)
    obtain ⟨c1, c2, c3⟩ := cw_path j hj
    have hl0 : 0 < l.length := by
      have hb := sd_bd h
      have : 21 * 21 ≤ sdS ((j : Int) + 1) * sdS ((j : Int) + 1) := Nat.mul_le_mul (by unfold sdS; omega) (by unfold sdS; omega)
      omega
    have hpl : (ptsT ((j : Int) + 1)).length ≤ 100000 := by
      have hb := sd_bd h
      rw [pts_len h]
      refine Nat.le_trans List.count_le_length ?_
      rw [gridL_len]
      exact Nat.le_trans (Nat.mul_le_mul hb.2 hb.2) (by decide)
    have h63 := fun w : World => codewords63 j hj w
    have href : ∀ X, barscanref20_Fill.f k (17 + 4 * ((j : Int) + 1)) (17 + 4 * ((j : Int) + 1)) l ws = X ↔ (if (ws.length : Int) = cwN j then ((barscanref01_FromWords.f k ws 8).bind fun bt242 => (if bt242.2 = 0 then ((barscanref20_Copy.f (17 + 4 * ((j : Int) + 1)) (17 + 4 * ((j : Int) + 1)) l).bind fun bt246 => ((barscanref20_Path.f k ((j : Int) + 1)).bind fun bt252 => (barscanref20_Fill.l0 k bt242.1 bt252.1 0 (17 + 4 * ((j : Int) + 1)) (17 + 4 * ((j : Int) + 1)) l bt246.1 bt246.2.1 bt246.2.2))) else (some (0, 0, ([] : List Bool), bt242.2)))) else (some (0, 0, ([] : List Bool), 7))) = X := fun X => by
      unfold barscanref20_Fill.f
      rw [hv, Option.bind_some, if_pos rfl, cw_ref j hj k (by omega), Option.bind_some]
    by_cases hn : (ws.length : Int) = cwN j
    · obtain ⟨m, hm, hgood, hbad⟩ := first_bad ws
      have hfw := fromw_eq ws hws m hm hgood hbad k (by omega)
      by_cases hml : m = ws.length
      · refine ⟨_, _, fillL (17 + 4 * ((j : Int) + 1)) (wordBits ws) (ptsT ((j : Int) + 1)) 0 l, 0, fun A c A2 c2 w hA hc hA2 hc2 => ?_, (href _).2 ?_, by rw [fillL_len]; exact hl, fun u hu => .inl ⟨rfl, rfl, rfl, ?_, ?_, ?_⟩⟩
        · refine (callsIn_wide.1 (fill_ok k _ _ ((j : Int) + 1) (17 + 4 * ((j : Int) + 1)) (cwN j) (cwR j) A c l A2 c2 ws (alg ((j : Int) + 1)) w hA hc hA2 hl hws (hs k) h63 hn.symm (fun i hi => hgood i (by omega)) (clone_eq2 _ _ _ (by omega)) q1 (ptsT ((j : Int) + 1)) q3 q2 hin hpl hl0)).mono fun e w' h' => ?_
          obtain ⟨A1, c1', e1, e2, e3, e4⟩ := h'
          have hfl : (fillL (17 + 4 * ((j : Int) + 1)) (wordBits ws) (ptsT ((j : Int) + 1)) 0 l).length = l.length := fillL_len _ _ _ _ _
          exact ⟨A1, c1', by rw [hfl]; exact e1, by rw [hfl]; exact e2, by rw [hfl]; exact e3, e4⟩
        · rw [if_pos hn, hfw, if_pos hml, if_pos hml, Option.bind_some, if_pos rfl, copy_eq2 _ _ _ (by omega), Option.bind_some, refpath_yes h k (by omega), Option.bind_some]
          have := rfill_l0 (17 + 4 * ((j : Int) + 1)) (17 + 4 * ((j : Int) + 1)) l (wordBits ws) (ptsT ((j : Int) + 1)) hpl l.length hl hin (17 + 4 * ((j : Int) + 1)) (17 + 4 * ((j : Int) + 1)) (ptsT ((j : Int) + 1)).length (k - (ptsT ((j : Int) + 1)).length - 1) 0 l (by omega) rfl
          rw [show k - (ptsT ((j : Int) + 1)).length - 1 + (ptsT ((j : Int) + 1)).length + 1 = k by omega] at this
          exact this
        · rw [hv] at hu; rw [hvj u hu]
        · rw [hv] at hu; rw [hvj u hu, hn, show ((j : Int) + 1 - 1).toNat = j by omega]
        · exact fun i hi => hgood i (by omega)
      · refine ⟨0, 0, [], 3, fun A c A2 c2 w hA hc hA2 hc2 => ?_, (href _).2 ?_, by simp, fun u hu => .inr ⟨by decide, rfl⟩⟩
        · refine (fill_bad k _ _ A c l A2 c2 ws w hA hc _ _ _ (hs k) _ _ h63 hA2 hws hn m (by omega) hgood (hbad (by omega))).mono fun e w' h' => ?_
          exact ⟨none, 0, h'.1, Nat.le_refl _, Kd.C_nil _ _, h'.2⟩
        · rw [if_pos hn, hfw, if_neg hml, if_neg hml, Option.bind_some, if_neg (by decide)]
    · refine ⟨0, 0, [], 7, fun A c A2 c2 w hA hc hA2 hc2 => ?_, (href _).2 ?_, by simp, fun u hu => .inr ⟨by decide, rfl⟩⟩
      · refine (fill_len k _ _ A c l A2 c2 ws w hA hc _ _ _ (hs k) _ _ h63 hn).mono fun e w' h' => ?_
        exact ⟨none, 0, h'.1, Nat.le_refl _, Kd.C_nil _ _, h'.2⟩
      · rw [if_neg hn]
  · refine ⟨0, 0, [], e, fun A c A2 c2 w hA hc hA2 hc2 => ?_, ?_, by simp, fun u hu => ?_⟩
    · refine (fill_no k W H A c l A2 c2 ws w hA hc _ _ _ e he (hs k)).mono fun e' w' h' => ?_
      exact ⟨none, 0, h'.1, Nat.le_refl _, Kd.C_nil _ _, h'.2⟩
    · unfold barscanref20_Fill.f
      rw [hv, Option.bind_some, if_neg he]
    · rw [hv] at hu
      simp only [Option.some.injEq, Prod.mk.injEq] at hu
      exact absurd hu.2 he
theorem extract_both (W H : Int) (l : List Bool) (hl : l.length ≤ 40000) (k : Nat) (hk : 2000000 ≤ k) :
    ∃ x r, Does32 W H l x r ∧ barscanref20_Extract.f k W H l = some (x, r) ∧ x.length ≤ 5000 ∧
      (∀ v, barscanref20_Version.f W H l = some (v, 0) → r = 0 ∧ x = (List.range (cwN (v - 1).toNat).toNat).map fun q => (vq (bitsAt W l ((ptsT v).take (8 * (cwN (v - 1).toNat).toNat))) q 8 : Int)) := by
  rcases sized_cases W H l with ⟨v, h1, h2, rfl, rfl, hlen, hs, hv⟩ | ⟨e, he, hs, hv⟩
  · have h : 1 ≤ v ∧ v ≤ 40 := ⟨h1, h2⟩
    obtain ⟨j, hj, rfl⟩ : ∃ j : Nat, j < 40 ∧ v = (j : Int) + 1 := ⟨(v - 1).toNat, by omega, by omega⟩
    have hvj : ∀ u, (some ((j : Int) + 1, (0 : Int)) : Option (Int × Int)) = some (u, 0) → u = (j : Int) + 1 := fun u e => by simpa using e.symm
    have hsd := sdS_eq h
    have hN : (l.length : Int) = (17 + 4 * ((j : Int) + 1)) * (17 + 4 * ((j : Int) + 1)) := by rw [hlen, Int.natCast_mul, hsd]
    have hin := pts_in h l.length hN
    obtain ⟨q1, q2, q3, q4⟩ := path_parts h k (by omega)
    obtain ⟨c1, c2, c3⟩ := cw_path j hj
    have hpl : (ptsT ((j : Int) + 1)).length ≤ 100000 := by
      have hb := sd_bd h
      rw [pts_len h]
      refine Nat.le_trans List.count_le_length ?_
      rw [gridL_len]
      exact Nat.le_trans (Nat.mul_le_mul hb.2 hb.2) (by decide)
    obtain ⟨n, hn⟩ : ∃ n : Nat, cwN j = (n : Int) := ⟨(cwN j).toNat, by omega⟩
    have h63 := fun w : World => codewords63 j hj w
    rw [hn] at h63
    have hbl : (bitsAt (17 + 4 * ((j : Int) + 1)) l ((ptsT ((j : Int) + 1)).take (8 * n))).length = 8 * n := by simp [bitsAt]; omega
    refine ⟨(List.range n).map fun q => (vq (bitsAt (17 + 4 * ((j : Int) + 1)) l ((ptsT ((j : Int) + 1)).take (8 * n))) q 8 : Int), 0, fun A c w hA hc => ?_, ?_, by simp; omega, fun u hu => ⟨rfl, ?_⟩⟩
    · refine (callsIn_wide.1 (extract_ok k _ _ ((j : Int) + 1) (17 + 4 * ((j : Int) + 1)) (cwR j) n A c l (alg ((j : Int) + 1)) w hA hc hl (hs k) h63 (by omega) (by omega) q1 (ptsT ((j : Int) + 1)) q3 q2 hin hpl (by omega) (fun q => (vq (bitsAt (17 + 4 * ((j : Int) + 1)) l ((ptsT ((j : Int) + 1)).take (8 * n))) q 8 : Int)) (fun x hx => value_eq _ x (by rw [hbl]; omega) k (by omega)))).mono fun e w' h' => ?_
      obtain ⟨u, rfl, hR, hb⟩ := h'
      obtain ⟨A1, c1', rfl, e2, e3⟩ := Kd.R_reads hR
      exact ⟨A1, c1', rfl, e2, e3, hb⟩
    · unfold barscanref20_Extract.f
      rw [hv, Option.bind_some, if_pos rfl, cw_ref j hj k (by omega), Option.bind_some, refpath_yes h k (by omega), Option.bind_some]
      have := rext_l0 (17 + 4 * ((j : Int) + 1)) (17 + 4 * ((j : Int) + 1)) l (ptsT ((j : Int) + 1)) hpl hl hin n (by omega) (by omega) (8 * n) (k - 8 * n - 1) 0 (by omega) (by omega)
      rw [show k - 8 * n - 1 + 8 * n + 1 = k by omega] at this
      dsimp only
      rw [hn]
      exact this
    · rw [hv] at hu
      rw [hvj u hu, show ((j : Int) + 1 - 1).toNat = j by omega, hn, Int.toNat_natCast]
  · refine ⟨[], e, fun A c w hA hc => ?_, ?_, by simp, fun u hu => ?_⟩
    · refine (extract_no k W H A c l w hA hc _ _ _ e he (hs k)).mono fun e' w' h' => ?_
      exact ⟨none, 0, h'.1, Nat.le_refl _, Kd.C_nil _ _, h'.2⟩
    · unfold barscanref20_Extract.f
      rw [hv, Option.bind_some, if_neg he]
    · rw [hv] at hu
      simp only [Option.some.injEq, Prod.mk.injEq] at hu
      exact absurd hu.2 he
end Go.Proofs.Ytbbnagjfjgkgjaa.Pure

/- Fill and Extract and their references: the law's walk at every argument. -/
namespace Go.Proofs.Ytbbnagjfjgkgjaa.Pure
open Go.RowKit Go.Proofs.Ytbbnagjfjgkgjaa.L Go.Proofs.YtbbnagjfjgkgjaaW.PrintWords Go.Proofs.YtbbnagjfjgkgjaaW.PrintLast Go.Proofs.YtbbnagjfjgkgjaaW.PrintMore
set_option linter.unusedVariables false
set_option linter.unusedSimpArgs false
theorem samF_l0 (a : List Bool) (hl : a.length ≤ 1000000) : ∀ (d k i : Nat), i + d = a.length → barscanref01_Same.l0 (k + d + 1) a a (i : Int) = some true
  | 0, k, i, hi => by rw [barscanref01_Same.l0, if_neg (by omega)]
  | d + 1, k, i, hi => by
    have ih := samF_l0 a hl d k (i + 1) (by omega)
    rw [show k + (d + 1) + 1 = (k + d + 1) + 1 by omega, barscanref01_Same.l0, if_pos (by omega), if_pos (by omega), if_pos (by omega), w64 (n := (i : Int) + 1) (by omega), show ((i : Int) + 1) = ((i + 1 : Nat) : Int) by omega, ih]
    simp
theorem samF_yes (W H : Int) (a : List Bool) (hl : a.length ≤ 1000000) (k : Nat) (hk : 1000001 ≤ k) : barscanref20_Same.f k W H a W H a = some true := by
  have := samF_l0 a hl a.length (k - a.length - 1) 0 (by omega)
  rw [show k - a.length - 1 + a.length + 1 = k by omega] at this
  unfold barscanref20_Same.f barscanref01_Same.f
  rw [if_pos rfl, if_pos rfl, if_pos rfl]
  rw [show (0 : Int) = ((0 : Nat) : Int) from rfl, this]
  rfl
end Go.Proofs.Ytbbnagjfjgkgjaa.Pure
