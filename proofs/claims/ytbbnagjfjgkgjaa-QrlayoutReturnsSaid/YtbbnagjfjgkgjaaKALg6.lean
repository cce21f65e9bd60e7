/- bits.FromWords, for words of eight bits. -/
import Derived.RangeFuncBox
import Derived.Deep.Cut
import Derived.Test.YtbbnagjfjgkgjaaKALx0
import Derived.RangeFuncNested
import Derived.RangeFuncBound
import Derived.RangeFuncCalls
import Derived.RangeFuncLeaves
import Derived.Shelf.Abstract
import Derived.Shelf.RegionOpen
import Derived.WalkKit
import Derived.OwnWalkIn
import Derived.TacticsInMore
import Derived.LoopNIn
import Derived.LoopIn
import Derived.Sort.QuietIn
import Derived.Test.YtbbnagjfjgkgjaaKAPta
import Derived.Test.YtbbnagjfjgkgjaaKALf0
namespace Go.Proofs.Ytbbnagjfjgkgjaa.L
open Go.RowKit Go.Proofs.YtbbnagjfjgkgjaaW.PrintWords Go.Proofs.YtbbnagjfjgkgjaaW.PrintLast Go.Proofs.YtbbnagjfjgkgjaaW.PrintMore
set_option linter.unusedVariables false
set_option linter.unusedSimpArgs false

def wbit (x : Int) (t : Nat) : Bool := Go.bits .and .i64 (shr .i64 x (7 - (t : Int))) 1 == 1
def wbits (x : Int) (n : Nat) : List Bool := (List.range n).map (wbit x)
theorem wbits_succ (x : Int) (n : Nat) : wbits x (n + 1) = wbits x n ++ [wbit x n] := by simp [wbits, List.range_succ]
def wordBits (l : List Int) : List Bool := l.flatMap fun x => wbits x 8
theorem wordBits_len (l : List Int) : (wordBits l).length = 8 * l.length := by
 induction l with
 | nil => rfl
 | cons x l ih => simp [wordBits, wbits] at ih ⊢; omega
theorem wordBits_snoc (l : List Int) (i : Nat) (h : i < l.length) : wordBits (l.take (i + 1)) = wordBits (l.take i) ++ wbits (rd l (i : Int)) 8 := by
 have e : rd l (i : Int) = l[i] := by simp [rd, List.getD_eq_getElem?_getD, h]
 rw [e, List.take_add_one, List.getElem?_eq_getElem h]
 unfold wordBits
 rw [Option.toList_some, List.flatMap_append, List.flatMap_singleton]
set_option maxRecDepth 100000 in
set_option maxHeartbeats 8000000 in
theorem fromWords8 (A : Option Addr) (c : Nat) (l : List Int) (w : World) (hA : Kd.C (Kd.int .i64) w A l.length l) (hl : l.length ≤ 4000) (m : Nat) (hm : m ≤ l.length)
  (hgood : ∀ i, i < m → 0 ≤ rd l (i : Int) ∧ rd l (i : Int) / 256 = 0) (hbad : m < l.length → rd l (m : Int) < 0 ∨ (0 ≤ rd l (m : Int) ∧ rd l (m : Int) / 256 ≠ 0))
  (r1 : List Bool) (r2 : Int) (hr : (m = l.length → r1 = wordBits l ∧ r2 = 0) ∧ (m < l.length → r1 = [] ∧ r2 = 3)) :
  Calls Try.prog 64 #[.slice A l.length c, .int .i64 8] w fun e w' => ∃ v_ : Value, e = .returned (.tuple #[v_, .int .i64 r2]) ∧ Kd.R Kd.bool 4 w' w.heap.size (fun _ => True) v_ r1 ∧ Below w.heap.size w w' := by
 obtain ⟨i0, hi, hz0, hz1, hz2⟩ := info_parts info4
 have hu22 := Try.underlying22
 have hl0 : decide ((131072 : Int) < (l.length : Int)) = false := decide_eq_false (by omega)
 have hlw : wrap64 ((l.length : Int) * 8) = ((8 * l.length : Nat) : Int) := by unfold wrap64; omega
 go_enter Try.func64, Try.ntmps64
 go_wp2_with ((with_reducible refine gate_dst (N := 25) rfl ?_); refine wpList_make_own w rfl _ _ 22 rfl w.heap.size 4 i0 (.bool false) 1 hu22 hi hz0 hz1 .i64 .i64 _ (8 * l.length) rfl rfl (by first | rfl | exact hlw | omega) (by rw [hz2]; omega) (by simp [maxLen]; omega) (Nat.le_refl _) ?_; intro w1 hown hgr)
 have hR0 : Kd.R Kd.bool 4 w1 w.heap.size (fun _ => True) (.slice (some ⟨w.heap.size, 0, none⟩) 0 (8 * l.length)) [] := ⟨fun _ _ => trivial, [], hown, Reps.none _ _⟩
 have hB0 : Below w.heap.size w w1 := (Below.refl _ w).grown hgr (Nat.le_refl _) nofun
 clear hown hgr hlw
 go_loopg [6, 28] (m + 1) (fun kq v6 v28 w' => ∃ (i : Nat) (ii : Int), v28 = .int .i64 ii ∧ Aside0 (ii = (i : Int)) ∧ Aside0 (i + kq = m + 1 ∧ i ≤ m) ∧ Aside0 (Kd.R Kd.bool 4 w' w.heap.size (fun _ => True) v6 (wordBits (l.take i))) ∧ Aside0 (Below w.heap.size w w'))
 case atStart => exact ⟨0, 0, rfl, ⟨rfl⟩, ⟨by omega, by omega⟩, ⟨by simpa [wordBits] using hR0⟩, ⟨hB0⟩⟩
 case round =>
  clear hR0 hB0
  obtain ⟨i, ii, rfl, hii, hI, hR, hB⟩ := hrel
  have hB' := hB.out
  have hR' := hR.out
  have F1 := Kd.C_below hA hB'
  by_cases him : i < m
  ·cases gk with
   | zero => exact absurd hI.out (by omega)
   | succ k1 =>
   have hi0 : 0 ≤ ii := by have := hii.out; omega
   have hi1 : ii < (l.length : Int) := by have := hii.out; omega
   obtain ⟨ad, e, x0⟩ := Kd.at_int F1 ii hi0 hi1
   have hg := hgood i him
   have hsn := wordBits_snoc l i (by omega)
   rw [← hii.out] at hg hsn
   generalize rd l ii = x at hg hsn x0
   obtain ⟨hx0, hxz⟩ := hg
   cases e
   have hx1 : decide (x < 0) = false := decide_eq_false (by omega)
   have hw : wrap64 (ii + 1) = ii + 1 := by unfold wrap64; omega
   replace hi0 := eq_true hi0
   replace hi1 := eq_true hi1
   clear hgood hbad F1 hl0
   go_wp2
   have hwq := hB'
   have hRq := hR'
   clear hB hB' hR hR' x0
   rename World => wq
   go_loopg [6, 9] 9 (fun kq v6 v9 w' => ∃ (t : Nat) (kk : Int), v9 = .int .i64 kk ∧ Aside0 (kk = 7 - (t : Int)) ∧ Aside0 (t + kq = 9 ∧ t ≤ 8) ∧ Aside0 (Kd.R Kd.bool 4 w' w.heap.size (fun _ => True) v6 (wordBits (l.take i) ++ wbits x t)) ∧ Aside0 (Below w.heap.size w w'))
   case atStart => exact ⟨0, 7, rfl, ⟨rfl⟩, ⟨by omega, by omega⟩, ⟨by simpa [wbits] using hRq⟩, ⟨hwq⟩⟩
   case round =>
    clear hwq hRq
    obtain ⟨t, kk, rfl, hkk, hT, hR, hB⟩ := hrel
    have hB' := hB.out
    have hR' := hR.out
    by_cases ht : t < 8
    ·cases gk with
     | zero => exact absurd hT.out (by omega)
     | succ k2 =>
     have hk0 : 0 ≤ kk := by have := hkk.out; omega
     have hk1 : decide (0 ≤ kk) = true := decide_eq_true hk0
     have hkw : wrap64 (kk - 1) = kk - 1 := by have := hkk.out; unfold wrap64; omega
     have hln : (wordBits (l.take i) ++ wbits x t).length < 100000 := by simp [wordBits_len, wbits]; omega
     go_wp2_with ((with_reducible refine gate_builtin (b := .append) (xs := #[.tmp 46, .tmp 52]) rfl ?_); at_builtin; refine Kd.R_append Kd.bool (w0 := w) w.heap.size rfl (.tmp 46) (.tmp 52) 22 4 (.bool false) 1 rfl Try.underlying22 info4 rfl (by decide) (by omega) u6 _ (Go.bits .and .i64 (shr .i64 x kk) 1 == 1) [.bool (Go.bits .and .i64 (shr .i64 x kk) 1 == 1)] (fun _ => True) (fun _ => False) rfl rfl rfl (fun _ hk => hk.elim) (fun _ _ => trivial) hR' hB' hB'.size (by omega) ?_; intro v3 w3 ho hb _ _)
     go_roundg k2
     case measure => have := hT.out; omega
     case rel =>
      have hwb : (Go.bits .and .i64 (shr .i64 x kk) 1 == 1) = wbit x t := by unfold wbit; rw [hkk.out]
      rw [hwb, List.append_assoc, ← wbits_succ] at ho
      exact ⟨t + 1, kk - 1, by first | rfl | (rw [hkw]) | (simp only [i64_w, hkw]), ⟨by have := hkk.out; omega⟩, ⟨by have := hT.out; omega, by omega⟩, ⟨ho⟩, ⟨hb⟩⟩
    ·have hk0 : decide (0 ≤ kk) = false := decide_eq_false (by have := hkk.out; have := hT.out; omega)
     have ht8 : t = 8 := by have := hT.out; omega
     subst ht8
     try go_wp2
     go_roundg k1
     case measure => have := hI.out; omega
     case rel => exact ⟨i + 1, ii + 1, by first | rfl | (rw [hw]) | (simp only [i64_w, hw]), ⟨by have := hii.out; omega⟩, ⟨by have := hI.out; omega, by omega⟩, ⟨by rw [hsn]; exact hR'⟩, ⟨hB'⟩⟩
  ·have hie : i = m := by have := hI.out; omega
   subst hie
   by_cases hml : i = l.length
   ·obtain ⟨hr1, hr2⟩ := hr.1 hml
    subst hr1 hr2
    have hi1 : ¬ ii < (l.length : Int) := by have := hii.out; omega
    rw [hml, List.take_length] at hR'
    clear hml hgood hbad hii hI hR hB F1 hr hm
    go_wp2
    go_ret2
    exact ⟨_, rfl, hR', hB'⟩
   ·obtain ⟨hr1, hr2⟩ := hr.2 (by omega)
    subst hr1 hr2
    have hi0 : 0 ≤ ii := by have := hii.out; omega
    have hi1 : ii < (l.length : Int) := by have := hii.out; omega
    obtain ⟨ad, e, x0⟩ := Kd.at_int F1 ii hi0 hi1
    have hg := hbad (by omega)
    rw [← hii.out] at hg
    generalize rd l ii = x at hg x0
    cases e
    replace hi0 := eq_true hi0
    replace hi1 := eq_true hi1
    clear hgood hbad F1 hl0 hml hii hI hR hB hr
    rcases hg with hg | ⟨hg0, hg1⟩
    ·have hx1 : decide (x < 0) = true := decide_eq_true hg
     go_wp2
     go_ret2
     exact ⟨_, rfl, Kd.R_nil _ _ _ _ _, hB'⟩
    ·have hx1 : decide (x < 0) = false := decide_eq_false (by omega)
     have hx2 : (x / 256 == 0) = false := beq_eq_false_iff_ne.mpr hg1
     have hx3 : (x / 256 != 0) = true := bne_iff_ne.mpr hg1
     go_wp2
     go_ret2
     exact ⟨_, rfl, Kd.R_nil _ _ _ _ _, hB'⟩
end Go.Proofs.Ytbbnagjfjgkgjaa.L

/- slices.Chunk over a row of bools, chunks of eight: the iterator's contract. -/
namespace Go.Proofs.Ytbbnagjfjgkgjaa.L
open Go.RowKit Go.Shelf Go.Proofs.YtbbnagjfjgkgjaaW.PrintWords Go.Proofs.YtbbnagjfjgkgjaaW.PrintLast Go.Proofs.YtbbnagjfjgkgjaaW.PrintMore
attribute [local go_sem] Oper.semAt_some max2_int min2_int max_two min_two
set_option linter.unusedVariables false
set_option linter.unusedSimpArgs false

def ChB (Bs Bn : Nat) (ad : Addr) (N c : Nat) (W : World) : Prop := W.heap[Bs]? = some (.cells #[.slice (some ad) N c] 22 (0, 0)) ∧ W.heap[Bn]? = some (.cells #[.int .i64 8] 3 (0, 0))
theorem ChB.below {Bs Bn : Nat} {ad : Addr} {N c : Nat} {W W' : World} (h : ChB Bs Bn ad N c W) (hb : Below W.heap.size W W') : ChB Bs Bn ad N c W' := ⟨blk_below h.1 hb, blk_below h.2 hb⟩
set_option maxRecDepth 100000 in
set_option maxHeartbeats 8000000 in
theorem chunk_in (n : Nat) (hn : 1 ≤ n) (lp Bs Bn : Nat) (ad : Addr) (m N c : Nat) (hm : m ≤ 5000) (hN : Aside0 (N = 8 * m)) (hc : N ≤ c)
  (Kp : World → World → Prop) (hKp : ∀ W W', ChB Bs Bn ad N c W → Kp W W' → ChB Bs Bn ad N c W') (J Jx : List Nat → World → Prop)
  (hY : ∀ pre x W, J pre W → x < m → pre.length < m → YieldAt Fence.wide (n - 1) Try.prog lp #[.slice (some (ad.add (8 * x))) 8 8] W fun e W' =>
   (e = .returned (.bool true) ∧ J (pre ++ [x]) W' ∧ Kp W W') ∨ (e = .returned (.bool false) ∧ Jx (pre ++ [x]) W'))
  (W : World) (hJ : AbidesFrom W.heap.size J) (hB : ChB Bs Bn ad N c W) (h0 : J [] W) :
  CallsIn Fence.wide n Try.prog 100 #[.func (.yield lp) #[] #[], .pointer (some ⟨Bs, 0, none⟩), .pointer (some ⟨Bn, 0, none⟩)] W fun e W' => (∃ v, e = .returned v) ∧
   ((∃ ys, ys = List.range m ∧ J ys W') ∨ (∃ pre, pre <+: List.range m ∧ Jx pre W')) := by
 refine callsIn_of_wp Try.func100 rfl trivial ?_ rfl
 simp only [Try.ntmps100, List.size_toArray, List.length_cons, List.length_nil, Nat.reduceAdd, Nat.reduceSub, Array.replicate_succ, Array.replicate_zero, List.push_toArray, List.append_toArray, List.nil_append, List.cons_append]
 have hu22 := Try.underlying22
 gi_wp2
 gi_loopw [4] (fun iv wx => ∃ (i : Nat) (ii : Int), iv = .int .i64 ii ∧ Aside0 (ii = 8 * (i : Int)) ∧ Aside0 (i ≤ m) ∧ Aside0 (J (List.range i) wx) ∧ Aside0 (ChB Bs Bn ad N c wx))
  (fun iv _ => (N - (intOf iv).toNat))
 case atStart => exact ⟨0, 0, rfl, ⟨rfl⟩, ⟨Nat.zero_le _⟩, ⟨h0⟩, ⟨hB⟩⟩
 case round =>
  obtain ⟨i, ii, rfl, hii, hi, hJi, hBi⟩ := hrel
  have b0 := (blk_cell hBi.out.1 0).trans rfl
  have b1 := (blk_cell hBi.out.2 0).trans rfl
  by_cases hlt : i < m
  ·have hi0 : 0 ≤ ii := by have := hii.out; omega
   have hi1 : decide (ii < (N : Int)) = true := decide_eq_true (by have := hii.out; have := hN.out; omega)
   have hi2 : ii ≤ (N : Int) := by have := hii.out; have := hN.out; omega
   have hi3 : ii ≤ (c : Int) := by omega
   have hi4 : 8 ≤ (N : Int) - ii := by have := hii.out; have := hN.out; omega
   have hw8 : wrap64 (ii + 8) = ii + 8 := by have := hii.out; have := hN.out; unfold wrap64; omega
   have hw8' := (i64_w (ii + 8)).trans hw8
   have hi5 : ii + 8 ≤ (N : Int) := by omega
   have hi6 : ii + 8 ≤ (c : Int) := by omega
   have hi7 : ii ≤ ii + 8 := by omega
   have hi8 : (ii + 8 - ii).toNat = 8 := by omega
   have hi9 : (ii + 8).toNat - ii.toNat = 8 := by omega
   gi_wp2
   gi_quiet (fail)
   have hBq : ChB Bs Bn ad N c (wr.drewN nq) := hBi.out
   have b2 := (blk_cell hBq.1 0).trans rfl
   have b3 := (blk_cell hBq.2 0).trans rfl
   have hJq := hJ _ _ _ none hJi.out (grown_of_below (pw_below_drewN (Below.refl wr.heap.size wr) nq)) (fun r e => by cases e)
   obtain ⟨fn, tmps, assign, body, hy, hR⟩ := hY _ i _ hJq hlt (by simpa using hlt)
   have hii2 : ad.add (8 * i) = ad.add ii.toNat := by rw [show 8 * i = ii.toNat by have := hii.out; omega]
   rw [hii2] at hy
   gi_wp2
   refine hR.mono ?_
   rintro e W3 (⟨rfl, hJ3, hk3⟩ | ⟨rfl, hJx3⟩)
   ·have hB3 := hKp _ _ hBq hk3
    have b4 := (blk_cell hB3.1 0).trans rfl
    have b5 := (blk_cell hB3.2 0).trans rfl
    gi_wp2
    go_roundw
    case rel => exact ⟨i + 1, ii + 8, by first | rfl | (rw [hw8]) | (simp only [i64_w, hw8]), ⟨by have := hii.out; omega⟩, ⟨by omega⟩, ⟨by rw [List.range_succ]; exact hJ3⟩, ⟨hB3⟩⟩
    case measure => simp [intOf]; omega
   ·gi_wp2
    refine bodyPost_ret (results_none rfl _ _ _) rfl ?_
    refine ⟨⟨_, rfl⟩, .inr ⟨_, ?_, hJx3⟩⟩
    rw [← List.range_succ, show List.range (i + 1) = (List.range m).take (i + 1) by rw [List.take_range]; congr 1; omega]
    exact List.take_prefix _ _
  ·have hie : i = m := by have := hi.out; omega
   subst hie
   have hi1 : decide (ii < (N : Int)) = false := decide_eq_false (by have := hii.out; have := hN.out; omega)
   gi_wp2
   go_end0
   exact ⟨⟨_, rfl⟩, .inl ⟨_, rfl, hJi.out⟩⟩
theorem chunk_stops (n : Nat) (hn : 1 ≤ n) (Bs Bn : Nat) (ad : Addr) (m N c : Nat) (hm : m ≤ 5000) (hN : N = 8 * m) (hc : N ≤ c) (w : World) (hB : ChB Bs Bn ad N c w) :
  SeqStopsK Fence.wide n Try.prog 100 #[.pointer (some ⟨Bs, 0, none⟩), .pointer (some ⟨Bn, 0, none⟩)] (fun p : { x : Nat // x < m } => #[.slice (some (ad.add (8 * p.1))) 8 8]) (fun X Y => Y.heap[Bs]? = X.heap[Bs]? ∧ Y.heap[Bn]? = X.heap[Bn]?) (fun ys => ys.map (·.1) = List.range m) (fun pre => True) m w := fun lp J Jx W hW hJ hJx hY h0 => by
 refine (chunk_in n hn lp Bs Bn ad m N c hm ⟨hN⟩ hc (fun X Y => Y.heap[Bs]? = X.heap[Bs]? ∧ Y.heap[Bn]? = X.heap[Bn]?) (fun X Y h h' => ⟨h'.1.trans h.1, h'.2.trans h.2⟩)
  (fun pre X => ∃ q : List { x : Nat // x < m }, q.map (·.1) = pre ∧ J q X) (fun pre X => ∃ q : List { x : Nat // x < m }, q.map (·.1) = pre ∧ Jx q X) ?_ W (fun s X Y row hs hg hr => ?_) (hB.below hW) ⟨[], rfl, h0⟩).mono ?_
 ·rintro pre x X ⟨q, rfl, hq⟩ hx hlt
  obtain ⟨fn, tmps, assign, body, hy, hR⟩ := hY q ⟨x, hx⟩ X hq (by simpa using hlt)
  refine ⟨fn, tmps, assign, body, hy, hR.mono ?_⟩
  rintro e X' (⟨rfl, h1, h2⟩ | ⟨rfl, h1⟩)
  ·exact .inl ⟨rfl, ⟨_, by simp, h1⟩, h2⟩
  ·exact .inr ⟨rfl, ⟨_, by simp, h1⟩⟩
 ·obtain ⟨q, e, hq⟩ := hs
  exact ⟨q, e, hJ q X Y row hq hg hr⟩
 ·rintro e X' ⟨he, h⟩
  refine ⟨he, ?_⟩
  rcases h with ⟨ys, rfl, q, e, hq⟩ | ⟨pre, hp, q, rfl, hq⟩
  ·exact .inl ⟨q, e, hq⟩
  ·exact .inr ⟨q, trivial, hq⟩
end Go.Proofs.Ytbbnagjfjgkgjaa.L

/- bits.groups and bits.Words, for whole chunks of eight bits. -/
namespace Go.Proofs.Ytbbnagjfjgkgjaa.L
open Go.RowKit Go.Shelf Go.Proofs.YtbbnagjfjgkgjaaW.PrintWords Go.Proofs.YtbbnagjfjgkgjaaW.PrintLast Go.Proofs.YtbbnagjfjgkgjaaW.PrintMore
attribute [local go_sem] Oper.semAt_some
set_option linter.unusedVariables false
set_option linter.unusedSimpArgs false

theorem C_sub {W : World} {ad : Addr} {n : Nat} {l : List Bool} (h : Kd.C Kd.bool W (some ad) n l) (i j : Nat) (hij : i + j ≤ n) : Kd.C Kd.bool W (some (ad.add i)) j ((l.drop i).take j) := by
 obtain ⟨h1, h2, h3⟩ := h
 refine ⟨by simp; omega, by omega, fun hj => ?_⟩
 obtain ⟨ad', e, hc⟩ := h3 (by omega)
 cases e
 refine ⟨_, rfl, fun q p hq => ?_⟩
 have hq2 : l[i + q]? = some p := by
  rw [List.getElem?_take] at hq
  split at hq
  ·rw [List.getElem?_drop] at hq; exact hq
  ·cases hq
 obtain ⟨c, hl, hp, hcell⟩ := hc (i + q) p hq2
 refine ⟨c, hl, hp, fun t u hu => ?_⟩
 have := hcell t u hu
 rw [Go.Proofs.YtbbnagjfjgkgjaaW.PrintWords.add_add, show i + (q * Kd.bool.sz + t) = (i + q) * Kd.bool.sz + t by rw [show Kd.bool.sz = 1 from rfl]; omega]
 exact this
theorem chunkF_in (n : Nat) (A : Option Addr) (N c : Nat) (w : World) :
  CallsIn Fence.wide n Try.prog 95 #[.slice A N c, .int .i64 8] w fun e W' => e = .returned (.func (.func 100) #[] #[.pointer (some ⟨w.heap.size, 0, none⟩), .pointer (some ⟨w.heap.size + 1, 0, none⟩)]) ∧ W' = (w.alloc (.cells #[.slice A N c] 22)).alloc (.cells #[.int .i64 8] 3) := by
 refine callsIn_of_wp Try.func95 rfl trivial ?_ rfl
 simp only [Try.ntmps95, List.size_toArray, List.length_cons, List.length_nil, Nat.reduceAdd, Nat.reduceSub, Array.replicate_succ, Array.replicate_zero, List.push_toArray, List.append_toArray, List.nil_append, List.cons_append]
 gi_wp2
 go_ret
 exact ⟨rfl, rfl⟩
def vs3 (vf : Nat → Int) (pre : List Nat) : List Value := pre.map fun x => .int .i64 (vf x)
theorem app5 {W w1 : World} {n₀ n₁ B : Nat} {t e : TypeId} {size : Nat} {v v' : Value} {k m : Nat} {xs ys : List Value} {tmp : Obj}
  (hv : Boxed W B t v) (hte : t ≠ e) (hrow : W.ownsRow n₀ e size v k xs) (hn₀ : n₀ ≤ W.heap.size) (hn₁ : n₁ ≤ n₀) (hB : n₁ ≤ B)
  (hown' : w1.ownsRow n₀ e size v' m ys) (hgrow : (W.alloc tmp).grownBy w1 v.ownBlock) :
  Boxed w1 B t v ∧ Boxed (w1.setCell ⟨B, 0, none⟩ v') B t v' ∧ (w1.setCell ⟨B, 0, none⟩ v').ownsRow n₀ e size v' m ys ∧ KeepsOthers W (w1.setCell ⟨B, 0, none⟩ v') ∧ Below n₁ W (w1.setCell ⟨B, 0, none⟩ v') ∧
   (∀ b, b < n₀ → b ≠ B → (w1.setCell ⟨B, 0, none⟩ v').heap[b]? = W.heap[b]?) ∧ W.heap.size ≤ (w1.setCell ⟨B, 0, none⟩ v').heap.size := by
 have hv1 : Boxed w1 B t v := (hv.alloc tmp).kept hgrow (hv.not_row hte hrow)
 have hne : ∀ j, v.ownBlock = some j → n₀ ≤ j := fun j ej => by
  rcases hrow.2 with ⟨rfl, _⟩ | ⟨g, cap, cur, rfl, hb, _, _⟩
  ·simp [Value.ownBlock] at ej
  ·obtain rfl : g = j := by simpa [Value.ownBlock] using ej
   exact hb
 refine ⟨hv1, hv1.set v', hown'.kept (grownBy_setCell' w1 B v') (.inr (hv1.not_row hte hown').symm), ?_, ?_, fun b hb hbB => ?_, ?_⟩
 ·refine ((KeepsOthers.alloc W tmp).trans (KeepsOthers.of_grownBy hgrow fun j o ej hj => ?_)).trans (KeepsOthers.setCell _ _ _)
  rcases (hrow.alloc tmp).2 with ⟨rfl, _⟩ | ⟨g, cap, cur, rfl, _, hgb, _⟩
  ·simp [Value.ownBlock] at ej
  ·obtain rfl : g = j := by simpa [Value.ownBlock] using ej
   rw [hgb] at hj; cases hj; rfl
 ·exact (((Below.refl n₁ W).alloc (by omega) tmp).grown hgrow (by simp; omega) fun j ej => Nat.le_trans hn₁ (hne j ej)).setCell (p := ⟨B, 0, none⟩) hB v'
 ·rw [Below.heap_setCell _ _ _ _ hbB, hgrow.block b (by simp; omega) (fun ej => by have := hne b ej.symm; omega)]
  exact Below.heap_alloc W tmp b (by omega)
 ·have := hgrow.size
  simp [World.setCell] at this ⊢
  omega
theorem cell_one_new (w : World) (x : Value) (t : TypeId) : ∀ j u, [x][j]? = some u → (w.alloc (.cells #[x] t)).cell? ((⟨w.heap.size, 0, none⟩ : Addr).add j) = some u := by
 intro j u hj
 match j, hj with
 | 0, hj => simp at hj; subst hj; simp [Addr.add]
theorem reps_vs3 (vf : Nat → Int) (pre : List Nat) (w : World) (base : Nat) (ok : Nat → Prop) : Reps ((Kd.int .i64).M w base ok) 1 (pre.map vf) (vs3 vf pre) := by
 induction pre with
 | nil => exact Reps.none _ _
 | cons p ps ih => exact Reps.one (show Kd.M (Kd.int .i64) _ _ _ (vf p) [.int .i64 (vf p)] from rfl) ih
theorem value8 (k : Nat) (ad : Addr) (l : List Bool) (hl : l.length = 8) (r : Int) (w : World) (hC : Kd.C Kd.bool w (some ad) 8 l) (h : bits_value.f k l = some r) :
  Calls Try.prog 96 #[.slice (some ad) 8 8] w fun e w' => e = .returned (.int .i64 r) ∧ Drawn0 w w' := by
 have := bits_value.calls k (some ad) 8 l r w (by rw [hl]; exact hC) (by omega) h
 rw [hl] at this
 exact this
set_option maxRecDepth 100000 in
set_option maxHeartbeats 8000000 in
theorem groups_in (k : Nat) (ad : Addr) (m N c : Nat) (l : List Bool) (hm : m ≤ 5000) (hN : Aside0 (N = 8 * m)) (hc : N ≤ c) (w : World) (hA : Kd.C Kd.bool w (some ad) N l) (vf : Nat → Int)
  (hvf : ∀ x, x < m → bits_value.f k ((l.drop (8 * x)).take 8) = some (vf x)) :
  CallsIn Fence.wide 7 Try.prog 87 #[.slice (some ad) N c, .int .i64 8, .bool false] w fun e w' => ∃ u, e = .returned u ∧ Kd.R (Kd.int .i64) 3 w' w.heap.size (fun _ => True) u ((List.range m).map vf) ∧ Below w.heap.size w w' := by
 have hu60 := Try.underlying60
 obtain ⟨i0, hi, hz0, hz1, hz2⟩ := info_parts info3
 refine callsIn_of_wp_marks Try.func87 rfl trivial ?_ rfl
 simp only [Try.ntmps87, List.size_toArray, List.length_cons, List.length_nil, Nat.reduceAdd, Nat.reduceSub, Array.replicate_succ, Array.replicate_zero, List.push_toArray, List.append_toArray, List.nil_append, List.cons_append]
 gi_wp2
 refine ⟨trivial, (chunkF_in _ (some ad) N c _).mono ?_⟩
 rintro e q5 ⟨rfl, rfl⟩
 have hs5 : (((((w.alloc (.cells #[.int .i64 8] 3)).alloc (.cells #[.bool false] 4)).alloc (.cells #[.slice none 0 0] 60)).alloc (.cells #[.slice (some ad) N c] 22)).alloc (.cells #[.int .i64 8] 3)).heap.size = w.heap.size + 5 := by simp
 have o0 := blk_alloc (blk_alloc (blk_alloc (blk_alloc (blk_new w (.cells #[.int .i64 8] 3)) (.cells #[.bool false] 4)) (.cells #[.slice none 0 0] 60)) (.cells #[.slice (some ad) N c] 22)) (.cells #[.int .i64 8] 3)
 have o2 := blk_alloc (blk_alloc (blk_new ((w.alloc (.cells #[.int .i64 8] 3)).alloc (.cells #[.bool false] 4)) (.cells #[.slice none 0 0] 60)) (.cells #[.slice (some ad) N c] 22)) (.cells #[.int .i64 8] 3)
 have o3 := blk_alloc (blk_new (((w.alloc (.cells #[.int .i64 8] 3)).alloc (.cells #[.bool false] 4)).alloc (.cells #[.slice none 0 0] 60)) (.cells #[.slice (some ad) N c] 22)) (.cells #[.int .i64 8] 3)
 have o4 := blk_new ((((w.alloc (.cells #[.int .i64 8] 3)).alloc (.cells #[.bool false] 4)).alloc (.cells #[.slice none 0 0] 60)).alloc (.cells #[.slice (some ad) N c] 22)) (.cells #[.int .i64 8] 3)
 have B5 : Below w.heap.size w (((((w.alloc (.cells #[.int .i64 8] 3)).alloc (.cells #[.bool false] 4)).alloc (.cells #[.slice none 0 0] 60)).alloc (.cells #[.slice (some ad) N c] 22)).alloc (.cells #[.int .i64 8] 3)) := (((((Below.refl _ w).alloc (Nat.le_refl _) _).alloc (by simp) _).alloc (by simp; omega) _).alloc (by simp; omega) _).alloc (by simp; omega) _
 simp only [World.size_alloc] at o2 o3 o4
 gi_wp2
 generalize (((((w.alloc (.cells #[.int .i64 8] 3)).alloc (.cells #[.bool false] 4)).alloc (.cells #[.slice none 0 0] 60)).alloc (.cells #[.slice (some ad) N c] 22)).alloc (.cells #[.int .i64 8] 3)) = w5 at hs5 o0 o2 o3 o4 B5 ⊢
 obtain ⟨b2, hb2⟩ : ∃ b, w.heap.size + 1 + 1 = b := ⟨_, rfl⟩
 rw [hb2] at o2 o3 o4 ⊢
 obtain ⟨b3, hb3⟩ : ∃ b, b2 + 1 = b := ⟨_, rfl⟩
 rw [hb3] at o3 o4 ⊢
 obtain ⟨b4, hb4⟩ : ∃ b, b3 + 1 = b := ⟨_, rfl⟩
 rw [hb4] at o4 ⊢
 refine wpIn_rangeFunc_ownH rfl (by omega) (gf := 100) (lb := #[.pointer (some ⟨b3, 0, none⟩), .pointer (some ⟨b4, 0, none⟩)]) rfl trivial (enters_of Try.func100 (by kernel_rfl) rfl)
  (chunk_stops (7 - 1) (by omega) b3 b4 ad m N c hm hN.out hc w5 ⟨o3, o4⟩) (fun h h' => ⟨h'.1.trans h.1, h'.2.trans h.2⟩)
  (fun X L o o' hL ho hc hw => ⟨World.putObj_heap_other (by omega), World.putObj_heap_other (by omega)⟩) (Below.refl _ _) (fun _ => rfl)
  (fun pre X => (∃ u, Boxed X b2 60 u ∧ X.ownsRow w5.heap.size 3 1 u pre.length (vs3 vf (pre.map (·.1))) ∧ True) ∧ (Below w.heap.size w X ∧ (X.heap[w.heap.size]? = some (.cells #[.int .i64 8] 3 (0, 0)) ∧ w5.heap.size ≤ X.heap.size)))
  (fun _ _ _ => False)
  (OwnFrom.and (Own.from (holdsRow_own w5.heap.size b2 60 3 1 (fun pre => pre.length) (fun pre : List { x : Nat // x < m } => vs3 vf (pre.map (·.1))) (fun _ _ => True)) _) (OwnFrom.and (ownFrom_below (Nat.le_refl _) (by omega)) (fun pre X Y row hs hg hr => ⟨(hg.block w.heap.size (blk_lt hs.1) (fun e => by obtain ⟨o, ho, hc⟩ := (hr _ e.symm).2; rw [hs.1] at ho; cases ho; cases hc)).trans hs.1, Nat.le_trans hs.2 hg.size⟩)))
  (fun _ _ _ _ _ hs _ _ => hs)
  ⟨⟨_, o2, World.ownsRow_nil _ _ _ _, trivial⟩, B5, o0, Nat.le_refl _⟩
  (fun x a' X => a' = { tmps := #[.slice (some ad) N c, .int .i64 8, .bool false, undef, .pointer (some ⟨w.heap.size, 0, none⟩), .pointer (some ⟨w.heap.size + 1, 0, none⟩), .slice none 0 0, .pointer (some ⟨b2, 0, none⟩), .slice (some (ad.add (8 * x.1))) 8 8, undef, .slice (some ad) N c, .int .i64 8, .func (.func 100) #[] #[.pointer (some ⟨b3, 0, none⟩), .pointer (some ⟨b4, 0, none⟩)], .slice (some (ad.add (8 * x.1))) 8 8, undef, undef, undef, undef, undef, undef, undef, undef, undef, undef, undef, undef, undef, undef, undef, undef, undef, undef, undef], defers := [] })
  (fun x a' _ X Y row hs hg hr => hs)
  ?assign ?body ?done ?stop
 case assign =>
  rintro lp pre x X K ⟨⟨u, hu, hrow, _⟩, hB1, hs0, h6⟩ hK
  gi_wp2
  exact hK _ _ ((KeepsOthers.refl _).from _) ⟨rfl, rfl⟩ ⟨⟨u, hu, hrow, trivial⟩, hB1, hs0, h6⟩ rfl
 case body =>
  rintro lp pre x a' X hlp ⟨r, hr⟩ ⟨⟨u, hu, hrow, _⟩, hB1, hs0, h6⟩ rfl hlt
  obtain ⟨x, hx⟩ := x
  have hCx := C_sub (Kd.C_below hA hB1) (8 * x) 8 (by have := hN.out; omega)
  have hl8 : ((l.drop (8 * x)).take 8).length = 8 := by have := hA.1; have := hN.out; simp; omega
  have hv8 := hvf x hx
  generalize (l.drop (8 * x)).take 8 = ch at hCx hl8 hv8
  dsimp only
  gi_wp2
  refine ⟨trivial, CallsIn.inRound lp ((callsIn_wide.2 (value8 k _ ch hl8 _ X hCx hv8)).mono ?_)⟩
  rintro e X1 ⟨rfl, ⟨nd, rfl⟩⟩
  have kK : KeepsOthers X (X.drewN nd) := ⟨Nat.le_refl _, fun _ _ h _ => h⟩
  have hu1 : Boxed (X.drewN nd) b2 60 u := hu
  have hrow1 : (X.drewN nd).ownsRow w5.heap.size 3 1 u pre.length (vs3 vf (pre.map (·.1))) := hrow
  have hB2 : Below w.heap.size w (X.drewN nd) := pw_below_drewN hB1 nd
  have hs1 : (X.drewN nd).heap[w.heap.size]? = some (.cells #[.int .i64 8] 3 (0, 0)) := hs0
  have h7 : w5.heap.size ≤ (X.drewN nd).heap.size := h6
  have k3 : (X.drewN nd).heap[b3]? = X.heap[b3]? := rfl
  have k4 : (X.drewN nd).heap[b4]? = X.heap[b4]? := rfl
  generalize X.drewN nd = Xd at kK hu1 hrow1 hB2 hs1 h7 k3 k4 ⊢
  have c0 := (blk_cell hs1 0).trans rfl
  have c1 := hu1.cell
  gi_wp2
  gi_loopw [9, 20] (fun v iv wx => v = .int .i64 (vf x) ∧ iv = .int .i64 0 ∧ wx = Xd) (fun _ _ _ => 0)
  case atStart => exact ⟨rfl, rfl, rfl⟩
  case round =>
   obtain ⟨rfl, rfl, rfl⟩ := hrel
   gi_wp2_with (gi_at_builtin; refine wpListIn_append_own _ rfl _ _ 60 rfl w5.heap.size 3 i0 (.int .i64 0) 1 8 hu60 hi hz0 hz1 hz2 rfl (by decide) _ _ _ rfl (hrow1.alloc _) ⟨wr.heap.size, 0, none⟩ 1 1 [.int .i64 (vf x)] rfl rfl (cell_one_new _ _ _) (by simp [Value.oneCell']) (by simp [maxLen]; omega) (by omega) (by simp; omega) ?_; intro v' w1 hown' hgrow _; obtain ⟨g', cap', rfl⟩ := ownsRow_succ hown'; obtain ⟨hv1, hv2, hr2, hk2, hb2', hlow, hsz⟩ := app5 (n₁ := w.heap.size) hu1 (by decide) hrow1 h7 (by omega) (by omega) hown' hgrow; have hc1 := hv1.cell; have hf1 := hv1.frozen)
   exact ⟨(kK.trans hk2).from _, ⟨(hlow b3 (by omega) (by omega)).trans k3, (hlow b4 (by omega) (by omega)).trans k4⟩, ⟨_, hv2, by simpa [vs3] using hr2, trivial⟩, hB2.trans hb2', (hlow _ (by omega) (by omega)).trans hs1, Nat.le_trans h7 hsz⟩
 case done =>
  rintro D ys X hD hys ⟨⟨u, hu, hrow, _⟩, hB1, hs0, h6⟩ hK
  have cu := hu.cell
  rw [hys] at hrow
  gi_wp2
  refine ⟨by simp, .inl ⟨_, _, rfl, run_takeDeferred hK, ?_⟩⟩
  have hyl : ys.length = ((List.range m).map vf).length := by rw [List.length_map, ← hys, List.length_map]
  have hfin : ∀ o', Kd.R (Kd.int .i64) 3 (X.putObj D o') w.heap.size (fun _ => True) u ((List.range m).map vf) := fun o' => by
   have h8 := ownsRow_putObj hrow o' hK rfl
   rw [hyl] at h8
   exact Kd.R_lower (⟨fun _ _ => trivial, vs3 vf (List.range m), h8, reps_vs3 _ _ _ _ _⟩ : Kd.R (Kd.int .i64) 3 (X.putObj D o') w5.heap.size (fun _ => True) u ((List.range m).map vf)) (by omega)
  exact ⟨_, results_tmp rfl _ _ _, u, rfl, hfin _, hB1.trans (belowK_b (w := w5) (by omega) X D _ _ (by omega) hK rfl rfl)⟩
 case stop =>
  rintro D cc pre W _ _ h _
  exact h.elim
set_option maxRecDepth 100000 in
set_option maxHeartbeats 8000000 in
theorem words_in (k : Nat) (ad : Addr) (m N c : Nat) (l : List Bool) (hm : m ≤ 5000) (hN : Aside0 (N = 8 * m)) (hc : N ≤ c) (w : World) (hA : Kd.C Kd.bool w (some ad) N l) (vf : Nat → Int)
  (hvf : ∀ x, x < m → bits_value.f k ((l.drop (8 * x)).take 8) = some (vf x)) :
  CallsIn Fence.wide 8 Try.prog 66 #[.slice (some ad) N c, .int .i64 8, .bool false] w fun e w' => ∃ u, e = .returned (.tuple #[u, .int .i64 0]) ∧ Kd.R (Kd.int .i64) 3 w' w.heap.size (fun _ => True) u ((List.range m).map vf) ∧ Below w.heap.size w w' := by
 refine callsIn_of_wp Try.func66 rfl trivial ?_ rfl
 simp only [Try.ntmps66, List.size_toArray, List.length_cons, List.length_nil, Nat.reduceAdd, Nat.reduceSub, Array.replicate_succ, Array.replicate_zero, List.push_toArray, List.append_toArray, List.nil_append, List.cons_append]
 gi_wp2
 refine ⟨trivial, (groups_in k ad m N c l hm hN hc _ hA vf hvf).mono ?_⟩
 rintro e w1 ⟨u, rfl, hR, hb⟩
 gi_wp2
 refine bodyPost_ret (results_tmp2 rfl _ _ _) rfl ?_
 exact ⟨u, rfl, hR, hb⟩
end Go.Proofs.Ytbbnagjfjgkgjaa.L
