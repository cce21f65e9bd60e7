/- The points that qrlayout's path yields, in order: the iterator's contract. -/
import Derived.RangeFuncNested
import Derived.RangeFuncBound
import Derived.RangeFuncCalls
import Derived.RangeFuncLeaves
import Derived.Shelf.Abstract
import Derived.Shelf.RegionOpen
import Derived.WalkKit
import Derived.OwnWalkIn
import Derived.TacticsInMore
import Derived.LoopNIn
import Derived.LoopIn
import Derived.Test.YtbbnagjfjgkgjaaKALx3
namespace Go.Proofs.Ytbbnagjfjgkgjaa.L
open Go.RowKit Go.Shelf Go.Proofs.YtbbnagjfjgkgjaaW.PrintWords Go.Proofs.YtbbnagjfjgkgjaaW.PrintLast Go.Proofs.YtbbnagjfjgkgjaaW.PrintMore
attribute [local go_sem] Oper.semAt_some
set_option linter.unusedVariables false
set_option linter.unusedSimpArgs false

def pcol (s r : Int) (up : Bool) (i : Int) : S45 := ⟨wrap64 (r - Int.tmod i 2), if up then wrap64 (wrap64 (s - 1) - wrap64 (Int.tdiv i 2)) else wrap64 (Int.tdiv i 2)⟩
def colL (s r : Int) (up : Bool) (n : Nat) : List S45 := (List.range n).map fun (i : Nat) => pcol s r up (i : Int)
theorem colL_succ (s r : Int) (up : Bool) (n : Nat) : colL s r up (n + 1) = colL s r up n ++ [pcol s r up n] := by simp [colL, List.range_succ]
def allL (s : Int) : Nat → Int → Bool → List S45
  | 0, _, _ => []
  | n + 1, r, up => if r > 0 then colL s (if r = 6 then 5 else r) up (wrap64 (2 * s)).toNat ++ allL s n (wrap64 ((if r = 6 then 5 else r) - 2)) (!up) else []
def dataP (k : Nat) (v s : Int) (l : List Int) (ps : List S45) : List S45 := ps.filter fun p => qrlayout_frame_cell.f k v s l p.f0 p.f1 == some 1
def allK (k : Nat) (v s : Int) (l : List Int) (ps : List S45) : Prop := ∀ p ∈ ps, ∃ c, qrlayout_frame_cell.f k v s l p.f0 p.f1 = some c

def encP (p : S45) : Value := .agg #[.int .i64 p.f0, .int .i64 p.f1]
def FrB (Bs : Nat) (v s : Int) (A : Option Addr) (c : Nat) (l : List Int) (W : World) : Prop :=
  W.heap[Bs]? = some (.cells #[.int .i64 v, .int .i64 s, .slice A l.length c] 69 (0, 0)) ∧ Kd.C (Kd.int .i64) W A l.length l
theorem FrB.below {Bs : Nat} {v s : Int} {A : Option Addr} {c : Nat} {l : List Int} {W W' : World} (h : FrB Bs v s A c l W) (hb : Below W.heap.size W W') : FrB Bs v s A c l W' :=
  ⟨(hb.block Bs (Array.getElem?_eq_some_iff.1 h.1).1).trans h.1, Kd.C_below h.2 hb⟩
theorem FrB.cells {Bs : Nat} {v s : Int} {A : Option Addr} {c : Nat} {l : List Int} {W : World} (h : FrB Bs v s A c l W) :
    W.cell? ⟨Bs, 0, none⟩ = some (.int .i64 v) ∧ W.cell? ⟨Bs, 1, none⟩ = some (.int .i64 s) ∧ W.cell? ⟨Bs, 2, none⟩ = some (.slice A l.length c) := by
  refine ⟨?_, ?_, ?_⟩ <;> simp [World.cell?, h.1]
theorem grown_of_below {W W' : World} (h : Below W.heap.size W W') : W.grownBy W' none := ⟨h.os, h.tape, h.output, h.size, fun k hk _ => h.block k hk⟩

theorem pcol_nat (s r : Int) (up : Bool) (i : Nat) : pcol s r up (i : Int) = ⟨wrap64 (r - (i : Int) % 2), if up then wrap64 (wrap64 (s - 1) - wrap64 ((i : Int) / 2)) else wrap64 ((i : Int) / 2)⟩ := by
  simp only [pcol, Int.tmod_eq_emod_of_nonneg (Int.natCast_nonneg i), Int.tdiv_eq_ediv_of_nonneg (Int.natCast_nonneg i)]
theorem pcol_in (s r : Int) (up : Bool) (i : Nat) (h0 : 0 < r) (h1 : r ≤ 9223372036854775807) (hi : (i : Int) ≤ 9223372036854775807) : pcol s r up (i : Int) = ⟨r - (i : Int) % 2, if up then wrap64 (wrap64 (s - 1) - (i : Int) / 2) else (i : Int) / 2⟩ := by
  rw [pcol_nat, show wrap64 (r - (i : Int) % 2) = r - (i : Int) % 2 by unfold wrap64; omega, show wrap64 ((i : Int) / 2) = (i : Int) / 2 by unfold wrap64; omega]
theorem cell_alloc_p {W : World} {a : Addr} {v : Value} (o : Obj) (h : W.cell? a = some v) : (W.alloc o).cell? a = some v := cell_kept h (World.grownBy_alloc W o none) (fun r e => by cases e)
theorem dataP_app (k : Nat) (v s : Int) (l : List Int) (a b : List S45) : dataP k v s l (a ++ b) = dataP k v s l a ++ dataP k v s l b := List.filter_append _ _
theorem dataP_yes {k : Nat} {v s : Int} {l : List Int} {p : S45} (h : qrlayout_frame_cell.f k v s l p.f0 p.f1 = some 1) : dataP k v s l [p] = [p] := by simp [dataP, h]
theorem dataP_no {k : Nat} {v s : Int} {l : List Int} {p : S45} {c : Int} (h : qrlayout_frame_cell.f k v s l p.f0 p.f1 = some c) (hc : c ≠ 1) : dataP k v s l [p] = [] := by simp [dataP, h, hc]
theorem colL_split (s r : Int) (up : Bool) {i n : Nat} (h : i < n) : ∃ rest, colL s r up n = colL s r up (i + 1) ++ rest := by
  refine ⟨(colL s r up n).drop (i + 1), ?_⟩
  have : colL s r up (i + 1) = (colL s r up n).take (i + 1) := by
    simp only [colL, ← List.map_take, List.take_range]
    congr 2; omega
  rw [this, List.take_append_drop]

set_option maxRecDepth 100000 in
set_option maxHeartbeats 8000000 in
theorem path1_in (n : Nat) (hn : 1 ≤ n) (k : Nat) (lp Bs : Nat) (v s : Int) (A : Option Addr) (c : Nat) (l : List Int) (hc : l.length ≤ c) (N : Nat) (hN : (wrap64 (s - 1)).toNat ≤ N) (hlo0 : -2 ≤ wrap64 (s - 1))
    (ps : List S45) (hps : ps = dataP k v s l (allL s N (wrap64 (s - 1)) true)) (hall : allK k v s l (allL s N (wrap64 (s - 1)) true))
    (Inv : World → Prop) (hI : ∀ W, Inv W → FrB Bs v s A c l W) (hIb : ∀ W W', Inv W → Below W.heap.size W W' → Inv W') (Kp : World → World → Prop) (hKp : ∀ W W', Inv W → Kp W W' → Inv W')
    (J Jx : List S45 → World → Prop)
    (hY : ∀ pre x W, J pre W → pre.length < ps.length → YieldAt Fence.wide (n - 1) Try.prog lp #[encP x] W fun e W' =>
      (e = .returned (.bool true) ∧ J (pre ++ [x]) W' ∧ Kp W W') ∨ (e = .returned (.bool false) ∧ Jx (pre ++ [x]) W'))
    (W : World) (hJ : AbidesFrom W.heap.size J) (hB : Inv W) (h0 : J [] W) :
    CallsIn Fence.wide n Try.prog 84 #[.func (.yield lp) #[] #[], .pointer (some ⟨Bs, 0, none⟩)] W fun e W' => (∃ v, e = .returned v) ∧
      ((∃ ys, ys = ps ∧ J ys W') ∨ (∃ pre, pre <+: ps ∧ Jx pre W')) := by
  refine callsIn_of_wp Try.func84 rfl trivial ?_ rfl
  simp only [Try.ntmps84, List.size_toArray, List.length_cons, List.length_nil, Nat.reduceAdd, Nat.reduceSub, Array.replicate_succ, Array.replicate_zero, List.push_toArray, List.append_toArray, List.nil_append, List.cons_append]
  obtain ⟨b0, b1, b2⟩ := (hI _ hB).cells
  have hu69 := Try.underlying69
  have hu45 := Try.underlying45
  gi_wp2
  gi_loopw [3, 4] (fun u r wr => ∃ (m : Nat) (rr : Int) (up : Bool) (pre : List S45), u = .bool up ∧ r = .int .i64 rr ∧ rr.toNat ≤ m ∧ -2 ≤ rr ∧ rr ≤ 9223372036854775807 ∧ ps = pre ++ dataP k v s l (allL s m rr up) ∧ allK k v s l (allL s m rr up) ∧ J pre wr ∧ Inv wr)
    (fun _ r _ => (intOf r).toNat)
  case atStart =>
    have hw1 : -9223372036854775808 ≤ wrap64 (s - 1) ∧ wrap64 (s - 1) ≤ 9223372036854775807 := by unfold wrap64; omega
    exact ⟨N, _, true, [], rfl, rfl, hN, hlo0, hw1.2, by simpa using hps, hall, h0, hB⟩
  case round =>
    obtain ⟨m, rr, up, pre, rfl, rfl, hm, hlo, hhi, hps', hall', hJs, hBr⟩ := hrel
    clear hps hall
    by_cases hr : rr > 0
    · obtain ⟨m, rfl⟩ : ∃ m', m = m' + 1 := ⟨m - 1, by omega⟩
      rw [allL, if_pos hr] at hps' hall'
      obtain ⟨rq, hrq⟩ : ∃ rq, (if rr = 6 then 5 else rr) = rq := ⟨_, rfl⟩
      rw [hrq] at hps' hall'
      obtain ⟨d0, d1, d2⟩ := (hI _ hBr).cells
      by_cases h6 : rr = 6
      · subst h6
        obtain rfl : 5 = rq := hrq
        rw [show wrap64 (5 - 2) = 3 by unfold wrap64; omega] at hps' hall'
        gi_wp2
        gi_loopw [19] (fun iv wx => ∃ (i : Nat), iv = .int .i64 (i : Int) ∧ i ≤ (wrap64 (2 * s)).toNat ∧ J (pre ++ dataP k v s l (colL s (5) up i)) wx ∧ Inv wx)
          (fun iv _ => (wrap64 (2 * s)).toNat - (intOf iv).toNat)
        case atStart => exact ⟨0, rfl, Nat.zero_le _, by simpa [colL, dataP] using hJs, hBr⟩
        case round =>
          obtain ⟨i, rfl, hi, hJi, hBi⟩ := hrel
          obtain ⟨e0, e1, e2⟩ := (hI _ hBi).cells
          have hw2 : wrap64 (2 * s) ≤ 9223372036854775807 := by unfold wrap64; omega
          by_cases hlt : (i : Int) < wrap64 (2 * s)
          · have hmem : pcol s (5) up (i : Int) ∈ colL s (5) up (wrap64 (2 * s)).toNat := List.mem_map.2 ⟨i, List.mem_range.2 (by omega), rfl⟩
            obtain ⟨cv, hcv⟩ := hall' _ (List.mem_append_left _ hmem)
            have f0 : ∀ o, (wr.alloc o).cell? ⟨Bs, 0, none⟩ = some (.int .i64 v) := fun o => cell_alloc_p o e0
            have f1 : ∀ o, (wr.alloc o).cell? ⟨Bs, 1, none⟩ = some (.int .i64 s) := fun o => cell_alloc_p o e1
            have f2 : ∀ o, (wr.alloc o).cell? ⟨Bs, 2, none⟩ = some (.slice A l.length c) := fun o => cell_alloc_p o e2
            cases up
            · have hP : pcol s (5) false (i : Int) = ⟨5 - (i : Int) % 2, (i : Int) / 2⟩ := by rw [pcol_in s _ _ i (by omega) (by omega) (by omega)]; rfl
              rw [hP] at hcv
              have q0 : ∀ a b, (wr.alloc (.cells #[a, b] 45)).cell? ⟨wr.heap.size, 0, none⟩ = some a := fun a b => by rw [World.cell?_alloc_at _ _ _ _ rfl]; rfl
              have q1 : ∀ a b, (wr.alloc (.cells #[a, b] 45)).cell? ⟨wr.heap.size, 1, none⟩ = some b := fun a b => by rw [World.cell?_alloc_at _ _ _ _ rfl]; rfl
              have hbA : ∀ o, Below wr.heap.size wr (wr.alloc o) := fun o => (Below.refl _ wr).alloc (Nat.le_refl _) _
              gi_wp2
              refine ⟨trivial, (callsIn_wide.2 (qrlayout_frame_cell.calls k v s A c l (5 - (i : Int) % 2) ((i : Int) / 2) cv _ (Kd.C_below (hI _ hBi).2 (hbA _)) hc hcv)).mono ?_⟩
              rintro e w' ⟨rfl, hbw⟩
              have p0 : w'.cell? ⟨wr.heap.size, 0, none⟩ = some (.int .i64 (5 - (i : Int) % 2)) := (hbw.cell (p := ⟨wr.heap.size, 0, none⟩) (by simp)).trans (q0 _ _)
              have p1 : w'.cell? ⟨wr.heap.size, 1, none⟩ = some (.int .i64 ((i : Int) / 2)) := (hbw.cell (p := ⟨wr.heap.size, 1, none⟩) (by simp)).trans (q1 _ _)
              have hB' : Inv w' := hIb _ _ (hIb _ _ hBi (hbA _)) hbw
              have hJ' := hJ _ _ _ none (hJ _ _ _ none hJi (grown_of_below (hbA _)) (fun r e => by cases e)) (grown_of_below hbw) (fun r e => by cases e)
              clear hbw hbA
              by_cases hcv1 : cv = 1
              · subst hcv1
                have hlen : (pre ++ dataP k v s l (colL s (5) false i)).length < ps.length := by
                  obtain ⟨rest, hrest⟩ := colL_split s (5) false (i := i) (n := (wrap64 (2 * s)).toNat) (by omega)
                  rw [hps', hrest, colL_succ, dataP_app, dataP_app, dataP_app, hP, dataP_yes hcv]
                  simp
                obtain ⟨fn, tmps, assign, body, hy, hR⟩ := hY _ ⟨5 - (i : Int) % 2, (i : Int) / 2⟩ w' hJ' hlen
                dsimp only [encP] at hy
                gi_wp2
                refine hR.mono ?_
                rintro e W3 (⟨rfl, hJ3, hk3⟩ | ⟨rfl, hJx3⟩)
                · gi_wp2
                  go_roundw
                  case rel => exact ⟨i + 1, by simp, by omega, by rw [colL_succ, dataP_app, hP, dataP_yes hcv, ← List.append_assoc]; exact hJ3, hKp _ _ hB' hk3⟩
                  case measure => simp [intOf]; omega
                · gi_wp2
                  refine bodyPost_ret (results_none rfl _ _ _) rfl ?_
                  refine ⟨⟨_, rfl⟩, .inr ⟨_, ?_, hJx3⟩⟩
                  obtain ⟨rest, hrest⟩ := colL_split s (5) false (i := i) (n := (wrap64 (2 * s)).toNat) (by omega)
                  rw [hps', hrest, colL_succ, dataP_app, dataP_app, dataP_app, hP, dataP_yes hcv]
                  simp only [List.append_assoc]
                  exact ⟨_, by simp only [List.append_assoc]; rfl⟩
              · have hcb : (cv == 1) = false := beq_eq_false_iff_ne.mpr hcv1
                gi_wp2
                refine ⟨fun _ h => (by cases h), ?_⟩
                gi_wp2
                go_roundw
                case rel => exact ⟨i + 1, by simp, by omega, by rw [colL_succ, dataP_app, hP, dataP_no hcv hcv1, List.append_nil]; exact hJ', hB'⟩
                case measure => simp [intOf]; omega
            · have hP : pcol s (5) true (i : Int) = ⟨5 - (i : Int) % 2, wrap64 (wrap64 (s - 1) - (i : Int) / 2)⟩ := by rw [pcol_in s _ _ i (by omega) (by omega) (by omega)]; rfl
              rw [hP] at hcv
              have q0 : ∀ a b, (wr.alloc (.cells #[a, b] 45)).cell? ⟨wr.heap.size, 0, none⟩ = some a := fun a b => by rw [World.cell?_alloc_at _ _ _ _ rfl]; rfl
              have q1 : ∀ a b, (wr.alloc (.cells #[a, b] 45)).cell? ⟨wr.heap.size, 1, none⟩ = some b := fun a b => by rw [World.cell?_alloc_at _ _ _ _ rfl]; rfl
              have hbA : ∀ o, Below wr.heap.size wr (wr.alloc o) := fun o => (Below.refl _ wr).alloc (Nat.le_refl _) _
              gi_wp2
              refine ⟨trivial, (callsIn_wide.2 (qrlayout_frame_cell.calls k v s A c l (5 - (i : Int) % 2) (wrap64 (wrap64 (s - 1) - (i : Int) / 2)) cv _ (Kd.C_below (hI _ hBi).2 (hbA _)) hc hcv)).mono ?_⟩
              rintro e w' ⟨rfl, hbw⟩
              have p0 : w'.cell? ⟨wr.heap.size, 0, none⟩ = some (.int .i64 (5 - (i : Int) % 2)) := (hbw.cell (p := ⟨wr.heap.size, 0, none⟩) (by simp)).trans (q0 _ _)
              have p1 : w'.cell? ⟨wr.heap.size, 1, none⟩ = some (.int .i64 (wrap64 (wrap64 (s - 1) - (i : Int) / 2))) := (hbw.cell (p := ⟨wr.heap.size, 1, none⟩) (by simp)).trans (q1 _ _)
              have hB' : Inv w' := hIb _ _ (hIb _ _ hBi (hbA _)) hbw
              have hJ' := hJ _ _ _ none (hJ _ _ _ none hJi (grown_of_below (hbA _)) (fun r e => by cases e)) (grown_of_below hbw) (fun r e => by cases e)
              clear hbw hbA
              by_cases hcv1 : cv = 1
              · subst hcv1
                have hlen : (pre ++ dataP k v s l (colL s (5) true i)).length < ps.length := by
                  obtain ⟨rest, hrest⟩ := colL_split s (5) true (i := i) (n := (wrap64 (2 * s)).toNat) (by omega)
                  rw [hps', hrest, colL_succ, dataP_app, dataP_app, dataP_app, hP, dataP_yes hcv]
                  simp
                obtain ⟨fn, tmps, assign, body, hy, hR⟩ := hY _ ⟨5 - (i : Int) % 2, wrap64 (wrap64 (s - 1) - (i : Int) / 2)⟩ w' hJ' hlen
                dsimp only [encP] at hy
                gi_wp2
                refine hR.mono ?_
                rintro e W3 (⟨rfl, hJ3, hk3⟩ | ⟨rfl, hJx3⟩)
                · gi_wp2
                  go_roundw
                  case rel => exact ⟨i + 1, by simp, by omega, by rw [colL_succ, dataP_app, hP, dataP_yes hcv, ← List.append_assoc]; exact hJ3, hKp _ _ hB' hk3⟩
                  case measure => simp [intOf]; omega
                · gi_wp2
                  refine bodyPost_ret (results_none rfl _ _ _) rfl ?_
                  refine ⟨⟨_, rfl⟩, .inr ⟨_, ?_, hJx3⟩⟩
                  obtain ⟨rest, hrest⟩ := colL_split s (5) true (i := i) (n := (wrap64 (2 * s)).toNat) (by omega)
                  rw [hps', hrest, colL_succ, dataP_app, dataP_app, dataP_app, hP, dataP_yes hcv]
                  simp only [List.append_assoc]
                  exact ⟨_, by simp only [List.append_assoc]; rfl⟩
              · have hcb : (cv == 1) = false := beq_eq_false_iff_ne.mpr hcv1
                gi_wp2
                refine ⟨fun _ h => (by cases h), ?_⟩
                gi_wp2
                go_roundw
                case rel => exact ⟨i + 1, by simp, by omega, by rw [colL_succ, dataP_app, hP, dataP_no hcv hcv1, List.append_nil]; exact hJ', hB'⟩
                case measure => simp [intOf]; omega
          · obtain rfl : i = (wrap64 (2 * s)).toNat := by omega
            gi_wp2
            go_roundw
            case rel => exact ⟨m, _, !up, _, rfl, rfl, by omega, by omega, by omega, by rw [hps', dataP_app, ← List.append_assoc], fun p hp => hall' p (List.mem_append_right _ hp), hJi, hBi⟩
            case measure => first | (simp [intOf]; done) | (simp [intOf]; omega)
      · obtain rfl : rr = rq := by rw [← hrq, if_neg h6]
        have h6b : (rr == 6) = false := beq_eq_false_iff_ne.mpr h6
        rw [show wrap64 (rr - 2) = rr - 2 by unfold wrap64; omega] at hps' hall'
        gi_wp2
        gi_loopw [19] (fun iv wx => ∃ (i : Nat), iv = .int .i64 (i : Int) ∧ i ≤ (wrap64 (2 * s)).toNat ∧ J (pre ++ dataP k v s l (colL s (rr) up i)) wx ∧ Inv wx)
          (fun iv _ => (wrap64 (2 * s)).toNat - (intOf iv).toNat)
        case atStart => exact ⟨0, rfl, Nat.zero_le _, by simpa [colL, dataP] using hJs, hBr⟩
        case round =>
          obtain ⟨i, rfl, hi, hJi, hBi⟩ := hrel
          obtain ⟨e0, e1, e2⟩ := (hI _ hBi).cells
          have hw2 : wrap64 (2 * s) ≤ 9223372036854775807 := by unfold wrap64; omega
          by_cases hlt : (i : Int) < wrap64 (2 * s)
          · have hmem : pcol s (rr) up (i : Int) ∈ colL s (rr) up (wrap64 (2 * s)).toNat := List.mem_map.2 ⟨i, List.mem_range.2 (by omega), rfl⟩
            obtain ⟨cv, hcv⟩ := hall' _ (List.mem_append_left _ hmem)
            have f0 : ∀ o, (wr.alloc o).cell? ⟨Bs, 0, none⟩ = some (.int .i64 v) := fun o => cell_alloc_p o e0
            have f1 : ∀ o, (wr.alloc o).cell? ⟨Bs, 1, none⟩ = some (.int .i64 s) := fun o => cell_alloc_p o e1
            have f2 : ∀ o, (wr.alloc o).cell? ⟨Bs, 2, none⟩ = some (.slice A l.length c) := fun o => cell_alloc_p o e2
            cases up
            · have hP : pcol s (rr) false (i : Int) = ⟨rr - (i : Int) % 2, (i : Int) / 2⟩ := by rw [pcol_in s _ _ i (by omega) (by omega) (by omega)]; rfl
              rw [hP] at hcv
              have q0 : ∀ a b, (wr.alloc (.cells #[a, b] 45)).cell? ⟨wr.heap.size, 0, none⟩ = some a := fun a b => by rw [World.cell?_alloc_at _ _ _ _ rfl]; rfl
              have q1 : ∀ a b, (wr.alloc (.cells #[a, b] 45)).cell? ⟨wr.heap.size, 1, none⟩ = some b := fun a b => by rw [World.cell?_alloc_at _ _ _ _ rfl]; rfl
              have hbA : ∀ o, Below wr.heap.size wr (wr.alloc o) := fun o => (Below.refl _ wr).alloc (Nat.le_refl _) _
              gi_wp2
              refine ⟨trivial, (callsIn_wide.2 (qrlayout_frame_cell.calls k v s A c l (rr - (i : Int) % 2) ((i : Int) / 2) cv _ (Kd.C_below (hI _ hBi).2 (hbA _)) hc hcv)).mono ?_⟩
              rintro e w' ⟨rfl, hbw⟩
              have p0 : w'.cell? ⟨wr.heap.size, 0, none⟩ = some (.int .i64 (rr - (i : Int) % 2)) := (hbw.cell (p := ⟨wr.heap.size, 0, none⟩) (by simp)).trans (q0 _ _)
              have p1 : w'.cell? ⟨wr.heap.size, 1, none⟩ = some (.int .i64 ((i : Int) / 2)) := (hbw.cell (p := ⟨wr.heap.size, 1, none⟩) (by simp)).trans (q1 _ _)
              have hB' : Inv w' := hIb _ _ (hIb _ _ hBi (hbA _)) hbw
              have hJ' := hJ _ _ _ none (hJ _ _ _ none hJi (grown_of_below (hbA _)) (fun r e => by cases e)) (grown_of_below hbw) (fun r e => by cases e)
              clear hbw hbA
              by_cases hcv1 : cv = 1
              · subst hcv1
                have hlen : (pre ++ dataP k v s l (colL s (rr) false i)).length < ps.length := by
                  obtain ⟨rest, hrest⟩ := colL_split s (rr) false (i := i) (n := (wrap64 (2 * s)).toNat) (by omega)
                  rw [hps', hrest, colL_succ, dataP_app, dataP_app, dataP_app, hP, dataP_yes hcv]
                  simp
                obtain ⟨fn, tmps, assign, body, hy, hR⟩ := hY _ ⟨rr - (i : Int) % 2, (i : Int) / 2⟩ w' hJ' hlen
                dsimp only [encP] at hy
                gi_wp2
                refine hR.mono ?_
                rintro e W3 (⟨rfl, hJ3, hk3⟩ | ⟨rfl, hJx3⟩)
                · gi_wp2
                  go_roundw
                  case rel => exact ⟨i + 1, by simp, by omega, by rw [colL_succ, dataP_app, hP, dataP_yes hcv, ← List.append_assoc]; exact hJ3, hKp _ _ hB' hk3⟩
                  case measure => simp [intOf]; omega
                · gi_wp2
                  refine bodyPost_ret (results_none rfl _ _ _) rfl ?_
                  refine ⟨⟨_, rfl⟩, .inr ⟨_, ?_, hJx3⟩⟩
                  obtain ⟨rest, hrest⟩ := colL_split s (rr) false (i := i) (n := (wrap64 (2 * s)).toNat) (by omega)
                  rw [hps', hrest, colL_succ, dataP_app, dataP_app, dataP_app, hP, dataP_yes hcv]
                  simp only [List.append_assoc]
                  exact ⟨_, by simp only [List.append_assoc]; rfl⟩
              · have hcb : (cv == 1) = false := beq_eq_false_iff_ne.mpr hcv1
                gi_wp2
                refine ⟨fun _ h => (by cases h), ?_⟩
                gi_wp2
                go_roundw
                case rel => exact ⟨i + 1, by simp, by omega, by rw [colL_succ, dataP_app, hP, dataP_no hcv hcv1, List.append_nil]; exact hJ', hB'⟩
                case measure => simp [intOf]; omega
            · have hP : pcol s (rr) true (i : Int) = ⟨rr - (i : Int) % 2, wrap64 (wrap64 (s - 1) - (i : Int) / 2)⟩ := by rw [pcol_in s _ _ i (by omega) (by omega) (by omega)]; rfl
              rw [hP] at hcv
              have q0 : ∀ a b, (wr.alloc (.cells #[a, b] 45)).cell? ⟨wr.heap.size, 0, none⟩ = some a := fun a b => by rw [World.cell?_alloc_at _ _ _ _ rfl]; rfl
              have q1 : ∀ a b, (wr.alloc (.cells #[a, b] 45)).cell? ⟨wr.heap.size, 1, none⟩ = some b := fun a b => by rw [World.cell?_alloc_at _ _ _ _ rfl]; rfl
              have hbA : ∀ o, Below wr.heap.size wr (wr.alloc o) := fun o => (Below.refl _ wr).alloc (Nat.le_refl _) _
              gi_wp2
              refine ⟨trivial, (callsIn_wide.2 (qrlayout_frame_cell.calls k v s A c l (rr - (i : Int) % 2) (wrap64 (wrap64 (s - 1) - (i : Int) / 2)) cv _ (Kd.C_below (hI _ hBi).2 (hbA _)) hc hcv)).mono ?_⟩
              rintro e w' ⟨rfl, hbw⟩
              have p0 : w'.cell? ⟨wr.heap.size, 0, none⟩ = some (.int .i64 (rr - (i : Int) % 2)) := (hbw.cell (p := ⟨wr.heap.size, 0, none⟩) (by simp)).trans (q0 _ _)
              have p1 : w'.cell? ⟨wr.heap.size, 1, none⟩ = some (.int .i64 (wrap64 (wrap64 (s - 1) - (i : Int) / 2))) := (hbw.cell (p := ⟨wr.heap.size, 1, none⟩) (by simp)).trans (q1 _ _)
              have hB' : Inv w' := hIb _ _ (hIb _ _ hBi (hbA _)) hbw
              have hJ' := hJ _ _ _ none (hJ _ _ _ none hJi (grown_of_below (hbA _)) (fun r e => by cases e)) (grown_of_below hbw) (fun r e => by cases e)
              clear hbw hbA
              by_cases hcv1 : cv = 1
              · subst hcv1
                have hlen : (pre ++ dataP k v s l (colL s (rr) true i)).length < ps.length := by
                  obtain ⟨rest, hrest⟩ := colL_split s (rr) true (i := i) (n := (wrap64 (2 * s)).toNat) (by omega)
                  rw [hps', hrest, colL_succ, dataP_app, dataP_app, dataP_app, hP, dataP_yes hcv]
                  simp
                obtain ⟨fn, tmps, assign, body, hy, hR⟩ := hY _ ⟨rr - (i : Int) % 2, wrap64 (wrap64 (s - 1) - (i : Int) / 2)⟩ w' hJ' hlen
                dsimp only [encP] at hy
                gi_wp2
                refine hR.mono ?_
                rintro e W3 (⟨rfl, hJ3, hk3⟩ | ⟨rfl, hJx3⟩)
                · gi_wp2
                  go_roundw
                  case rel => exact ⟨i + 1, by simp, by omega, by rw [colL_succ, dataP_app, hP, dataP_yes hcv, ← List.append_assoc]; exact hJ3, hKp _ _ hB' hk3⟩
                  case measure => simp [intOf]; omega
                · gi_wp2
                  refine bodyPost_ret (results_none rfl _ _ _) rfl ?_
                  refine ⟨⟨_, rfl⟩, .inr ⟨_, ?_, hJx3⟩⟩
                  obtain ⟨rest, hrest⟩ := colL_split s (rr) true (i := i) (n := (wrap64 (2 * s)).toNat) (by omega)
                  rw [hps', hrest, colL_succ, dataP_app, dataP_app, dataP_app, hP, dataP_yes hcv]
                  simp only [List.append_assoc]
                  exact ⟨_, by simp only [List.append_assoc]; rfl⟩
              · have hcb : (cv == 1) = false := beq_eq_false_iff_ne.mpr hcv1
                gi_wp2
                refine ⟨fun _ h => (by cases h), ?_⟩
                gi_wp2
                go_roundw
                case rel => exact ⟨i + 1, by simp, by omega, by rw [colL_succ, dataP_app, hP, dataP_no hcv hcv1, List.append_nil]; exact hJ', hB'⟩
                case measure => simp [intOf]; omega
          · obtain rfl : i = (wrap64 (2 * s)).toNat := by omega
            gi_wp2
            go_roundw
            case rel => exact ⟨m, _, !up, _, rfl, rfl, by omega, by omega, by omega, by rw [hps', dataP_app, ← List.append_assoc], fun p hp => hall' p (List.mem_append_right _ hp), hJi, hBi⟩
            case measure => first | (simp [intOf]; done) | (simp [intOf]; omega)
    · have hnil : allL s m rr up = [] := by cases m with
        | zero => rfl
        | succ m => rw [allL, if_neg hr]
      rw [hnil] at hps'
      gi_wp2
      go_end0
      exact ⟨⟨_, rfl⟩, .inl (by simpa [dataP] using hJs)⟩
end Go.Proofs.Ytbbnagjfjgkgjaa.L
