/- The points that qrlayout's path yields: for a body that wants them to be of the path. -/
import Derived.RangeFuncNested
import Derived.RangeFuncBound
import Derived.RangeFuncCalls
import Derived.RangeFuncLeaves
import Derived.Shelf.Abstract
import Derived.Shelf.RegionOpen
import Derived.WalkKit
import Derived.OwnWalkIn
import Derived.TacticsInMore
import Derived.LoopNIn
import Derived.LoopIn
import Derived.Test.YtbbnagjfjgkgjaaKAPth
namespace Go.Proofs.Ytbbnagjfjgkgjaa.L
open Go.RowKit Go.Shelf Go.Proofs.YtbbnagjfjgkgjaaW.PrintWords Go.Proofs.YtbbnagjfjgkgjaaW.PrintLast Go.Proofs.YtbbnagjfjgkgjaaW.PrintMore
attribute [local go_sem] Oper.semAt_some
set_option linter.unusedVariables false
set_option linter.unusedSimpArgs false

set_option maxRecDepth 100000 in
set_option maxHeartbeats 8000000 in
/-- The iterator's contract, for a body that wants a point of the path. -/
theorem path1_mem (n : Nat) (hn : 1 ≤ n) (k : Nat) (lp Bs : Nat) (v s : Int) (A : Option Addr) (c : Nat) (l : List Int) (hc : l.length ≤ c) (N : Nat) (hN : (wrap64 (s - 1)).toNat ≤ N) (hlo0 : -2 ≤ wrap64 (s - 1))
    (ps : List S45) (hps : ps = dataP k v s l (allL s N (wrap64 (s - 1)) true)) (hall : allK k v s l (allL s N (wrap64 (s - 1)) true))
    (Inv : World → Prop) (hI : ∀ W, Inv W → FrB Bs v s A c l W) (hIb : ∀ W W', Inv W → Below W.heap.size W W' → Inv W') (Kp : World → World → Prop) (hKp : ∀ W W', Inv W → Kp W W' → Inv W')
    (J Jx : List S45 → World → Prop)
    (hY : ∀ pre x W, J pre W → x ∈ ps → pre.length < ps.length → YieldAt Fence.wide (n - 1) Try.prog lp #[encP x] W fun e W' =>
      (e = .returned (.bool true) ∧ J (pre ++ [x]) W' ∧ Kp W W') ∨ (e = .returned (.bool false) ∧ Jx (pre ++ [x]) W'))
    (W : World) (hJ : AbidesFrom W.heap.size J) (hB : Inv W) (h0 : J [] W) :
    CallsIn Fence.wide n Try.prog 84 #[.func (.yield lp) #[] #[], .pointer (some ⟨Bs, 0, none⟩)] W fun e W' => (∃ v, e = .returned v) ∧
      ((∃ ys, ys = ps ∧ J ys W') ∨ (∃ pre, pre <+: ps ∧ Jx pre W')) := by
  refine callsIn_of_wp Try.func84 rfl trivial ?_ rfl
  simp only [Try.ntmps84, List.size_toArray, List.length_cons, List.length_nil, Nat.reduceAdd, Nat.reduceSub, Array.replicate_succ, Array.replicate_zero, List.push_toArray, List.append_toArray, List.nil_append, List.cons_append]
  obtain ⟨b0, b1, b2⟩ := (hI _ hB).cells
  have hu69 := Try.underlying69
  have hu45 := Try.underlying45
  gi_wp2
  gi_loopw [3, 4] (fun u r wr => ∃ (m : Nat) (rr : Int) (up : Bool) (pre : List S45), u = .bool up ∧ r = .int .i64 rr ∧ rr.toNat ≤ m ∧ -2 ≤ rr ∧ rr ≤ 9223372036854775807 ∧ ps = pre ++ dataP k v s l (allL s m rr up) ∧ allK k v s l (allL s m rr up) ∧ J pre wr ∧ Inv wr)
    (fun _ r _ => (intOf r).toNat)
  case atStart =>
    have hw1 : -9223372036854775808 ≤ wrap64 (s - 1) ∧ wrap64 (s - 1) ≤ 9223372036854775807 := by unfold wrap64; omega
    exact ⟨N, _, true, [], rfl, rfl, hN, hlo0, hw1.2, by simpa using hps, hall, h0, hB⟩
  case round =>
    obtain ⟨m, rr, up, pre, rfl, rfl, hm, hlo, hhi, hps', hall', hJs, hBr⟩ := hrel
    clear hps hall
    by_cases hr : rr > 0
    · obtain ⟨m, rfl⟩ : ∃ m', m = m' + 1 := ⟨m - 1, by omega⟩
      rw [allL, if_pos hr] at hps' hall'
      obtain ⟨rq, hrq⟩ : ∃ rq, (if rr = 6 then 5 else rr) = rq := ⟨_, rfl⟩
      rw [hrq] at hps' hall'
      obtain ⟨d0, d1, d2⟩ := (hI _ hBr).cells
      by_cases h6 : rr = 6
      · subst h6
        obtain rfl : 5 = rq := hrq
        rw [show wrap64 (5 - 2) = 3 by unfold wrap64; omega] at hps' hall'
        gi_wp2
        gi_loopw [19] (fun iv wx => ∃ (i : Nat), iv = .int .i64 (i : Int) ∧ i ≤ (wrap64 (2 * s)).toNat ∧ J (pre ++ dataP k v s l (colL s (5) up i)) wx ∧ Inv wx)
          (fun iv _ => (wrap64 (2 * s)).toNat - (intOf iv).toNat)
        case atStart => exact ⟨0, rfl, Nat.zero_le _, by simpa [colL, dataP] using hJs, hBr⟩
        case round =>
          obtain ⟨i, rfl, hi, hJi, hBi⟩ := hrel
          obtain ⟨e0, e1, e2⟩ := (hI _ hBi).cells
          have hw2 : wrap64 (2 * s) ≤ 9223372036854775807 := by unfold wrap64; omega
          by_cases hlt : (i : Int) < wrap64 (2 * s)
          · have hmem : pcol s (5) up (i : Int) ∈ colL s (5) up (wrap64 (2 * s)).toNat := List.mem_map.2 ⟨i, List.mem_range.2 (by omega), rfl⟩
            obtain ⟨cv, hcv⟩ := hall' _ (List.mem_append_left _ hmem)
            have f0 : ∀ o, (wr.alloc o).cell? ⟨Bs, 0, none⟩ = some (.int .i64 v) := fun o => cell_alloc_p o e0
            have f1 : ∀ o, (wr.alloc o).cell? ⟨Bs, 1, none⟩ = some (.int .i64 s) := fun o => cell_alloc_p o e1
            have f2 : ∀ o, (wr.alloc o).cell? ⟨Bs, 2, none⟩ = some (.slice A l.length c) := fun o => cell_alloc_p o e2
            cases up
            · have hP : pcol s (5) false (i : Int) = ⟨5 - (i : Int) % 2, (i : Int) / 2⟩ := by rw [pcol_in s _ _ i (by omega) (by omega) (by omega)]; rfl
              rw [hP] at hcv
              have q0 : ∀ a b, (wr.alloc (.cells #[a, b] 45)).cell? ⟨wr.heap.size, 0, none⟩ = some a := fun a b => by rw [World.cell?_alloc_at _ _ _ _ rfl]; rfl
              have q1 : ∀ a b, (wr.alloc (.cells #[a, b] 45)).cell? ⟨wr.heap.size, 1, none⟩ = some b := fun a b => by rw [World.cell?_alloc_at _ _ _ _ rfl]; rfl
              have hbA : ∀ o, Below wr.heap.size wr (wr.alloc o) := fun o => (Below.refl _ wr).alloc (Nat.le_refl _) _
              gi_wp2
              refine ⟨trivial, (callsIn_wide.2 (qrlayout_frame_cell.calls k v s A c l (5 - (i : Int) % 2) ((i : Int) / 2) cv _ (Kd.C_below (hI _ hBi).2 (hbA _)) hc hcv)).mono ?_⟩
              rintro e w' ⟨rfl, hbw⟩
              have p0 : w'.cell? ⟨wr.heap.size, 0, none⟩ = some (.int .i64 (5 - (i : Int) % 2)) := (hbw.cell (p := ⟨wr.heap.size, 0, none⟩) (by simp)).trans (q0 _ _)
              have p1 : w'.cell? ⟨wr.heap.size, 1, none⟩ = some (.int .i64 ((i : Int) / 2)) := (hbw.cell (p := ⟨wr.heap.size, 1, none⟩) (by simp)).trans (q1 _ _)
              have hB' : Inv w' := hIb _ _ (hIb _ _ hBi (hbA _)) hbw
              have hJ' := hJ _ _ _ none (hJ _ _ _ none hJi (grown_of_below (hbA _)) (fun r e => by cases e)) (grown_of_below hbw) (fun r e => by cases e)
              clear hbw hbA
              by_cases hcv1 : cv = 1
              · subst hcv1
                have hlen : (pre ++ dataP k v s l (colL s (5) false i)).length < ps.length := by
                  obtain ⟨rest, hrest⟩ := colL_split s (5) false (i := i) (n := (wrap64 (2 * s)).toNat) (by omega)
                  rw [hps', hrest, colL_succ, dataP_app, dataP_app, dataP_app, hP, dataP_yes hcv]
                  simp
                obtain ⟨fn, tmps, assign, body, hy, hR⟩ := hY _ ⟨5 - (i : Int) % 2, (i : Int) / 2⟩ w' hJ' (by rw [hps']; exact List.mem_append_right _ (List.mem_filter.2 ⟨List.mem_append_left _ (hP ▸ hmem), by simp [hcv]⟩)) hlen
                dsimp only [encP] at hy
                gi_wp2
                refine hR.mono ?_
                rintro e W3 (⟨rfl, hJ3, hk3⟩ | ⟨rfl, hJx3⟩)
                · gi_wp2
                  go_roundw
                  case rel => exact ⟨i + 1, by simp, by omega, by rw [colL_succ, dataP_app, hP, dataP_yes hcv, ← List.append_assoc]; exact hJ3, hKp _ _ hB' hk3⟩
                  case measure => simp [intOf]; omega
                · gi_wp2
                  refine bodyPost_ret (results_none rfl _ _ _) rfl ?_
                  refine ⟨⟨_, rfl⟩, .inr ⟨_, ?_, hJx3⟩⟩
                  obtain ⟨rest, hrest⟩ := colL_split s (5) false (i := i) (n := (wrap64 (2 * s)).toNat) (by omega)
                  rw [hps', hrest, colL_succ, dataP_app, dataP_app, dataP_app, hP, dataP_yes hcv]
                  simp only [List.append_assoc]
                  exact ⟨_, by simp only [List.append_assoc]; rfl⟩
              · have hcb : (cv == 1) = false := beq_eq_false_iff_ne.mpr hcv1
                gi_wp2
                refine ⟨fun _ h => (by cases h), ?_⟩
                gi_wp2
                go_roundw
                case rel => exact ⟨i + 1, by simp, by omega, by rw [colL_succ, dataP_app, hP, dataP_no hcv hcv1, List.append_nil]; exact hJ', hB'⟩
                case measure => simp [intOf]; omega
            · have hP : pcol s (5) true (i : Int) = ⟨5 - (i : Int) % 2, wrap64 (wrap64 (s - 1) - (i : Int) / 2)⟩ := by rw [pcol_in s _ _ i (by omega) (by omega) (by omega)]; rfl
              rw [hP] at hcv
              have q0 : ∀ a b, (wr.alloc (.cells #[a, b] 45)).cell? ⟨wr.heap.size, 0, none⟩ = some a := fun a b => by rw [World.cell?_alloc_at _ _ _ _ rfl]; rfl
              have q1 : ∀ a b, (wr.alloc (.cells #[a, b] 45)).cell? ⟨wr.heap.size, 1, none⟩ = some b := fun a b => by rw [World.cell?_alloc_at _ _ _ _ rfl]; rfl
              have hbA : ∀ o, Below wr.heap.size wr (wr.alloc o) := fun o => (Below.refl _ wr).alloc (Nat.le_refl _) _
              gi_wp2
              refine ⟨trivial, (callsIn_wide.2 (qrlayout_frame_cell.calls k v s A c l (5 - (i : Int) % 2) (wrap64 (wrap64 (s - 1) - (i : Int) / 2)) cv _ (Kd.C_below (hI _ hBi).2 (hbA _)) hc hcv)).mono ?_⟩
              rintro e w' ⟨rfl, hbw⟩
              have p0 : w'.cell? ⟨wr.heap.size, 0, none⟩ = some (.int .i64 (5 - (i : Int) % 2)) := (hbw.cell (p := ⟨wr.heap.size, 0, none⟩) (by simp)).trans (q0 _ _)
              have p1 : w'.cell? ⟨wr.heap.size, 1, none⟩ = some (.int .i64 (wrap64 (wrap64 (s - 1) - (i : Int) / 2))) := (hbw.cell (p := ⟨wr.heap.size, 1, none⟩) (by simp)).trans (q1 _ _)
              have hB' : Inv w' := hIb _ _ (hIb _ _ hBi (hbA _)) hbw
              have hJ' := hJ _ _ _ none (hJ _ _ _ none hJi (grown_of_below (hbA _)) (fun r e => by cases e)) (grown_of_below hbw) (fun r e => by cases e)
              clear hbw hbA
              by_cases hcv1 : cv = 1
              · subst hcv1
                have hlen : (pre ++ dataP k v s l (colL s (5) true i)).length < ps.length := by
                  obtain ⟨rest, hrest⟩ := colL_split s (5) true (i := i) (n := (wrap64 (2 * s)).toNat) (by omega)
                  rw [hps', hrest, colL_succ, dataP_app, dataP_app, dataP_app, hP, dataP_yes hcv]
                  simp
                obtain ⟨fn, tmps, assign, body, hy, hR⟩ := hY _ ⟨5 - (i : Int) % 2, wrap64 (wrap64 (s - 1) - (i : Int) / 2)⟩ w' hJ' (by rw [hps']; exact List.mem_append_right _ (List.mem_filter.2 ⟨List.mem_append_left _ (hP ▸ hmem), by simp [hcv]⟩)) hlen
                dsimp only [encP] at hy
                gi_wp2
                refine hR.mono ?_
                rintro e W3 (⟨rfl, hJ3, hk3⟩ | ⟨rfl, hJx3⟩)
                · gi_wp2
                  go_roundw
                  case rel => exact ⟨i + 1, by simp, by omega, by rw [colL_succ, dataP_app, hP, dataP_yes hcv, ← List.append_assoc]; exact hJ3, hKp _ _ hB' hk3⟩
                  case measure => simp [intOf]; omega
                · gi_wp2
                  refine bodyPost_ret (results_none rfl _ _ _) rfl ?_
                  refine ⟨⟨_, rfl⟩, .inr ⟨_, ?_, hJx3⟩⟩
                  obtain ⟨rest, hrest⟩ := colL_split s (5) true (i := i) (n := (wrap64 (2 * s)).toNat) (by omega)
                  rw [hps', hrest, colL_succ, dataP_app, dataP_app, dataP_app, hP, dataP_yes hcv]
                  simp only [List.append_assoc]
                  exact ⟨_, by simp only [List.append_assoc]; rfl⟩
              · have hcb : (cv == 1) = false := beq_eq_false_iff_ne.mpr hcv1
                gi_wp2
                refine ⟨fun _ h => (by cases h), ?_⟩
                gi_wp2
                go_roundw
                case rel => exact ⟨i + 1, by simp, by omega, by rw [colL_succ, dataP_app, hP, dataP_no hcv hcv1, List.append_nil]; exact hJ', hB'⟩
                case measure => simp [intOf]; omega
          · obtain rfl : i = (wrap64 (2 * s)).toNat := by omega
            gi_wp2
            go_roundw
            case rel => exact ⟨m, _, !up, _, rfl, rfl, by omega, by omega, by omega, by rw [hps', dataP_app, ← List.append_assoc], fun p hp => hall' p (List.mem_append_right _ hp), hJi, hBi⟩
            case measure => first | (simp [intOf]; done) | (simp [intOf]; omega)
      · obtain rfl : rr = rq := by rw [← hrq, if_neg h6]
        have h6b : (rr == 6) = false := beq_eq_false_iff_ne.mpr h6
        rw [show wrap64 (rr - 2) = rr - 2 by unfold wrap64; omega] at hps' hall'
        gi_wp2
        gi_loopw [19] (fun iv wx => ∃ (i : Nat), iv = .int .i64 (i : Int) ∧ i ≤ (wrap64 (2 * s)).toNat ∧ J (pre ++ dataP k v s l (colL s (rr) up i)) wx ∧ Inv wx)
          (fun iv _ => (wrap64 (2 * s)).toNat - (intOf iv).toNat)
        case atStart => exact ⟨0, rfl, Nat.zero_le _, by simpa [colL, dataP] using hJs, hBr⟩
        case round =>
          obtain ⟨i, rfl, hi, hJi, hBi⟩ := hrel
          obtain ⟨e0, e1, e2⟩ := (hI _ hBi).cells
          have hw2 : wrap64 (2 * s) ≤ 9223372036854775807 := by unfold wrap64; omega
          by_cases hlt : (i : Int) < wrap64 (2 * s)
          · have hmem : pcol s (rr) up (i : Int) ∈ colL s (rr) up (wrap64 (2 * s)).toNat := List.mem_map.2 ⟨i, List.mem_range.2 (by omega), rfl⟩
            obtain ⟨cv, hcv⟩ := hall' _ (List.mem_append_left _ hmem)
            have f0 : ∀ o, (wr.alloc o).cell? ⟨Bs, 0, none⟩ = some (.int .i64 v) := fun o => cell_alloc_p o e0
            have f1 : ∀ o, (wr.alloc o).cell? ⟨Bs, 1, none⟩ = some (.int .i64 s) := fun o => cell_alloc_p o e1
            have f2 : ∀ o, (wr.alloc o).cell? ⟨Bs, 2, none⟩ = some (.slice A l.length c) := fun o => cell_alloc_p o e2
            cases up
            · have hP : pcol s (rr) false (i : Int) = ⟨rr - (i : Int) % 2, (i : Int) / 2⟩ := by rw [pcol_in s _ _ i (by omega) (by omega) (by omega)]; rfl
              rw [hP] at hcv
              have q0 : ∀ a b, (wr.alloc (.cells #[a, b] 45)).cell? ⟨wr.heap.size, 0, none⟩ = some a := fun a b => by rw [World.cell?_alloc_at _ _ _ _ rfl]; rfl
              have q1 : ∀ a b, (wr.alloc (.cells #[a, b] 45)).cell? ⟨wr.heap.size, 1, none⟩ = some b := fun a b => by rw [World.cell?_alloc_at _ _ _ _ rfl]; rfl
              have hbA : ∀ o, Below wr.heap.size wr (wr.alloc o) := fun o => (Below.refl _ wr).alloc (Nat.le_refl _) _
              gi_wp2
              refine ⟨trivial, (callsIn_wide.2 (qrlayout_frame_cell.calls k v s A c l (rr - (i : Int) % 2) ((i : Int) / 2) cv _ (Kd.C_below (hI _ hBi).2 (hbA _)) hc hcv)).mono ?_⟩
              rintro e w' ⟨rfl, hbw⟩
              have p0 : w'.cell? ⟨wr.heap.size, 0, none⟩ = some (.int .i64 (rr - (i : Int) % 2)) := (hbw.cell (p := ⟨wr.heap.size, 0, none⟩) (by simp)).trans (q0 _ _)
              have p1 : w'.cell? ⟨wr.heap.size, 1, none⟩ = some (.int .i64 ((i : Int) / 2)) := (hbw.cell (p := ⟨wr.heap.size, 1, none⟩) (by simp)).trans (q1 _ _)
              have hB' : Inv w' := hIb _ _ (hIb _ _ hBi (hbA _)) hbw
              have hJ' := hJ _ _ _ none (hJ _ _ _ none hJi (grown_of_below (hbA _)) (fun r e => by cases e)) (grown_of_below hbw) (fun r e => by cases e)
              clear hbw hbA
              by_cases hcv1 : cv = 1
              · subst hcv1
                have hlen : (pre ++ dataP k v s l (colL s (rr) false i)).length < ps.length := by
                  obtain ⟨rest, hrest⟩ := colL_split s (rr) false (i := i) (n := (wrap64 (2 * s)).toNat) (by omega)
                  rw [hps', hrest, colL_succ, dataP_app, dataP_app, dataP_app, hP, dataP_yes hcv]
                  simp
                obtain ⟨fn, tmps, assign, body, hy, hR⟩ := hY _ ⟨rr - (i : Int) % 2, (i : Int) / 2⟩ w' hJ' (by rw [hps']; exact List.mem_append_right _ (List.mem_filter.2 ⟨List.mem_append_left _ (hP ▸ hmem), by simp [hcv]⟩)) hlen
                dsimp only [encP] at hy
                gi_wp2
                refine hR.mono ?_
                rintro e W3 (⟨rfl, hJ3, hk3⟩ | ⟨rfl, hJx3⟩)
                · gi_wp2
                  go_roundw
                  case rel => exact ⟨i + 1, by simp, by omega, by rw [colL_succ, dataP_app, hP, dataP_yes hcv, ← List.append_assoc]; exact hJ3, hKp _ _ hB' hk3⟩
                  case measure => simp [intOf]; omega
                · gi_wp2
                  refine bodyPost_ret (results_none rfl _ _ _) rfl ?_
                  refine ⟨⟨_, rfl⟩, .inr ⟨_, ?_, hJx3⟩⟩
                  obtain ⟨rest, hrest⟩ := colL_split s (rr) false (i := i) (n := (wrap64 (2 * s)).toNat) (by omega)
                  rw [hps', hrest, colL_succ, dataP_app, dataP_app, dataP_app, hP, dataP_yes hcv]
                  simp only [List.append_assoc]
                  exact ⟨_, by simp only [List.append_assoc]; rfl⟩
              · have hcb : (cv == 1) = false := beq_eq_false_iff_ne.mpr hcv1
                gi_wp2
                refine ⟨fun _ h => (by cases h), ?_⟩
                gi_wp2
                go_roundw
                case rel => exact ⟨i + 1, by simp, by omega, by rw [colL_succ, dataP_app, hP, dataP_no hcv hcv1, List.append_nil]; exact hJ', hB'⟩
                case measure => simp [intOf]; omega
            · have hP : pcol s (rr) true (i : Int) = ⟨rr - (i : Int) % 2, wrap64 (wrap64 (s - 1) - (i : Int) / 2)⟩ := by rw [pcol_in s _ _ i (by omega) (by omega) (by omega)]; rfl
              rw [hP] at hcv
              have q0 : ∀ a b, (wr.alloc (.cells #[a, b] 45)).cell? ⟨wr.heap.size, 0, none⟩ = some a := fun a b => by rw [World.cell?_alloc_at _ _ _ _ rfl]; rfl
              have q1 : ∀ a b, (wr.alloc (.cells #[a, b] 45)).cell? ⟨wr.heap.size, 1, none⟩ = some b := fun a b => by rw [World.cell?_alloc_at _ _ _ _ rfl]; rfl
              have hbA : ∀ o, Below wr.heap.size wr (wr.alloc o) := fun o => (Below.refl _ wr).alloc (Nat.le_refl _) _
              gi_wp2
              refine ⟨trivial, (callsIn_wide.2 (qrlayout_frame_cell.calls k v s A c l (rr - (i : Int) % 2) (wrap64 (wrap64 (s - 1) - (i : Int) / 2)) cv _ (Kd.C_below (hI _ hBi).2 (hbA _)) hc hcv)).mono ?_⟩
              rintro e w' ⟨rfl, hbw⟩
              have p0 : w'.cell? ⟨wr.heap.size, 0, none⟩ = some (.int .i64 (rr - (i : Int) % 2)) := (hbw.cell (p := ⟨wr.heap.size, 0, none⟩) (by simp)).trans (q0 _ _)
              have p1 : w'.cell? ⟨wr.heap.size, 1, none⟩ = some (.int .i64 (wrap64 (wrap64 (s - 1) - (i : Int) / 2))) := (hbw.cell (p := ⟨wr.heap.size, 1, none⟩) (by simp)).trans (q1 _ _)
              have hB' : Inv w' := hIb _ _ (hIb _ _ hBi (hbA _)) hbw
              have hJ' := hJ _ _ _ none (hJ _ _ _ none hJi (grown_of_below (hbA _)) (fun r e => by cases e)) (grown_of_below hbw) (fun r e => by cases e)
              clear hbw hbA
              by_cases hcv1 : cv = 1
              · subst hcv1
                have hlen : (pre ++ dataP k v s l (colL s (rr) true i)).length < ps.length := by
                  obtain ⟨rest, hrest⟩ := colL_split s (rr) true (i := i) (n := (wrap64 (2 * s)).toNat) (by omega)
                  rw [hps', hrest, colL_succ, dataP_app, dataP_app, dataP_app, hP, dataP_yes hcv]
                  simp
                obtain ⟨fn, tmps, assign, body, hy, hR⟩ := hY _ ⟨rr - (i : Int) % 2, wrap64 (wrap64 (s - 1) - (i : Int) / 2)⟩ w' hJ' (by rw [hps']; exact List.mem_append_right _ (List.mem_filter.2 ⟨List.mem_append_left _ (hP ▸ hmem), by simp [hcv]⟩)) hlen
                dsimp only [encP] at hy
                gi_wp2
                refine hR.mono ?_
                rintro e W3 (⟨rfl, hJ3, hk3⟩ | ⟨rfl, hJx3⟩)
                · gi_wp2
                  go_roundw
                  case rel => exact ⟨i + 1, by simp, by omega, by rw [colL_succ, dataP_app, hP, dataP_yes hcv, ← List.append_assoc]; exact hJ3, hKp _ _ hB' hk3⟩
                  case measure => simp [intOf]; omega
                · gi_wp2
                  refine bodyPost_ret (results_none rfl _ _ _) rfl ?_
                  refine ⟨⟨_, rfl⟩, .inr ⟨_, ?_, hJx3⟩⟩
                  obtain ⟨rest, hrest⟩ := colL_split s (rr) true (i := i) (n := (wrap64 (2 * s)).toNat) (by omega)
                  rw [hps', hrest, colL_succ, dataP_app, dataP_app, dataP_app, hP, dataP_yes hcv]
                  simp only [List.append_assoc]
                  exact ⟨_, by simp only [List.append_assoc]; rfl⟩
              · have hcb : (cv == 1) = false := beq_eq_false_iff_ne.mpr hcv1
                gi_wp2
                refine ⟨fun _ h => (by cases h), ?_⟩
                gi_wp2
                go_roundw
                case rel => exact ⟨i + 1, by simp, by omega, by rw [colL_succ, dataP_app, hP, dataP_no hcv hcv1, List.append_nil]; exact hJ', hB'⟩
                case measure => simp [intOf]; omega
          · obtain rfl : i = (wrap64 (2 * s)).toNat := by omega
            gi_wp2
            go_roundw
            case rel => exact ⟨m, _, !up, _, rfl, rfl, by omega, by omega, by omega, by rw [hps', dataP_app, ← List.append_assoc], fun p hp => hall' p (List.mem_append_right _ hp), hJi, hBi⟩
            case measure => first | (simp [intOf]; done) | (simp [intOf]; omega)
    · have hnil : allL s m rr up = [] := by cases m with
        | zero => rfl
        | succ m => rw [allL, if_neg hr]
      rw [hnil] at hps'
      gi_wp2
      go_end0
      exact ⟨⟨_, rfl⟩, .inl (by simpa [dataP] using hJs)⟩

theorem path_stopsB (n : Nat) (hn : 1 ≤ n) (k : Nat) (Bs : Nat) (v s : Int) (A : Option Addr) (c : Nat) (l : List Int) (hc : l.length ≤ c) (hlo : -2 ≤ wrap64 (s - 1))
    (ps : List S45) (hps : ps = dataP k v s l (allL s (wrap64 (s - 1)).toNat (wrap64 (s - 1)) true)) (hall : allK k v s l (allL s (wrap64 (s - 1)).toNat (wrap64 (s - 1)) true))
    (wc w : World) (hC : Kd.C (Kd.int .i64) wc A l.length l) (hB : w.heap[Bs]? = some (.cells #[.int .i64 v, .int .i64 s, .slice A l.length c] 69 (0, 0))) (hb : Below wc.heap.size wc w) :
    SeqStopsK Fence.wide n Try.prog 84 #[.pointer (some ⟨Bs, 0, none⟩)] (fun p : { p : S45 // p ∈ ps } => #[encP p.1]) (fun X Y => Below wc.heap.size X Y ∧ Y.heap[Bs]? = X.heap[Bs]?) (fun ys => ys.map (·.1) = ps) (fun pre => pre.map (·.1) <+: ps) ps.length w := fun lp J Jx W hW hJ hJx hY h0 => by
  refine (path1_mem n hn k lp Bs v s A c l hc _ (Nat.le_refl _) hlo ps hps hall (fun X => X.heap[Bs]? = some (.cells #[.int .i64 v, .int .i64 s, .slice A l.length c] 69 (0, 0)) ∧ Below wc.heap.size wc X) (fun X h => ⟨h.1, Kd.C_below hC h.2⟩)
    (fun X X' h h' => ⟨(h'.block Bs (Array.getElem?_eq_some_iff.1 h.1).1).trans h.1, h.2.trans (h'.mono h.2.size)⟩) (fun X Y => Below wc.heap.size X Y ∧ Y.heap[Bs]? = X.heap[Bs]?) (fun X X' h h' => ⟨h'.2.trans h.1, h.2.trans h'.1⟩)
    (fun pre X => ∃ q : List { p : S45 // p ∈ ps }, q.map (·.1) = pre ∧ J q X) (fun pre X => ∃ q : List { p : S45 // p ∈ ps }, q.map (·.1) = pre ∧ Jx q X) ?_ W (fun s X Y row hs hg hr => ?_)
    ⟨(hW.block Bs (Array.getElem?_eq_some_iff.1 hB).1).trans hB, hb.trans (hW.mono hb.size)⟩ ⟨[], rfl, h0⟩).mono ?_
  · rintro pre x X ⟨q, rfl, hq⟩ hx hlt
    obtain ⟨fn, tmps, assign, body, hy, hR⟩ := hY q ⟨x, hx⟩ X hq (by simpa using hlt)
    refine ⟨fn, tmps, assign, body, hy, hR.mono ?_⟩
    rintro e X' (⟨rfl, h1, h2⟩ | ⟨rfl, h1⟩)
    · exact .inl ⟨rfl, ⟨_, by simp, h1⟩, h2⟩
    · exact .inr ⟨rfl, ⟨_, by simp, h1⟩⟩
  · obtain ⟨q, e, hq⟩ := hs
    exact ⟨q, e, hJ q X Y row hq hg hr⟩
  · rintro e X' ⟨he, h⟩
    refine ⟨he, ?_⟩
    rcases h with ⟨ys, rfl, q, e, hq⟩ | ⟨pre, hp, q, rfl, hq⟩
    · exact .inl ⟨q, e, hq⟩
    · exact .inr ⟨q, hp, hq⟩
end Go.Proofs.Ytbbnagjfjgkgjaa.L
