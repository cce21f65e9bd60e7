/- qrlayout's Path, walked: the range over the path's iterator. -/
import Derived.RangeFuncNested
import Derived.RangeFuncBound
import Derived.RangeFuncCalls
import Derived.RangeFuncLeaves
import Derived.Shelf.Abstract
import Derived.Shelf.RegionOpen
import Derived.WalkKit
import Derived.OwnWalkIn
import Derived.TacticsInMore
import Derived.LoopNIn
import Derived.LoopIn
import Derived.Test.YtbbnagjfjgkgjaaKAPth
namespace Go.Proofs.Ytbbnagjfjgkgjaa.L
open Go.RowKit Go.Shelf Go.Proofs.YtbbnagjfjgkgjaaW.PrintWords Go.Proofs.YtbbnagjfjgkgjaaW.PrintLast Go.Proofs.YtbbnagjfjgkgjaaW.PrintMore
attribute [local go_sem] Oper.semAt_some
set_option linter.unusedVariables false
set_option linter.unusedSimpArgs false

def csP (ps : List S45) : List Value := ps.flatMap fun p => [.int .i64 p.f0, .int .i64 p.f1]
theorem csP_snoc (ps : List S45) (p : S45) : csP (ps ++ [p]) = csP ps ++ [.int .i64 p.f0, .int .i64 p.f1] := by simp [csP]
theorem cell_two_new (w : World) (x y : Value) (t : TypeId) : ∀ j u, [x, y][j]? = some u → (w.alloc (.cells #[x, y] t)).cell? ((⟨w.heap.size, 0, none⟩ : Addr).add j) = some u := by
  intro j u hj
  match j, hj with
  | 0, hj => simp at hj; subst hj; simp [Addr.add]
  | 1, hj => simp at hj; subst hj; simp [Addr.add]
theorem reps_csP (ps : List S45) (w : World) (base : Nat) (ok : Nat → Prop) : Reps (k45.M w base ok) 2 ps (csP ps) := by
  induction ps with
  | nil => exact Reps.none _ _
  | cons p ps ih => exact Kd.reps_append ((Reps.none _ _).snoc (k45_mkM _ _ _ p) rfl) ih
theorem R_of_owns {W : World} {base : Nat} {v : Value} {ps : List S45} (h : W.ownsRow base 45 2 v ps.length (csP ps)) : Kd.R k45 45 W base (fun _ => True) v ps :=
  ⟨fun _ _ => trivial, csP ps, h, reps_csP ps _ _ _⟩

theorem path_stops (n : Nat) (hn : 1 ≤ n) (k : Nat) (Bs : Nat) (v s : Int) (A : Option Addr) (c : Nat) (l : List Int) (hc : l.length ≤ c) (hlo : -2 ≤ wrap64 (s - 1))
    (ps : List S45) (hps : ps = dataP k v s l (allL s (wrap64 (s - 1)).toNat (wrap64 (s - 1)) true)) (hall : allK k v s l (allL s (wrap64 (s - 1)).toNat (wrap64 (s - 1)) true))
    (w0 w : World) (hB : FrB Bs v s A c l w0) (hb : Below w0.heap.size w0 w) :
    SeqStopsK Fence.wide n Try.prog 84 #[.pointer (some ⟨Bs, 0, none⟩)] (fun p : S45 => #[encP p]) (Below w0.heap.size) (fun ys => ys = ps) (fun pre => pre <+: ps) ps.length w := fun lp J Jx W hW hJ hJx hY h0 =>
  path1_in n hn k lp Bs v s A c l hc _ (Nat.le_refl _) hlo ps hps hall (Below w0.heap.size w0) (fun W h => hB.below h) (fun W W' h h' => h.trans (h'.mono h.size)) (Below w0.heap.size) (fun W W' h h' => h.trans h') J Jx hY W hJ (hb.trans (hW.mono hb.size)) h0

set_option maxRecDepth 100000 in
set_option maxHeartbeats 4000000 in
theorem AppendSeq_in (n : Nat) (hn : 4 ≤ n) (k : Nat) (Bf : Nat) (v s : Int) (A : Option Addr) (c : Nat) (l : List Int) (hc : l.length ≤ c) (hlo : -2 ≤ wrap64 (s - 1))
    (ps : List S45) (hps : ps = dataP k v s l (allL s (wrap64 (s - 1)).toNat (wrap64 (s - 1)) true)) (hall : allK k v s l (allL s (wrap64 (s - 1)).toNat (wrap64 (s - 1)) true))
    (hlen : ps.length ≤ 1000000) (w : World) (hB : FrB Bf v s A c l w) :
    CallsIn Fence.wide n Try.prog 83 #[.slice none 0 0, .func (.func 84) #[] #[.pointer (some ⟨Bf, 0, none⟩)]] w fun e W' => ∃ u, e = .returned u ∧ Kd.R k45 45 W' w.heap.size (fun _ => True) u ps ∧ Below w.heap.size w W' := by
  have h1 : 1 ≤ n := by omega
  have hu45 := Try.underlying45
  have hu51 := Try.underlying51
  obtain ⟨i0, hi, hz0, hz1, hz2⟩ := info_parts info45
  refine callsIn_of_wp_marks Try.func83 rfl trivial ?_ rfl
  simp only [Try.ntmps83, List.size_toArray, List.length_cons, List.length_nil, Nat.reduceAdd, Nat.reduceSub, Array.replicate_succ, Array.replicate_zero, List.push_toArray, List.append_toArray, List.nil_append, List.cons_append]
  gi_wp2
  have bO := Boxed.new w 51 (.slice none 0 0)
  have hB0 : Below w.heap.size w (w.alloc (.cells #[.slice none 0 0] 51)) := (Below.refl _ w).alloc (Nat.le_refl _) _
  refine wpIn_rangeFunc_ownH rfl h1 (gf := 84) (lb := #[.pointer (some ⟨Bf, 0, none⟩)]) rfl trivial (enters_of Try.func84 (by kernel_rfl) rfl)
    (path_stops (n - 1) (by omega) k Bf v s A c l hc hlo ps hps hall w _ hB hB0) belowK_t (belowK_b (by simp)) (Below.refl _ _) (fun _ => rfl)
    (fun pre W => (∃ u, Boxed W w.heap.size 51 u ∧ W.ownsRow w.heap.size 45 2 u pre.length (csP pre) ∧ True) ∧ Below w.heap.size w W)
    (fun _ _ _ => False)
    (OwnFrom.and (Own.from (holdsRow_own w.heap.size w.heap.size 51 45 2 (fun pre => pre.length) (fun pre => csP pre) (fun _ _ => True)) _) (ownFrom_below (Nat.le_refl _) (by simp)))
    (fun _ _ _ _ _ hs _ _ => hs)
    ⟨⟨_, bO, World.ownsRow_nil _ _ _ _, trivial⟩, hB0⟩
    (fun x a' W => ∃ Bx, w.heap.size < Bx ∧ W.heap[Bx]? = some (.cells #[.int .i64 x.f0, .int .i64 x.f1] 45 (0, 0)) ∧ a' = { tmps := #[.slice none 0 0, .func (.func 84) #[] #[.pointer (some ⟨Bf, 0, none⟩)], .pointer (some ⟨w.heap.size, 0, none⟩), undef, .slice none 0 0, .pointer (some ⟨Bx, 0, none⟩), .func (.func 84) #[] #[.pointer (some ⟨Bf, 0, none⟩)], encP x, undef, undef, undef, undef, undef], defers := [] })
    (fun x a' _ X Y row hs hg hr => by
      obtain ⟨Bx, e1, e2, e3⟩ := hs
      refine ⟨Bx, e1, ?_, e3⟩
      rw [hg.block Bx (Array.getElem?_eq_some_iff.1 e2).1 (fun e => by obtain ⟨o, ho, hc⟩ := (hr Bx e.symm).2; rw [e2] at ho; cases ho; cases hc)]
      exact e2)
    ?assign ?body ?done ?stop
  case assign =>
    rintro lp pre x W K ⟨⟨u, hu, hrow, _⟩, hB1⟩ hK
    dsimp only [encP]
    gi_wp2
    refine hK _ _ ((KeepsOthers.alloc _ _).from _) ((Below.refl _ W).alloc hB1.size _) ⟨⟨u, hu.alloc _, hrow.alloc _, trivial⟩, hB1.alloc hB1.size _⟩ ⟨W.heap.size, hu.lt, World.alloc_heap_new W _, rfl⟩
  case body =>
    rintro lp pre x a' W hl ⟨r, hr⟩ ⟨⟨u, hu, hrow, _⟩, hB1⟩ ⟨Bx, hBx, bX, rfl⟩ hlt
    have cu := hu.cell
    have x0 : W.cell? ⟨Bx, 0, none⟩ = some (.int .i64 x.f0) := by simp [World.cell?, bX]
    have x1 : W.cell? ⟨Bx, 1, none⟩ = some (.int .i64 x.f1) := by simp [World.cell?, bX]
    dsimp only [encP]
    gi_wp2_with (gi_at_builtin; refine wpListIn_append_own _ rfl _ _ 51 rfl w.heap.size 45 i0 (.agg #[.int .i64 0, .int .i64 0]) 2 16 hu51 hi hz0 hz1 hz2 rfl (by decide) _ _ _ rfl (hrow.alloc _) ⟨W.heap.size, 0, none⟩ 1 1 [.int .i64 x.f0, .int .i64 x.f1] rfl rfl (cell_two_new _ _ _ _) (by simp [Value.oneCell']) (by simp [maxLen]; omega) (by omega) (by have := hB1.size; simp; omega) ?_; intro v' w1 hown' hgrow _; obtain ⟨g', cap', rfl⟩ := ownsRow_succ hown'; obtain ⟨hv1, hv2, hr2, hk2, hb2⟩ := hu.appended (by decide) hrow hB1.size (Nat.le_refl _) hown' hgrow; have hc1 := hv1.cell; have hf1 := hv1.frozen)
    exact ⟨hk2.from _, hb2, ⟨_, hv2, by rw [csP_snoc]; simpa using hr2, trivial⟩, hB1.trans hb2⟩
  case done =>
    rintro D ys W hD rfl ⟨⟨u, hu, hrow, _⟩, hB1⟩ hK
    have cu := hu.cell
    gi_wp2
    refine ⟨by simp, .inl ⟨_, _, rfl, run_takeDeferred hK, ?_⟩⟩
    exact ⟨_, results_tmp rfl _ _ _, u, rfl, R_of_owns (ownsRow_putObj hrow _ hK rfl), hB1.trans (belowK_b (w := w) (Nat.le_refl _) W D _ _ (by simp at hD; omega) hK rfl rfl)⟩
  case stop =>
    rintro D cc pre W _ _ h _
    exact h.elim
theorem pathF_in (n : Nat) (v s : Int) (A : Option Addr) (c : Nat) (l : List Int) (w : World) :
    CallsIn Fence.wide n Try.prog 61 #[.agg #[.int .i64 v, .int .i64 s, .slice A l.length c]] w fun e W' => e = .returned (.func (.func 84) #[] #[.pointer (some ⟨w.heap.size, 0, none⟩)]) ∧ W' = w.alloc (.cells #[.int .i64 v, .int .i64 s, .slice A l.length c] 69) := by
  have hu69 := Try.underlying69
  refine callsIn_of_wp Try.func61 rfl trivial ?_ rfl
  simp only [Try.ntmps61, List.size_toArray, List.length_cons, List.length_nil, Nat.reduceAdd, Nat.reduceSub, Array.replicate_succ, Array.replicate_zero, List.push_toArray, List.append_toArray, List.nil_append, List.cons_append]
  gi_wp2
  go_ret
  exact ⟨rfl, rfl⟩
theorem Collect_in (n : Nat) (hn : 5 ≤ n) (k : Nat) (Bf : Nat) (v s : Int) (A : Option Addr) (c : Nat) (l : List Int) (hc : l.length ≤ c) (hlo : -2 ≤ wrap64 (s - 1))
    (ps : List S45) (hps : ps = dataP k v s l (allL s (wrap64 (s - 1)).toNat (wrap64 (s - 1)) true)) (hall : allK k v s l (allL s (wrap64 (s - 1)).toNat (wrap64 (s - 1)) true))
    (hlen : ps.length ≤ 1000000) (w : World) (hB : FrB Bf v s A c l w) :
    CallsIn Fence.wide n Try.prog 60 #[.func (.func 84) #[] #[.pointer (some ⟨Bf, 0, none⟩)]] w fun e W' => ∃ u, e = .returned u ∧ Kd.R k45 45 W' w.heap.size (fun _ => True) u ps ∧ Below w.heap.size w W' := by
  refine callsIn_of_wp Try.func60 rfl trivial ?_ rfl
  simp only [Try.ntmps60, List.size_toArray, List.length_cons, List.length_nil, Nat.reduceAdd, Nat.reduceSub, Array.replicate_succ, Array.replicate_zero, List.push_toArray, List.append_toArray, List.nil_append, List.cons_append]
  have h1 : 1 ≤ n := by omega
  gi_wp2
  refine ⟨trivial, (AppendSeq_in (n - 1) (by omega) k Bf v s A c l hc hlo ps hps hall hlen w hB).mono ?_⟩
  rintro e w1 ⟨u, rfl, hR, hb⟩
  gi_wp2
  go_ret
  exact ⟨_, rfl, hR, hb⟩
def pathO (k : Nat) (v s : Int) (l : List Int) : Option (List S45) :=
  if -2 ≤ wrap64 (s - 1) ∧ (allL s (wrap64 (s - 1)).toNat (wrap64 (s - 1)) true).all (fun p => (qrlayout_frame_cell.f k v s l p.f0 p.f1).isSome) = true ∧ (dataP k v s l (allL s (wrap64 (s - 1)).toNat (wrap64 (s - 1)) true)).length ≤ 1000000
  then some (dataP k v s l (allL s (wrap64 (s - 1)).toNat (wrap64 (s - 1)) true)) else none
def qrlayout_Path.f (k : Nat) (a0 : Int) : Option (List S45 × Int) := (qrlayout_frameOf.f k a0).bind fun z => if z.2.2.2 = 0 then (pathO k z.1 z.2.1 z.2.2.1).bind fun ps => some (ps, 0) else some ([], z.2.2.2)
theorem allK_of {k : Nat} {v s : Int} {l : List Int} {ps : List S45} (h : ps.all (fun p => (qrlayout_frame_cell.f k v s l p.f0 p.f1).isSome) = true) : allK k v s l ps := fun p hp => Option.isSome_iff_exists.1 (List.all_eq_true.1 h p hp)
set_option maxRecDepth 100000 in
set_option maxHeartbeats 4000000 in
theorem qrlayout_Path.calls (k : Nat) (a0 : Int) (r1 : List (S45)) (r2 : Int) (w : World) (h : qrlayout_Path.f k a0 = some (r1, r2)) :
    Calls Try.prog 25 #[.int .i64 a0] w fun e w' => ∃ v0_ : Value, e = .returned (.tuple #[v0_, .int .i64 r2]) ∧ Kd.R k45 45 w' w.heap.size (fun _ => True) v0_ r1 ∧ Below w.heap.size w w' := by
  have hu69 := Try.underlying69
  unfold qrlayout_Path.f at h
  obtain ⟨⟨v, s, l, e0⟩, hz, h⟩ := Option.bind_eq_some_iff.mp h
  dsimp only at h
  refine (callsIn_wide (n := 7)).1 ?_
  refine callsIn_of_wp Try.func25 rfl trivial ?_ rfl
  simp only [Try.ntmps25, List.size_toArray, List.length_cons, List.length_nil, Nat.reduceAdd, Nat.reduceSub, Array.replicate_succ, Array.replicate_zero, List.push_toArray, List.append_toArray, List.nil_append, List.cons_append]
  by_cases he0 : e0 = 0
  · subst he0
    rw [if_pos rfl] at h
    obtain ⟨ps, hps, h⟩ := Option.bind_eq_some_iff.mp h
    simp only [Option.some.injEq, Prod.mk.injEq] at h
    obtain ⟨rfl, rfl⟩ := h
    unfold pathO at hps
    split at hps
    · rename_i hh
      obtain ⟨hlo, hall, hlen⟩ := hh
      replace hall := allK_of hall
      simp only [Option.some.injEq] at hps
      rw [hps] at hlen
      gi_wp2
      refine ⟨trivial, (callsIn_wide.2 (qrlayout_frameOf.calls k a0 v s l 0 w hz)).mono ?_⟩
      rintro e w1 ⟨v2, rfl, hR, hb⟩
      obtain ⟨A, c, rfl, hc, hC⟩ := Kd.R_reads hR
      gi_wp2
      refine ⟨trivial, (pathF_in _ v s A c l _).mono ?_⟩
      rintro e w2 ⟨rfl, rfl⟩
      have hF : FrB (w1.heap.size + 1) v s A c l ((w1.alloc (.cells #[.int .i64 v, .int .i64 s, .slice A l.length c] 69)).alloc (.cells #[.int .i64 v, .int .i64 s, .slice A l.length c] 69)) := ⟨by have := World.alloc_heap_new (w1.alloc (.cells #[.int .i64 v, .int .i64 s, .slice A l.length c] 69)) (.cells #[.int .i64 v, .int .i64 s, .slice A l.length c] 69); rwa [World.size_alloc] at this, Kd.C_alloc (Kd.C_alloc hC _) _⟩
      have hb2 : Below w.heap.size w ((w1.alloc (.cells #[.int .i64 v, .int .i64 s, .slice A l.length c] 69)).alloc (.cells #[.int .i64 v, .int .i64 s, .slice A l.length c] 69)) := (hb.alloc hb.size _).alloc (by have := hb.size; simp; omega) _
      gi_wp2
      refine ⟨trivial, (Collect_in 6 (by omega) k _ v s A c l hc hlo ps hps.symm hall hlen _ hF).mono ?_⟩
      rintro e w3 ⟨u, rfl, hR3, hb3⟩
      gi_wp2
      refine bodyPost_ret (results_tmp2 rfl _ _ _) rfl ?_
      exact ⟨_, rfl, Kd.R_lower hR3 hb2.size, hb2.trans (hb3.mono hb2.size)⟩
    · cases hps
  · rw [if_neg he0] at h
    simp only [Option.some.injEq, Prod.mk.injEq] at h
    obtain ⟨rfl, rfl⟩ := h
    have z1 : (e0 == 0) = false := beq_eq_false_iff_ne.mpr he0
    have z2 : (e0 != 0) = true := bne_iff_ne.mpr he0
    gi_wp2
    refine ⟨trivial, (callsIn_wide.2 (qrlayout_frameOf.calls k a0 v s l e0 w hz)).mono ?_⟩
    rintro e w1 ⟨v2, rfl, hR, hb⟩
    obtain ⟨A, c, rfl, hc, hC⟩ := Kd.R_reads hR
    gi_wp2
    refine bodyPost_ret (results_tmp2 rfl _ _ _) rfl ?_
    exact ⟨_, rfl, Kd.R_nil _ _ _ _ _, hb.alloc hb.size _⟩
end Go.Proofs.Ytbbnagjfjgkgjaa.L
