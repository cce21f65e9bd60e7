/- A part of the claim. -/
import Derived.Test.YtbbnagjfjgkgjaaKALx0
import Derived.Great.Walk
import Derived.Great.BuildSlice
import Derived.Laws.CopyOwn
namespace Go.Proofs.Ytbbnagjfjgkgjaa.L
open Go.RowKit Go.Proofs.YtbbnagjfjgkgjaaW.PrintWords Go.Proofs.YtbbnagjfjgkgjaaW.PrintLast Go.Proofs.YtbbnagjfjgkgjaaW.PrintMore

def ctRows : List (String × List Int) :=
  [("qrversion.go:65", []),
   ("qrversion.go:65", [6, 18]),
   ("qrversion.go:65", [6, 22]),
   ("qrversion.go:65", [6, 26]),
   ("qrversion.go:65", [6, 30]),
   ("qrversion.go:65", [6, 34]),
   ("qrversion.go:65", [6, 22, 38]),
   ("qrversion.go:65", [6, 24, 42]),
   ("qrversion.go:65", [6, 26, 46]),
   ("qrversion.go:65", [6, 28, 50]),
   ("qrversion.go:65", [6, 30, 54]),
   ("qrversion.go:65", [6, 32, 58]),
   ("qrversion.go:65", [6, 34, 62]),
   ("qrversion.go:65", [6, 26, 46, 66]),
   ("qrversion.go:65", [6, 26, 48, 70]),
   ("qrversion.go:65", [6, 26, 50, 74]),
   ("qrversion.go:65", [6, 30, 54, 78]),
   ("qrversion.go:65", [6, 30, 56, 82]),
   ("qrversion.go:65", [6, 30, 58, 86]),
   ("qrversion.go:65", [6, 34, 62, 90]),
   ("qrversion.go:65", [6, 28, 50, 72, 94]),
   ("qrversion.go:65", [6, 26, 50, 74, 98]),
   ("qrversion.go:65", [6, 30, 54, 78, 102]),
   ("qrversion.go:65", [6, 28, 54, 80, 106]),
   ("qrversion.go:65", [6, 32, 58, 84, 110]),
   ("qrversion.go:65", [6, 30, 58, 86, 114]),
   ("qrversion.go:65", [6, 34, 62, 90, 118]),
   ("qrversion.go:65", [6, 26, 50, 74, 98, 122]),
   ("qrversion.go:65", [6, 30, 54, 78, 102, 126]),
   ("qrversion.go:65", [6, 26, 52, 78, 104, 130]),
   ("qrversion.go:65", [6, 30, 56, 82, 108, 134]),
   ("qrversion.go:65", [6, 34, 60, 86, 112, 138]),
   ("qrversion.go:65", [6, 30, 58, 86, 114, 142]),
   ("qrversion.go:65", [6, 34, 62, 90, 118, 146]),
   ("qrversion.go:65", [6, 30, 54, 78, 102, 126, 150]),
   ("qrversion.go:65", [6, 24, 50, 76, 102, 128, 154]),
   ("qrversion.go:65", [6, 28, 54, 80, 106, 132, 158]),
   ("qrversion.go:65", [6, 32, 58, 84, 110, 136, 162]),
   ("qrversion.go:65", [6, 26, 54, 82, 110, 138, 166]),
   ("qrversion.go:65", [6, 30, 58, 86, 114, 142, 170])]

def litOp (d : Nat) (r : String × List Int) : Oper :=
  { dst := some d, op := .buildSlice 60 r.2.length ((r.2.zipIdx 0).map fun x => (x.2, Operand.const (Value.int .i64 x.1))).toArray, type := 60, pos := r.1, after := #[], guard := none }
def litOps : Nat → List (String × List Int) → List Oper
  | _, [] => []
  | d, r :: rs => litOp d r :: litOps (d + 1) rs

theorem reps_ints (w : World) (b : Nat) (ok : Nat → Prop) : ∀ xs : List Int, Reps (Kd.M (Kd.int .i64) w b ok) 1 xs (xs.map (Value.int .i64))
  | [] => Reps.none _ _
  | x :: xs => Reps.one (show Kd.M (Kd.int .i64) _ _ _ x [.int .i64 x] from rfl) (reps_ints w b ok xs)

theorem lit_step {ops : Array Oper} {rest : List Oper} {Q : Exit → Act → World → Prop} (d : Nat) (r : String × List Int) (hr : r.2.length ≤ 100) (a : Act) (w0 W : World) (HB : Below w0.heap.size w0 W)
    (h : ∀ v w1, Kd.R (Kd.int .i64) 3 w1 w0.heap.size (fun _ => True) v r.2 → Below w0.heap.size w0 w1 → Below W.heap.size W w1 → wpList Try.prog ops Q rest (a.put (some d) v) w1) :
    wpList Try.prog ops Q (litOp d r :: rest) a W := by
  have hrow : Kd.R (Kd.int .i64) 3 (W.alloc (.cells (r.2.map (Value.int .i64)).toArray 3)) w0.heap.size (fun _ => True) (.slice (some ⟨W.heap.size, 0, none⟩) r.2.length r.2.length) r.2 := by
    refine ⟨fun _ _ => trivial, r.2.map (Value.int .i64), ?_, reps_ints _ _ _ _⟩
    have h2 := World.ownsRow_lit (base := w0.heap.size) (e := 3) (size := 1) W (r.2.map (Value.int .i64)).toArray r.2.length HB.size (by simp [maxLen]; omega) (by simp)
    have h3 : (W.alloc (.cells (r.2.map (Value.int .i64)).toArray 3)).ownsRow w0.heap.size 3 1 (.slice (some ⟨W.heap.size, 0, none⟩) r.2.length r.2.length) r.2.length (r.2.map (Value.int .i64)) := by simpa using h2
    exact h3
  have hb2 : Below W.heap.size W (W.alloc (.cells (r.2.map (Value.int .i64)).toArray 3)) := below_alloc (Below.refl _ _) _
  have hb1 : Below w0.heap.size w0 (W.alloc (.cells (r.2.map (Value.int .i64)).toArray 3)) := HB.alloc HB.size _
  cases hz : r.2 with
  | nil =>
    rw [hz] at hrow hb1 hb2
    refine Great.wpList_allocTo rfl (some d) rfl (.slice (some ⟨W.heap.size, 0, none⟩) 0 0) (.cells #[] 3) ?_ (h _ _ (by rw [hz]; exact hrow) hb1 hb2)
    unfold litOp
    rw [hz]
    first | (go_simp; done) | (go_simp; rfl)
  | cons x xs =>
    have hpos : 0 < r.2.length := by rw [hz]; simp
    exact wpList_buildFlat rfl 60 3 r.2.length _ rfl .i64 r.2 Try.underlying60 (by kernel_rfl) (by kernel_rfl) rfl hpos (by omega) rfl (h _ _ hrow hb1 hb2)

theorem lits {ops : Array Oper} {rest : List Oper} {Q : Exit → Act → World → Prop} (w0 : World) : ∀ (rs : List (String × List Int)) (d : Nat) (a : Act) (W : World), (∀ r ∈ rs, r.2.length ≤ 100) → d + rs.length ≤ a.tmps.size → Below w0.heap.size w0 W →
    (∀ (a' : Act) (W' : World), a'.tmps.size = a.tmps.size → a'.defers = a.defers → (∀ i (h : i < rs.length), Kd.R (Kd.int .i64) 3 W' w0.heap.size (fun _ => True) (a'.eval (.tmp (d + i))) rs[i].2) →
      (∀ j, j < d → a'.eval (.tmp j) = a.eval (.tmp j)) → Below w0.heap.size w0 W' → Below W.heap.size W W' → wpList Try.prog ops Q rest a' W') →
    wpList Try.prog ops Q (litOps d rs ++ rest) a W
  | [], d, a, W, _, _, HB, h => h a W rfl rfl (fun i hi => absurd hi (by simp)) (fun _ _ => rfl) HB (Below.refl _ _)
  | r :: rs, d, a, W, hl, hd, HB, h => by
    have hlt : d < a.tmps.size := by simp at hd; omega
    show wpList Try.prog ops Q (litOp d r :: (litOps (d + 1) rs ++ rest)) a W
    refine lit_step d r (hl r (by simp)) a w0 W HB fun v w1 hv hb1 hb2 => ?_
    refine lits w0 rs (d + 1) _ w1 (fun x hx => hl x (by simp [hx])) (by rw [Act.size_put]; simp at hd; omega) hb1 fun a' W' hs hdf hev hlow hB hB2 => ?_
    refine h a' W' (hs.trans (Act.size_put _ _ _)) (hdf.trans (Act.defers_put' _ _ _)) (fun i hi => ?_) (fun j hj => ?_) hB (below_then hb2 hb2.size hB2)
    · cases i with
      | zero =>
        rw [Nat.add_zero, hlow d (by omega), Act.eval_put_same _ _ _ hlt]
        exact Kd.R_below hv hB2
      | succ i =>
        have := hev i (by simpa using hi)
        rw [show d + (i + 1) = d + 1 + i by omega]
        simpa using this
    · rw [hlow j (by omega), Act.eval_put_ne _ _ _ _ (by omega)]

theorem built_slices (t e n : Nat) (vs : List Value) (hn : vs.length = n) (hu : Try.prog.underlying t = some (.array n e)) (hsz : (Try.prog.info? e).map (·.size) = some 1)
    (hz : ((Try.prog.info? t).bind (·.zero)).map (·.cells.size) = some n) (h1 : ∀ v ∈ vs, v.cells = #[v]) : Try.prog.built t ((vs.zipIdx 0).map fun x => (x.2, x.1)) = some vs.toArray := by
  cases hie : Try.prog.info? e with
  | none => simp [hie] at hsz
  | some ie =>
    cases hit : Try.prog.info? t with
    | none => simp [hit] at hz
    | some it =>
      cases hzz : it.zero with
      | none => simp [hit, hzz] at hz
      | some z =>
        simp only [hie, hit, hzz, Option.map_some, Option.some.injEq, Option.bind_some] at hsz hz
        unfold Program.built
        simp only [hit, hu, hzz, hie]
        rw [hsz]
        exact Great.fill_flat _ _ h1 (by rw [hn, hz])

theorem tmp_parts (a : Act) : ∀ (n d i : Nat), ((((List.range' i n).map fun j => (j, Operand.tmp (d + j))).toArray.map fun (i, x) => (i, a.eval x)).toList) =
    ((((List.range' i n).map fun j => a.eval (.tmp (d + j))).zipIdx i).map fun x => (x.2, x.1))
  | 0, _, _ => by simp
  | n + 1, d, i => by
    have := tmp_parts a n d (i + 1)
    simp only [List.range'_succ, List.map_cons, List.zipIdx_cons] at this ⊢
    simpa using this

theorem ct_types : ∀ q, q ∈ 3 :: (Kd.int .i64).E → q ≠ 115 := by
  intro q hq
  have : q = 3 := by simpa [Kd.int, Kd.scalar] using hq
  omega
theorem ct_short : ctRows.all (fun r => decide (r.2.length ≤ 100)) = true := by decide
def CtRow (w w' : World) (cells : Array Value) : Prop :=
  cells.size = 40 ∧ ∀ i (h : i < 40), Kd.R (Kd.int .i64) 3 w' w.heap.size (fun _ => True) (cells[i]?.getD undef) ((ctRows[i]'(by simpa [ctRows] using h)).2)

theorem centers_region {ops : Array Oper} {Q : Exit → Act → World → Prop} {o1 o2 : Oper} (L : List Oper) (hL : L = litOps 1 ctRows ++ [o1, o2]) (a : Act) (w : World) (z : Array Value)
    (hs : a.tmps.size = 42) (hd : a.defers = []) (h0 : a.eval (.tmp 0) = .pointer (some ⟨w.heap.size, 0, none⟩)) (hz : z.size = 40)
    (g1 : o1.guard = none) (d1 : o1.dst = some 41) (p1 : o1.op = .build 115 (((List.range' 0 40).map fun j => (j, Operand.tmp (1 + j))).toArray))
    (g2 : o2.guard = none) (d2 : o2.dst = none) (p2 : o2.op = .store 115 (.tmp 0) (.tmp 41))
    (h : ∀ (a' : Act) (cells : Array Value) (w' : World), a'.defers = [] → a'.eval (.tmp 0) = .pointer (some ⟨w.heap.size, 0, none⟩) → w'.heap[w.heap.size]? = some (.cells cells 115 (0, 0)) → CtRow w w' cells → Below w.heap.size w w' → wpList Try.prog ops Q [] a' w') :
    wpList Try.prog ops Q L a (w.alloc (.cells z 115)) := by
  subst hL
  have HB0 : Below w.heap.size w (w.alloc (.cells z 115)) := below_alloc (Below.refl _ _) _
  have hblk : (w.alloc (.cells z 115)).heap[w.heap.size]? = some (.cells z 115 (0, 0)) := heap_alloc_new w _
  refine lits w ctRows 1 a _ (fun r hr => of_decide_eq_true (List.all_eq_true.1 ct_short r hr)) (by rw [hs]; decide) HB0 fun a' W' hs' hdf hev hlow hB hB2 => ?_
  have hlen : ctRows.length = 40 := rfl
  have hlt : w.heap.size < (w.alloc (.cells z 115)).heap.size := by simp
  have hblk' : W'.heap[w.heap.size]? = some (.cells z 115 (0, 0)) := (hB2.block _ hlt).trans hblk
  have hone : ∀ v ∈ (List.range' 0 40).map (fun j => a'.eval (.tmp (1 + j))), v.cells = #[v] ∧ v.oneCell' = true := by
    intro v hv
    obtain ⟨j, hj, rfl⟩ := List.mem_map.1 hv
    rw [List.mem_range'_1] at hj
    obtain ⟨A, c, e⟩ := Kd.R_slice (hev j (by omega))
    rw [e]
    exact ⟨rfl, rfl⟩
  refine wpList_buildTo g1 115 _ p1 (some 41) d1 ((List.range' 0 40).map fun j => a'.eval (.tmp (1 + j))).toArray ?_ ?_
  · rw [tmp_parts]
    exact built_slices 115 60 40 _ (by simp) Try.underlying115 (by kernel_rfl) (by kernel_rfl) (fun v hv => (hone v hv).1)
  · refine wpList_store_rowTo g2 115 _ _ p2 d2 w.heap.size ((List.range' 0 40).map fun j => a'.eval (.tmp (1 + j))).toArray ?_ ?_ 115 z hblk' (by kernel_rfl) (by simp [hz]) ?_ ?_
    · rw [Act.eval_put_ne _ _ _ _ (by omega), hlow 0 (by omega), h0]
    · rw [Act.eval_put_same _ _ _ (by omega)]
    · simp only [List.all_toArray]
      exact List.all_eq_true.2 fun v hv => (hone v hv).2
    · have hblk2 := setRow_heap W' w.heap.size z ((List.range' 0 40).map fun j => a'.eval (.tmp (1 + j))).toArray 115 (0, 0) hblk'
      refine h _ _ _ (by rw [Act.defers_put', hdf, hd]) (by rw [Act.eval_put_ne _ _ _ _ (by omega), hlow 0 (by omega), h0]) hblk2 ⟨by simp, fun i hi => ?_⟩ (below_setRow hB (Nat.le_refl _) _)
      have hr := hev i (by omega)
      have hr2 := Kd.R_types hr hblk' ct_types
      have hr3 := Kd.R_step (w1 := W'.setRow w.heap.size ((List.range' 0 40).map fun j => a'.eval (.tmp (1 + j))).toArray) hr2 (fun k hk _ => setRow_other _ _ _ _ hk.2)
      have hget : (((List.range' 0 40).map fun j => a'.eval (.tmp (1 + j))).toArray)[i]?.getD undef = a'.eval (.tmp (1 + i)) := by
        simp [hi]
      rw [hget]
      exact Kd.R_mono hr3 (fun _ _ => trivial)

set_option maxHeartbeats 4000000 in
set_option maxRecDepth 100000 in
theorem centers_any (w : World) :
    Calls Try.prog 88 #[] w fun e w' => ∃ cells, e = .returned (.agg cells) ∧ CtRow w w' cells ∧ Below w.heap.size w w' := by
  go_enter Try.func88, Try.ntmps88
  go_wp2_with ((with_reducible refine gate_dst (N := 1) rfl ?_); refine centers_region _ rfl _ w _ rfl rfl rfl rfl rfl rfl rfl rfl rfl rfl ?_; intro a' cells w' hd' h0' hblk hrow hB)
  have hsz : (Try.prog.info? 115).map (·.size) = some cells.size := by rw [hrow.1]; kernel_rfl
  refine bodyPost_ret (results_single rfl (.cell w.heap.size 115 cells (0, 0) _ h0' hblk Try.underlying115 rfl hsz .nil)) hd' ?_
  exact ⟨cells, rfl, hrow, hB⟩

theorem run_idx_sl (t n : Nat) (cs : Array Value) (i : Nat) (w : World) (h : Try.prog.underlying t = some (.array n 60)) (hi : i < n) (hc : i < cs.size) :
    (Instr.index t (.agg cs) (.int .i64 (i : Int))).run Try.prog w = .ok (cs[i]?.getD undef) w := by
  have hn : (0 : Int) ≤ (i : Int) ∧ (i : Int) < (n : Int) := by omega
  simp [Instr.index, run_underlying h, asIntOf, hn, go_sem, part, hc]
  omega
theorem run_idx_row (cs : Array Value) (i : Nat) (w : World) (hi : i < 40) :
    (Instr.index 112 (.agg cs) (.int .i64 (i : Int))).run Try.prog w = .ok (.agg (cs.extract (i * 10) (i * 10 + 10))) w := by
  have hn : (0 : Int) ≤ (i : Int) ∧ (i : Int) < (40 : Int) := by omega
  simp [Instr.index, asIntOf, hn, go_sem, part]
  omega

end Go.Proofs.Ytbbnagjfjgkgjaa.L
