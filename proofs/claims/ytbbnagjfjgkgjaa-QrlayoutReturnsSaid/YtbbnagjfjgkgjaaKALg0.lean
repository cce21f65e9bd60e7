/- qrversion's table, and the numbers of codewords. -/
import Derived.Deep.Cut
import Derived.Test.YtbbnagjfjgkgjaaKACen
import Derived.Test.YtbbnagjfjgkgjaaKALx4
namespace Go.Proofs.Ytbbnagjfjgkgjaa.L
open Go Go.RowKit Go.Proofs.YtbbnagjfjgkgjaaW.PrintWords Go.Proofs.YtbbnagjfjgkgjaaW.PrintLast Go.Proofs.YtbbnagjfjgkgjaaW.PrintMore
set_option linter.unusedVariables false
set_option linter.unusedSimpArgs false

def tabRows : List (List Int) :=
 [[26, 0, 7, 10, 13, 17, 1, 1, 1, 1],
  [44, 7, 10, 16, 22, 28, 1, 1, 1, 1],
  [70, 7, 15, 26, 18, 22, 1, 1, 2, 2],
  [100, 7, 20, 18, 26, 16, 1, 2, 2, 4],
  [134, 7, 26, 24, 18, 22, 1, 2, 4, 4],
  [172, 7, 18, 16, 24, 28, 2, 4, 4, 4],
  [196, 0, 20, 18, 18, 26, 2, 4, 6, 5],
  [242, 0, 24, 22, 22, 26, 2, 4, 6, 6],
  [292, 0, 30, 22, 20, 24, 2, 5, 8, 8],
  [346, 0, 18, 26, 24, 28, 4, 5, 8, 8],
  [404, 0, 20, 30, 28, 24, 4, 5, 8, 11],
  [466, 0, 24, 22, 26, 28, 4, 8, 10, 11],
  [532, 0, 26, 22, 24, 22, 4, 9, 12, 16],
  [581, 3, 30, 24, 20, 24, 4, 9, 16, 16],
  [655, 3, 22, 24, 30, 24, 6, 10, 12, 18],
  [733, 3, 24, 28, 24, 30, 6, 10, 17, 16],
  [815, 3, 28, 28, 28, 28, 6, 11, 16, 19],
  [901, 3, 30, 26, 28, 28, 6, 13, 18, 21],
  [991, 3, 28, 26, 26, 26, 7, 14, 21, 25],
  [1085, 3, 28, 26, 30, 28, 8, 16, 20, 25],
  [1156, 4, 28, 26, 28, 30, 8, 17, 23, 25],
  [1258, 4, 28, 28, 30, 24, 9, 17, 23, 34],
  [1364, 4, 30, 28, 30, 30, 9, 18, 25, 30],
  [1474, 4, 30, 28, 30, 30, 10, 20, 27, 32],
  [1588, 4, 26, 28, 30, 30, 12, 21, 29, 35],
  [1706, 4, 28, 28, 28, 30, 12, 23, 34, 37],
  [1828, 4, 30, 28, 30, 30, 12, 25, 34, 40],
  [1921, 3, 30, 28, 30, 30, 13, 26, 35, 42],
  [2051, 3, 30, 28, 30, 30, 14, 28, 38, 45],
  [2185, 3, 30, 28, 30, 30, 15, 29, 40, 48],
  [2323, 3, 30, 28, 30, 30, 16, 31, 43, 51],
  [2465, 3, 30, 28, 30, 30, 17, 33, 45, 54],
  [2611, 3, 30, 28, 30, 30, 18, 35, 48, 57],
  [2761, 3, 30, 28, 30, 30, 19, 37, 51, 60],
  [2876, 0, 30, 28, 30, 30, 19, 38, 53, 63],
  [3034, 0, 30, 28, 30, 30, 20, 40, 56, 66],
  [3196, 0, 30, 28, 30, 30, 21, 43, 59, 70],
  [3362, 0, 30, 28, 30, 30, 22, 45, 62, 74],
  [3532, 0, 30, 28, 30, 30, 24, 47, 65, 77],
  [3706, 0, 30, 28, 30, 30, 25, 49, 68, 81]]
def tabV : Array Value := (tabRows.flatten.map (Value.int .i64)).toArray
def runB (P : Program) : List Oper → Act → Option Act
 | [], a => some a
 | o :: rest, a =>
  match o.guard, o.op with
  | none, .build t parts => (P.built t (parts.map fun (i, x) => (i, a.eval x)).toList).bind fun cs => runB P rest (a.put o.dst (.agg cs))
  | _, _ => none
theorem wpList_builds {P : Program} {ops : Array Oper} {Q : Exit → Act → World → Prop} {w : World} : ∀ (n : Nat) (l : List Oper) (a a' : Act), runB P (l.take n) a = some a' → wpList P ops Q (l.drop n) a' w → wpList P ops Q l a w
 | 0, l, a, a', h, h2 => by
  simp only [List.take_zero, runB, Option.some.injEq] at h
  subst h
  simpa using h2
 | n + 1, [], a, a', h, h2 => by
  simp only [List.take_nil, runB, Option.some.injEq] at h
  subst h
  simpa using h2
 | n + 1, o :: l, a, a', h, h2 => by
  rw [List.take_succ_cons, runB] at h
  split at h
  ·rename_i t parts hg ho
   obtain ⟨cs, hcs, h⟩ := Option.bind_eq_some_iff.1 h
   refine wpList_buildTo hg t parts ho o.dst rfl cs hcs ?_
   exact wpList_builds n l _ a' h (by simpa using h2)
  ·cases h
set_option maxHeartbeats 8000000 in
set_option maxRecDepth 100000 in
theorem table_any (w : World) : Calls Try.prog 86 #[] w fun e w' => e = .returned (.agg tabV) ∧ Below w.heap.size w w' := by
 have HB0 : ∀ o, Below w.heap.size w (w.alloc o) := fun o => below_alloc (Below.refl _ _) _
 go_enter Try.func86, Try.ntmps86
 go_upto_region 1 with (fail)
 refine wp_region_lit ?_
 have hblk2 := setRow_heap (w.alloc (.cells Try.zeroCells112 112)) w.heap.size _ tabV 112 (0, 0) (heap_alloc_new w _)
 have hB2 := below_setRow (HB0 (.cells Try.zeroCells112 112)) (Nat.le_refl _) tabV
 have hrun : ∀ (L : List Oper) (a : Act), ((runB Try.prog (L.take 121) a).map fun a' => (a'.eval (.tmp 0), a'.eval (.tmp 121), a'.defers)) = some (.pointer (some ⟨w.heap.size, 0, none⟩), .agg tabV, []) → ∃ a', runB Try.prog (L.take 121) a = some a' ∧ a'.eval (.tmp 0) = .pointer (some ⟨w.heap.size, 0, none⟩) ∧ a'.eval (.tmp 121) = .agg tabV ∧ a'.defers = [] := by
  intro L a h
  obtain ⟨a', h1, h2⟩ := Option.map_eq_some_iff.1 h
  simp only [Prod.mk.injEq] at h2
  exact ⟨a', h1, h2⟩
 obtain ⟨a', g1, g2, g3, g4⟩ := hrun _ _ (by kernel_rfl)
 refine wpList_builds 121 _ _ a' g1 ?_
 refine wpList_store_rowTo rfl 112 _ _ rfl rfl w.heap.size tabV g2 g3 112 _ (heap_alloc_new w _) (by kernel_rfl) (by kernel_rfl) (by kernel_rfl) ?_
 go_wp2
 have hsz : (Try.prog.info? 112).map (·.size) = some tabV.size := by kernel_rfl
 refine bodyPost_ret (results_single rfl (.cell w.heap.size 112 tabV (0, 0) _ g2 hblk2 Try.underlying112 rfl hsz .nil)) g4 ?_
 exact ⟨rfl, hB2⟩
def cwN (n : Nat) : Int := (tabRows.getD n []).getD 0 0
def cwR (n : Nat) : Int := (tabRows.getD n []).getD 1 0
set_option maxRecDepth 100000 in
theorem tab_row (n : Nat) (h : n < 40) : ∃ x0 x1 x2 x3 x4 x5 x6 x7 x8 x9 : Int, tabV.extract (n * 10) (n * 10 + 10) = #[.int .i64 x0, .int .i64 x1, .int .i64 x2, .int .i64 x3, .int .i64 x4, .int .i64 x5, .int .i64 x6, .int .i64 x7, .int .i64 x8, .int .i64 x9] ∧ x0 = cwN n ∧ x1 = cwR n := by
 have : n = 0 ∨ n = 1 ∨ n = 2 ∨ n = 3 ∨ n = 4 ∨ n = 5 ∨ n = 6 ∨ n = 7 ∨ n = 8 ∨ n = 9 ∨ n = 10 ∨ n = 11 ∨ n = 12 ∨ n = 13 ∨ n = 14 ∨ n = 15 ∨ n = 16 ∨ n = 17 ∨ n = 18 ∨ n = 19 ∨ n = 20 ∨ n = 21 ∨ n = 22 ∨ n = 23 ∨ n = 24 ∨ n = 25 ∨ n = 26 ∨ n = 27 ∨ n = 28 ∨ n = 29 ∨ n = 30 ∨ n = 31 ∨ n = 32 ∨ n = 33 ∨ n = 34 ∨ n = 35 ∨ n = 36 ∨ n = 37 ∨ n = 38 ∨ n = 39 := by omega
 rcases this with rfl | rfl | rfl | rfl | rfl | rfl | rfl | rfl | rfl | rfl | rfl | rfl | rfl | rfl | rfl | rfl | rfl | rfl | rfl | rfl | rfl | rfl | rfl | rfl | rfl | rfl | rfl | rfl | rfl | rfl | rfl | rfl | rfl | rfl | rfl | rfl | rfl | rfl | rfl | rfl
 ·exact ⟨26, 0, 7, 10, 13, 17, 1, 1, 1, 1, by kernel_rfl, by decide +kernel, by decide +kernel⟩
 ·exact ⟨44, 7, 10, 16, 22, 28, 1, 1, 1, 1, by kernel_rfl, by decide +kernel, by decide +kernel⟩
 ·exact ⟨70, 7, 15, 26, 18, 22, 1, 1, 2, 2, by kernel_rfl, by decide +kernel, by decide +kernel⟩
 ·exact ⟨100, 7, 20, 18, 26, 16, 1, 2, 2, 4, by kernel_rfl, by decide +kernel, by decide +kernel⟩
 ·exact ⟨134, 7, 26, 24, 18, 22, 1, 2, 4, 4, by kernel_rfl, by decide +kernel, by decide +kernel⟩
 ·exact ⟨172, 7, 18, 16, 24, 28, 2, 4, 4, 4, by kernel_rfl, by decide +kernel, by decide +kernel⟩
 ·exact ⟨196, 0, 20, 18, 18, 26, 2, 4, 6, 5, by kernel_rfl, by decide +kernel, by decide +kernel⟩
 ·exact ⟨242, 0, 24, 22, 22, 26, 2, 4, 6, 6, by kernel_rfl, by decide +kernel, by decide +kernel⟩
 ·exact ⟨292, 0, 30, 22, 20, 24, 2, 5, 8, 8, by kernel_rfl, by decide +kernel, by decide +kernel⟩
 ·exact ⟨346, 0, 18, 26, 24, 28, 4, 5, 8, 8, by kernel_rfl, by decide +kernel, by decide +kernel⟩
 ·exact ⟨404, 0, 20, 30, 28, 24, 4, 5, 8, 11, by kernel_rfl, by decide +kernel, by decide +kernel⟩
 ·exact ⟨466, 0, 24, 22, 26, 28, 4, 8, 10, 11, by kernel_rfl, by decide +kernel, by decide +kernel⟩
 ·exact ⟨532, 0, 26, 22, 24, 22, 4, 9, 12, 16, by kernel_rfl, by decide +kernel, by decide +kernel⟩
 ·exact ⟨581, 3, 30, 24, 20, 24, 4, 9, 16, 16, by kernel_rfl, by decide +kernel, by decide +kernel⟩
 ·exact ⟨655, 3, 22, 24, 30, 24, 6, 10, 12, 18, by kernel_rfl, by decide +kernel, by decide +kernel⟩
 ·exact ⟨733, 3, 24, 28, 24, 30, 6, 10, 17, 16, by kernel_rfl, by decide +kernel, by decide +kernel⟩
 ·exact ⟨815, 3, 28, 28, 28, 28, 6, 11, 16, 19, by kernel_rfl, by decide +kernel, by decide +kernel⟩
 ·exact ⟨901, 3, 30, 26, 28, 28, 6, 13, 18, 21, by kernel_rfl, by decide +kernel, by decide +kernel⟩
 ·exact ⟨991, 3, 28, 26, 26, 26, 7, 14, 21, 25, by kernel_rfl, by decide +kernel, by decide +kernel⟩
 ·exact ⟨1085, 3, 28, 26, 30, 28, 8, 16, 20, 25, by kernel_rfl, by decide +kernel, by decide +kernel⟩
 ·exact ⟨1156, 4, 28, 26, 28, 30, 8, 17, 23, 25, by kernel_rfl, by decide +kernel, by decide +kernel⟩
 ·exact ⟨1258, 4, 28, 28, 30, 24, 9, 17, 23, 34, by kernel_rfl, by decide +kernel, by decide +kernel⟩
 ·exact ⟨1364, 4, 30, 28, 30, 30, 9, 18, 25, 30, by kernel_rfl, by decide +kernel, by decide +kernel⟩
 ·exact ⟨1474, 4, 30, 28, 30, 30, 10, 20, 27, 32, by kernel_rfl, by decide +kernel, by decide +kernel⟩
 ·exact ⟨1588, 4, 26, 28, 30, 30, 12, 21, 29, 35, by kernel_rfl, by decide +kernel, by decide +kernel⟩
 ·exact ⟨1706, 4, 28, 28, 28, 30, 12, 23, 34, 37, by kernel_rfl, by decide +kernel, by decide +kernel⟩
 ·exact ⟨1828, 4, 30, 28, 30, 30, 12, 25, 34, 40, by kernel_rfl, by decide +kernel, by decide +kernel⟩
 ·exact ⟨1921, 3, 30, 28, 30, 30, 13, 26, 35, 42, by kernel_rfl, by decide +kernel, by decide +kernel⟩
 ·exact ⟨2051, 3, 30, 28, 30, 30, 14, 28, 38, 45, by kernel_rfl, by decide +kernel, by decide +kernel⟩
 ·exact ⟨2185, 3, 30, 28, 30, 30, 15, 29, 40, 48, by kernel_rfl, by decide +kernel, by decide +kernel⟩
 ·exact ⟨2323, 3, 30, 28, 30, 30, 16, 31, 43, 51, by kernel_rfl, by decide +kernel, by decide +kernel⟩
 ·exact ⟨2465, 3, 30, 28, 30, 30, 17, 33, 45, 54, by kernel_rfl, by decide +kernel, by decide +kernel⟩
 ·exact ⟨2611, 3, 30, 28, 30, 30, 18, 35, 48, 57, by kernel_rfl, by decide +kernel, by decide +kernel⟩
 ·exact ⟨2761, 3, 30, 28, 30, 30, 19, 37, 51, 60, by kernel_rfl, by decide +kernel, by decide +kernel⟩
 ·exact ⟨2876, 0, 30, 28, 30, 30, 19, 38, 53, 63, by kernel_rfl, by decide +kernel, by decide +kernel⟩
 ·exact ⟨3034, 0, 30, 28, 30, 30, 20, 40, 56, 66, by kernel_rfl, by decide +kernel, by decide +kernel⟩
 ·exact ⟨3196, 0, 30, 28, 30, 30, 21, 43, 59, 70, by kernel_rfl, by decide +kernel, by decide +kernel⟩
 ·exact ⟨3362, 0, 30, 28, 30, 30, 22, 45, 62, 74, by kernel_rfl, by decide +kernel, by decide +kernel⟩
 ·exact ⟨3532, 0, 30, 28, 30, 30, 24, 47, 65, 77, by kernel_rfl, by decide +kernel, by decide +kernel⟩
 ·exact ⟨3706, 0, 30, 28, 30, 30, 25, 49, 68, 81, by kernel_rfl, by decide +kernel, by decide +kernel⟩
theorem valid63 (a0 : Int) : qrversion_valid.f a0 = some (decide (1 ≤ a0 ∧ a0 ≤ 40)) := by
 unfold qrversion_valid.f
 by_cases h : a0 ≥ 1 <;> by_cases h2 : a0 ≤ 40 <;> simp [h, h2]
set_option maxHeartbeats 8000000 in
set_option maxRecDepth 100000 in
theorem codewords63 (n : Nat) (hn : n < 40) (w : World) : Calls Try.prog 63 #[.int .i64 ((n : Int) + 1)] w fun e w' => e = .returned (.tuple #[.int .i64 (cwN n), .int .i64 (cwR n), .int .i64 0]) ∧ Below w.heap.size w w' := by
 have hval := Aside0.mk (valid63 ((n : Int) + 1))
 rw [decide_eq_true (by omega)] at hval
 obtain ⟨x0, x1, x2, x3, x4, x5, x6, x7, x8, x9, hx, rfl, rfl⟩ := tab_row n hn
 have hu111 := Try.underlying111
 have hu41 := Try.underlying41
 go_enter Try.func63, Try.ntmps63
 go_wp2_with (first | (go_at_call 85; refine (qrversion_valid.calls _ true _ hval.out).mono ?_; rintro e w1 ⟨rfl, hd1⟩; have HD1 := Aside0.mk hd1; clear hd1) | (go_at_call 86; refine (table_any _).mono ?_; rintro e w2 ⟨rfl, hB⟩; have HX := run_idx_row tabV n w2 hn; rw [hx] at HX; have HB2 := Aside0.mk hB; clear hB))
 go_quiet (fail)
 go_wp2
 refine bodyPost_ret (results_tmp3 rfl _ _ _) rfl ?_
 have B2 := below_then HD1.out.below HD1.out.below.size HB2.out
 exact ⟨rfl, pw_below_drewN (B2.alloc B2.size _) _⟩
end Go.Proofs.Ytbbnagjfjgkgjaa.L
