-- Written by a program of this session out of the kit's print of the loaded functions (see wip/).
import Derived.Test.YthhdekfnalioiaaBx0
import Derived.Test.YthhdekfnalioiaaBx1
import Derived.Test.YthhdekfnalioiaaBx2
import Derived.Test.YthhdekfnalioiaaBx3
import Derived.Test.YthhdekfnalioiaaBx4
namespace Go.Proofs.Ythhdekfnalioiaa.B
open Go.RowKit Go.Proofs.YthhdekfnalioiaaW.PrintWords Go.Proofs.YthhdekfnalioiaaW.PrintLast Go.Proofs.YthhdekfnalioiaaW.PrintMore
attribute [local go_sem] max2_int min2_int max_two min_two max_three min_three max_four min_four   -- for this text's walks alone
set_option linter.unusedVariables false
set_option linter.unusedSimpArgs false

/-! ### barscanlaw08_BchCorrects: function 6 -/
def barscanlaw08_BchCorrects.j0 : Nat → Int → Int → Int → Int → Int → Bool → Option (Bool)
  | 0, _, _, _, _, _, _ => none
  | k + 1, x0, x1, x2, x3, x9, x45 => if x45 = true then (some false) else (if 0 ≤ (IntKind.u64.wrap (x2)) then (if (shl .i64 1 (IntKind.u64.wrap (x2))) = 0 then (none) else ((barscanlaw08_degree.f k x3).bind fun t193 => (if 0 ≤ (IntKind.u64.wrap (wrap64 (x2 + t193))) then (if (shl .i64 1 (IntKind.u64.wrap (wrap64 (x2 + t193)))) = 0 then (none) else ((barscanlaw08_ones.f k (Int.tmod (wrap64 (x1)) (shl .i64 1 (IntKind.u64.wrap (wrap64 (x2 + t193)))))).bind fun t194 => (if (wrap64 (2 * t194)) ≥ x9 then ((barscanlaw08_examples.f k).bind fun t195 => (some t195)) else ((bch_Encode.f k (Int.tmod (wrap64 (x0)) (shl .i64 1 (IntKind.u64.wrap (x2)))) x2 x3).bind fun bt196 => ((bch_Decode.f k (Go.bits .xor .i64 bt196.1 (Int.tmod (wrap64 (x1)) (shl .i64 1 (IntKind.u64.wrap (wrap64 (x2 + t193)))))) x2 x3).bind fun bt198 => (if bt196.2 = 0 then (if bt198.2.2 = 0 then (if bt198.1 = (Int.tmod (wrap64 (x0)) (shl .i64 1 (IntKind.u64.wrap (x2)))) then (if bt198.2.1 = t194 then ((barscanlaw08_examples.f k).bind fun t201 => (some t201)) else (some false)) else (some false)) else (some false)) else (some false))))))) else (none)))) else (none))
def barscanlaw08_BchCorrects.f (k : Nat) (a0 : Int) (a1 : Int) (a2 : Int) (a3 : Int) : Option (Bool) := (bch_Distance.f k a2 a3).bind fun bt190 => (if bt190.2 = 0 then (if a2 < 1 then (barscanlaw08_BchCorrects.j0 k a0 a1 a2 a3 bt190.1 true) else (if a2 > 12 then (barscanlaw08_BchCorrects.j0 k a0 a1 a2 a3 bt190.1 true) else (if a3 < 3 then (barscanlaw08_BchCorrects.j0 k a0 a1 a2 a3 bt190.1 true) else (barscanlaw08_BchCorrects.j0 k a0 a1 a2 a3 bt190.1 (decide (a3 ≥ 524288)))))) else (if bt190.2 = 1 then ((barscanlaw08_examples.f k).bind fun t192 => (some t192)) else (some false)))
theorem barscanlaw08_BchCorrects.mono_l : ∀ k, (∀ y0 y1 y2 y3 y4 y5, LeO (barscanlaw08_BchCorrects.j0 k y0 y1 y2 y3 y4 y5) (barscanlaw08_BchCorrects.j0 (k + 1) y0 y1 y2 y3 y4 y5))
  | 0 => fun _ _ _ _ _ _ r h => by simp [barscanlaw08_BchCorrects.j0] at h
  | k + 1 => by
    have ih0 := barscanlaw08_BchCorrects.mono_l k
    · intro y0 y1 y2 y3 y4 y5
      unfold barscanlaw08_BchCorrects.j0
      repeat' first
      | (with_reducible exact ih0 _ _ _ _ _ _)
      | (with_reducible exact barscanlaw08_degree.mono _ _)
      | (with_reducible exact barscanlaw08_examples.mono _)
      | (with_reducible exact barscanlaw08_ones.mono _ _)
      | (with_reducible exact bch_Decode.mono _ _ _ _)
      | (with_reducible exact bch_Distance.mono _ _ _)
      | (with_reducible exact bch_Encode.mono _ _ _ _)
      | (with_reducible exact LeO.refl _)
      | (with_reducible exact LeO.none _)
      | (with_reducible refine LeO.ite ?_ ?_)
      | (with_reducible refine LeO.bind ?_ (fun _ => ?_))
      | exact ih0 _ _ _ _ _ _
      | exact barscanlaw08_degree.mono _ _
      | exact barscanlaw08_examples.mono _
      | exact barscanlaw08_ones.mono _ _
      | exact bch_Decode.mono _ _ _ _
      | exact bch_Distance.mono _ _ _
      | exact bch_Encode.mono _ _ _ _
      | exact LeO.none _
      | refine LeO.ite ?_ ?_
      | refine LeO.bind ?_ (fun _ => ?_)
theorem barscanlaw08_BchCorrects.mono : ∀ a0 a1 a2 a3 k, LeO (barscanlaw08_BchCorrects.f k a0 a1 a2 a3) (barscanlaw08_BchCorrects.f (k + 1) a0 a1 a2 a3) := by
  intro a0 a1 a2 a3 k
  have ih0 := barscanlaw08_BchCorrects.mono_l k
  unfold barscanlaw08_BchCorrects.f
  repeat' first
      | (with_reducible exact ih0 _ _ _ _ _ _)
      | (with_reducible exact barscanlaw08_degree.mono _ _)
      | (with_reducible exact barscanlaw08_examples.mono _)
      | (with_reducible exact barscanlaw08_ones.mono _ _)
      | (with_reducible exact bch_Decode.mono _ _ _ _)
      | (with_reducible exact bch_Distance.mono _ _ _)
      | (with_reducible exact bch_Encode.mono _ _ _ _)
      | (with_reducible exact LeO.refl _)
      | (with_reducible exact LeO.none _)
      | (with_reducible refine LeO.ite ?_ ?_)
      | (with_reducible refine LeO.bind ?_ (fun _ => ?_))
      | exact ih0 _ _ _ _ _ _
      | exact barscanlaw08_degree.mono _ _
      | exact barscanlaw08_examples.mono _
      | exact barscanlaw08_ones.mono _ _
      | exact bch_Decode.mono _ _ _ _
      | exact bch_Distance.mono _ _ _
      | exact bch_Encode.mono _ _ _ _
      | exact LeO.none _
      | refine LeO.ite ?_ ?_
      | refine LeO.bind ?_ (fun _ => ?_)
set_option maxHeartbeats 8000000 in
set_option maxRecDepth 100000 in
theorem barscanlaw08_BchCorrects.calls (k : Nat) (a0 : Int) (a1 : Int) (a2 : Int) (a3 : Int) (r : Bool) (w : World) (h : barscanlaw08_BchCorrects.f k a0 a1 a2 a3 = some r) :
    Calls Try.prog 6 #[.int .u16 a0, .int .u32 a1, .int .i64 a2, .int .i64 a3] w fun e w' => e = .returned (.bool r) ∧ Below w.heap.size w w' := by
  have HB := Aside0.mk (Below.refl w.heap.size w)
  have H : ((bch_Distance.f k a2 a3).bind fun bt190 => (if bt190.2 = 0 then (if a2 < 1 then (barscanlaw08_BchCorrects.j0 k a0 a1 a2 a3 bt190.1 true) else (if a2 > 12 then (barscanlaw08_BchCorrects.j0 k a0 a1 a2 a3 bt190.1 true) else (if a3 < 3 then (barscanlaw08_BchCorrects.j0 k a0 a1 a2 a3 bt190.1 true) else (barscanlaw08_BchCorrects.j0 k a0 a1 a2 a3 bt190.1 (decide (a3 ≥ 524288)))))) else (if bt190.2 = 1 then ((barscanlaw08_examples.f k).bind fun t192 => (some t192)) else (some false)))) = some r := h
  clear h
  replace H := Option.bind_eq_some_iff.mp H
  obtain ⟨⟨t190, t191⟩, A50, H⟩ := H
  replace H : (if t191 = 0 then (if a2 < 1 then (barscanlaw08_BchCorrects.j0 k a0 a1 a2 a3 t190 true) else (if a2 > 12 then (barscanlaw08_BchCorrects.j0 k a0 a1 a2 a3 t190 true) else (if a3 < 3 then (barscanlaw08_BchCorrects.j0 k a0 a1 a2 a3 t190 true) else (barscanlaw08_BchCorrects.j0 k a0 a1 a2 a3 t190 (decide (a3 ≥ 524288)))))) else (if t191 = 1 then ((barscanlaw08_examples.f k).bind fun t192 => (some t192)) else (some false))) = some r := H
  have A5 := Aside0.mk A50
  clear A50
  by_cases c6 : t191 = 0
  · rw [if_pos c6] at H
    have c6b0 : (t191 == 0) = true := beq_iff_eq.mpr c6
    have c6b1 : (t191 != 0) = false := bne_eq_false_iff_eq.mpr c6
    clear c6
    have HC7 := Aside0.mk H
    clear H
    go_enter Try.func6, Try.ntmps6
    go_upto_region 4 with (first | ((with_reducible refine gate_callee (f := 13) rfl ?_); refine goesL_ (some 22) rfl rfl Try.func13 (by kernel_rfl) rfl #[.int .i64 a2, .int .i64 a3] rfl (by (try simp only [List.map_toArray, List.map_cons, List.map_nil]); first | done | rfl | (simp only [List.length_drop, List.length_take]; rfl)) ?_; (with_reducible refine (bch_Distance.calls k a2 a3 t190 t191 _ A5.out).mono ?_); rintro e w8 ⟨rfl, hb⟩; refine ⟨_, rfl, ?_⟩; have n0_ := Aside0.mk (below_step (by repeat (first | (with_reducible first | exact HB.out | apply below_alloc | apply pw_below_drewN | apply below_drew1) | exact HB.out)) hb); clear HB; have HB := n0_; clear n0_; (try clear hb); (try clear hb2); (try clear hk); (try clear hi)))
    (try simp only [Act.put, List.setIfInBounds_toArray, List.set_cons_zero, List.set_cons_succ])
    go_cut [45] (fun v45 wc => ∃ (kq : Nat) (x45_6 : Bool), v45 = .bool x45_6 ∧ Aside0 (barscanlaw08_BchCorrects.j0 kq a0 a1 a2 a3 t190 x45_6 = some r) ∧ Aside0 (kq ≤ k) ∧ Aside0 (Below w.heap.size w wc))
    case first =>
      have H := HC7.out
      clear HC7
      by_cases c9 : a2 < 1
      · rw [if_pos c9] at H
        have c9b0 : decide (a2 < 1) = true := decide_eq_true c9
        clear c9
        (first | rw [c9b0] | (simp only [i64_w, i32_w]; rw [c9b0]) | skip)
        have H' := Aside0.mk H
        clear H
        go_wp2
        go_meet
        case rel => exact ⟨_, (true), (by first | rfl | (simp; done) | (simp [*]; done)), H', ⟨by first | omega | exact Nat.le_refl _⟩, ⟨by repeat (first | (with_reducible first | exact HB.out | apply below_alloc | apply pw_below_drewN | apply below_drew1) | exact HB.out)⟩⟩
      · rw [if_neg c9] at H
        have c9b0 : decide (a2 < 1) = false := decide_eq_false c9
        clear c9
        (first | rw [c9b0] | (simp only [i64_w, i32_w]; rw [c9b0]) | skip)
        by_cases c10 : a2 > 12
        · rw [if_pos c10] at H
          have c10b0 : decide (12 < a2) = true := decide_eq_true c10
          clear c10
          have H' := Aside0.mk H
          clear H
          go_wp2
          go_meet
          case rel => exact ⟨_, (true), (by first | rfl | (simp; done) | (simp [*]; done)), H', ⟨by first | omega | exact Nat.le_refl _⟩, ⟨by repeat (first | (with_reducible first | exact HB.out | apply below_alloc | apply pw_below_drewN | apply below_drew1) | exact HB.out)⟩⟩
        · rw [if_neg c10] at H
          have c10b0 : decide (12 < a2) = false := decide_eq_false c10
          clear c10
          by_cases c11 : a3 < 3
          · rw [if_pos c11] at H
            have c11b0 : decide (a3 < 3) = true := decide_eq_true c11
            clear c11
            have H' := Aside0.mk H
            clear H
            go_wp2
            go_meet
            case rel => exact ⟨_, (true), (by first | rfl | (simp; done) | (simp [*]; done)), H', ⟨by first | omega | exact Nat.le_refl _⟩, ⟨by repeat (first | (with_reducible first | exact HB.out | apply below_alloc | apply pw_below_drewN | apply below_drew1) | exact HB.out)⟩⟩
          · rw [if_neg c11] at H
            have c11b0 : decide (a3 < 3) = false := decide_eq_false c11
            clear c11
            have H' := Aside0.mk H
            clear H
            go_wp2
            go_meet
            case rel => exact ⟨_, (decide (a3 ≥ 524288)), (by first | rfl | (simp; done) | (simp [*]; done)), H', ⟨by first | omega | exact Nat.le_refl _⟩, ⟨by repeat (first | (with_reducible first | exact HB.out | apply below_alloc | apply pw_below_drewN | apply below_drew1) | exact HB.out)⟩⟩
    case rest =>
      clear HC7
      try clear c1
      try clear p2
      try clear c6
      try clear c6b0
      try clear c6b1
      try clear c9
      try clear c9b0
      try clear c10
      try clear c10b0
      try clear c11
      try clear c11b0
      obtain ⟨kq, x45_6, rfl, HA, HJ6, HB⟩ := hcut
      cases kq with
      | zero => exact absurd HA.out (by simp [barscanlaw08_BchCorrects.j0])
      | succ kj6 =>
        have H := HA.out
        clear HA
        simp only [barscanlaw08_BchCorrects.j0] at H
        by_cases c12 : x45_6 = true
        · subst c12
          have H1 : (some false) = some r := by rw [if_pos rfl] at H; exact H
          clear H
          have H := H1
          clear H1
          obtain rfl := Option.some.inj H
          go_wp2
          go_ret
          exact ⟨by first | rfl | (simp [errW_none, errW_some] <;> rfl) | (simp [*, errW_none, errW_some] <;> rfl), by repeat (first | (with_reducible first | exact HB.out | apply below_alloc | apply pw_below_drewN | apply below_drew1) | exact HB.out)⟩
        · replace c12 := Bool.eq_false_iff.mpr c12
          subst c12
          have H1 : (if 0 ≤ (IntKind.u64.wrap (a2)) then (if (shl .i64 1 (IntKind.u64.wrap (a2))) = 0 then (none) else ((barscanlaw08_degree.f kj6 a3).bind fun t193 => (if 0 ≤ (IntKind.u64.wrap (wrap64 (a2 + t193))) then (if (shl .i64 1 (IntKind.u64.wrap (wrap64 (a2 + t193)))) = 0 then (none) else ((barscanlaw08_ones.f kj6 (Int.tmod (wrap64 (a1)) (shl .i64 1 (IntKind.u64.wrap (wrap64 (a2 + t193)))))).bind fun t194 => (if (wrap64 (2 * t194)) ≥ t190 then ((barscanlaw08_examples.f kj6).bind fun t195 => (some t195)) else ((bch_Encode.f kj6 (Int.tmod (wrap64 (a0)) (shl .i64 1 (IntKind.u64.wrap (a2)))) a2 a3).bind fun bt196 => ((bch_Decode.f kj6 (Go.bits .xor .i64 bt196.1 (Int.tmod (wrap64 (a1)) (shl .i64 1 (IntKind.u64.wrap (wrap64 (a2 + t193)))))) a2 a3).bind fun bt198 => (if bt196.2 = 0 then (if bt198.2.2 = 0 then (if bt198.1 = (Int.tmod (wrap64 (a0)) (shl .i64 1 (IntKind.u64.wrap (a2)))) then (if bt198.2.1 = t194 then ((barscanlaw08_examples.f kj6).bind fun t201 => (some t201)) else (some false)) else (some false)) else (some false)) else (some false))))))) else (none)))) else (none)) = some r := by rw [if_neg (show ¬ (false = true) by decide)] at H; exact H
          clear H
          have H := H1
          clear H1
          obtain ⟨ji13, hji13⟩ : ∃ j_ : Int, (IntKind.u64.wrap (a2)) = j_ := ⟨_, rfl⟩
          replace H : (if 0 ≤ (ji13) then (if (shl .i64 1 (ji13)) = 0 then (none) else ((barscanlaw08_degree.f kj6 a3).bind fun t193 => (if 0 ≤ (IntKind.u64.wrap (wrap64 (a2 + t193))) then (if (shl .i64 1 (IntKind.u64.wrap (wrap64 (a2 + t193)))) = 0 then (none) else ((barscanlaw08_ones.f kj6 (Int.tmod (wrap64 (a1)) (shl .i64 1 (IntKind.u64.wrap (wrap64 (a2 + t193)))))).bind fun t194 => (if (wrap64 (2 * t194)) ≥ t190 then ((barscanlaw08_examples.f kj6).bind fun t195 => (some t195)) else ((bch_Encode.f kj6 (Int.tmod (wrap64 (a0)) (shl .i64 1 (ji13))) a2 a3).bind fun bt196 => ((bch_Decode.f kj6 (Go.bits .xor .i64 bt196.1 (Int.tmod (wrap64 (a1)) (shl .i64 1 (IntKind.u64.wrap (wrap64 (a2 + t193)))))) a2 a3).bind fun bt198 => (if bt196.2 = 0 then (if bt198.2.2 = 0 then (if bt198.1 = (Int.tmod (wrap64 (a0)) (shl .i64 1 (ji13))) then (if bt198.2.1 = t194 then ((barscanlaw08_examples.f kj6).bind fun t201 => (some t201)) else (some false)) else (some false)) else (some false)) else (some false))))))) else (none)))) else (none)) = some r := by first | (rw [hji13] at H; exact H) | (simp only [hji13] at H ⊢; exact H)
          by_cases c14 : 0 ≤ (ji13)
          · rw [if_pos c14] at H
            have c14b0 := eq_true c14
            have c14b1 : decide (0 ≤ (ji13)) = true := decide_eq_true c14
            clear c14
            obtain ⟨ji15, hji15⟩ : ∃ j_ : Int, (shl .i64 1 (ji13)) = j_ := ⟨_, rfl⟩
            replace H : (if (ji15) = 0 then (none) else ((barscanlaw08_degree.f kj6 a3).bind fun t193 => (if 0 ≤ (IntKind.u64.wrap (wrap64 (a2 + t193))) then (if (shl .i64 1 (IntKind.u64.wrap (wrap64 (a2 + t193)))) = 0 then (none) else ((barscanlaw08_ones.f kj6 (Int.tmod (wrap64 (a1)) (shl .i64 1 (IntKind.u64.wrap (wrap64 (a2 + t193)))))).bind fun t194 => (if (wrap64 (2 * t194)) ≥ t190 then ((barscanlaw08_examples.f kj6).bind fun t195 => (some t195)) else ((bch_Encode.f kj6 (Int.tmod (wrap64 (a0)) (ji15)) a2 a3).bind fun bt196 => ((bch_Decode.f kj6 (Go.bits .xor .i64 bt196.1 (Int.tmod (wrap64 (a1)) (shl .i64 1 (IntKind.u64.wrap (wrap64 (a2 + t193)))))) a2 a3).bind fun bt198 => (if bt196.2 = 0 then (if bt198.2.2 = 0 then (if bt198.1 = (Int.tmod (wrap64 (a0)) (ji15)) then (if bt198.2.1 = t194 then ((barscanlaw08_examples.f kj6).bind fun t201 => (some t201)) else (some false)) else (some false)) else (some false)) else (some false))))))) else (none)))) = some r := by first | (rw [hji15] at H; exact H) | (simp only [hji15] at H ⊢; exact H)
            have hji15_ : (IntKind.i64.wrap (1 * 2 ^ min (ji13).toNat 64)) = ji15 := hji15
            have hji15z : (ji13) ≤ 64 → (IntKind.i64.wrap (1 * 2 ^ (ji13).toNat)) = ji15 := shl_small hji15
            have hji15u : (IntKind.i64.wrap (2 ^ min (ji13).toNat 64)) = ji15 := by have h_ := hji15_; rw [Int.one_mul] at h_; exact h_
            have hji15v : (ji13) ≤ 64 → (IntKind.i64.wrap (2 ^ (ji13).toNat)) = ji15 := fun hle_ => by have h_ := hji15z hle_; rw [Int.one_mul] at h_; exact h_
            have hji15y : (wrap64 (1 * 2 ^ min (ji13).toNat 64)) = ji15 := (i64_w _).symm.trans hji15_
            have hji15x : (ji13) ≤ 64 → (wrap64 (1 * 2 ^ (ji13).toNat)) = ji15 := fun h_ => (i64_w _).symm.trans (hji15z h_)
            by_cases c16 : (ji15) = 0
            · rw [if_pos c16] at H
              exact absurd H (by simp)
            · rw [if_neg c16] at H
              have c16b0 : ((ji15) == 0) = false := beq_eq_false_iff_ne.mpr c16
              have c16b1 : ((ji15) != 0) = true := bne_iff_ne.mpr c16
              replace H := Option.bind_eq_some_iff.mp H
              obtain ⟨t193, A170, H⟩ := H
              replace H : (if 0 ≤ (IntKind.u64.wrap (wrap64 (a2 + t193))) then (if (shl .i64 1 (IntKind.u64.wrap (wrap64 (a2 + t193)))) = 0 then (none) else ((barscanlaw08_ones.f kj6 (Int.tmod (wrap64 (a1)) (shl .i64 1 (IntKind.u64.wrap (wrap64 (a2 + t193)))))).bind fun t194 => (if (wrap64 (2 * t194)) ≥ t190 then ((barscanlaw08_examples.f kj6).bind fun t195 => (some t195)) else ((bch_Encode.f kj6 (Int.tmod (wrap64 (a0)) (ji15)) a2 a3).bind fun bt196 => ((bch_Decode.f kj6 (Go.bits .xor .i64 bt196.1 (Int.tmod (wrap64 (a1)) (shl .i64 1 (IntKind.u64.wrap (wrap64 (a2 + t193)))))) a2 a3).bind fun bt198 => (if bt196.2 = 0 then (if bt198.2.2 = 0 then (if bt198.1 = (Int.tmod (wrap64 (a0)) (ji15)) then (if bt198.2.1 = t194 then ((barscanlaw08_examples.f kj6).bind fun t201 => (some t201)) else (some false)) else (some false)) else (some false)) else (some false))))))) else (none)) = some r := H
              have A17 := Aside0.mk A170
              clear A170
              obtain ⟨ji18, hji18⟩ : ∃ j_ : Int, (IntKind.u64.wrap (wrap64 (a2 + t193))) = j_ := ⟨_, rfl⟩
              replace H : (if 0 ≤ (ji18) then (if (shl .i64 1 (ji18)) = 0 then (none) else ((barscanlaw08_ones.f kj6 (Int.tmod (wrap64 (a1)) (shl .i64 1 (ji18)))).bind fun t194 => (if (wrap64 (2 * t194)) ≥ t190 then ((barscanlaw08_examples.f kj6).bind fun t195 => (some t195)) else ((bch_Encode.f kj6 (Int.tmod (wrap64 (a0)) (ji15)) a2 a3).bind fun bt196 => ((bch_Decode.f kj6 (Go.bits .xor .i64 bt196.1 (Int.tmod (wrap64 (a1)) (shl .i64 1 (ji18)))) a2 a3).bind fun bt198 => (if bt196.2 = 0 then (if bt198.2.2 = 0 then (if bt198.1 = (Int.tmod (wrap64 (a0)) (ji15)) then (if bt198.2.1 = t194 then ((barscanlaw08_examples.f kj6).bind fun t201 => (some t201)) else (some false)) else (some false)) else (some false)) else (some false))))))) else (none)) = some r := by first | (rw [hji18] at H; exact H) | (simp only [hji18] at H ⊢; exact H)
              (try rw [hji18] at A17)
              by_cases c19 : 0 ≤ (ji18)
              · rw [if_pos c19] at H
                have c19b0 := eq_true c19
                have c19b1 : decide (0 ≤ (ji18)) = true := decide_eq_true c19
                clear c19
                obtain ⟨ji20, hji20⟩ : ∃ j_ : Int, (shl .i64 1 (ji18)) = j_ := ⟨_, rfl⟩
                replace H : (if (ji20) = 0 then (none) else ((barscanlaw08_ones.f kj6 (Int.tmod (wrap64 (a1)) (ji20))).bind fun t194 => (if (wrap64 (2 * t194)) ≥ t190 then ((barscanlaw08_examples.f kj6).bind fun t195 => (some t195)) else ((bch_Encode.f kj6 (Int.tmod (wrap64 (a0)) (ji15)) a2 a3).bind fun bt196 => ((bch_Decode.f kj6 (Go.bits .xor .i64 bt196.1 (Int.tmod (wrap64 (a1)) (ji20))) a2 a3).bind fun bt198 => (if bt196.2 = 0 then (if bt198.2.2 = 0 then (if bt198.1 = (Int.tmod (wrap64 (a0)) (ji15)) then (if bt198.2.1 = t194 then ((barscanlaw08_examples.f kj6).bind fun t201 => (some t201)) else (some false)) else (some false)) else (some false)) else (some false))))))) = some r := by first | (rw [hji20] at H; exact H) | (simp only [hji20] at H ⊢; exact H)
                (try rw [hji20] at A17)
                have hji20_ : (IntKind.i64.wrap (1 * 2 ^ min (ji18).toNat 64)) = ji20 := hji20
                have hji20z : (ji18) ≤ 64 → (IntKind.i64.wrap (1 * 2 ^ (ji18).toNat)) = ji20 := shl_small hji20
                have hji20u : (IntKind.i64.wrap (2 ^ min (ji18).toNat 64)) = ji20 := by have h_ := hji20_; rw [Int.one_mul] at h_; exact h_
                have hji20v : (ji18) ≤ 64 → (IntKind.i64.wrap (2 ^ (ji18).toNat)) = ji20 := fun hle_ => by have h_ := hji20z hle_; rw [Int.one_mul] at h_; exact h_
                have hji20y : (wrap64 (1 * 2 ^ min (ji18).toNat 64)) = ji20 := (i64_w _).symm.trans hji20_
                have hji20x : (ji18) ≤ 64 → (wrap64 (1 * 2 ^ (ji18).toNat)) = ji20 := fun h_ => (i64_w _).symm.trans (hji20z h_)
                by_cases c21 : (ji20) = 0
                · rw [if_pos c21] at H
                  exact absurd H (by simp)
                · rw [if_neg c21] at H
                  have c21b0 : ((ji20) == 0) = false := beq_eq_false_iff_ne.mpr c21
                  have c21b1 : ((ji20) != 0) = true := bne_iff_ne.mpr c21
                  replace H := Option.bind_eq_some_iff.mp H
                  obtain ⟨t194, A220, H⟩ := H
                  replace H : (if (wrap64 (2 * t194)) ≥ t190 then ((barscanlaw08_examples.f kj6).bind fun t195 => (some t195)) else ((bch_Encode.f kj6 (Int.tmod (wrap64 (a0)) (ji15)) a2 a3).bind fun bt196 => ((bch_Decode.f kj6 (Go.bits .xor .i64 bt196.1 (Int.tmod (wrap64 (a1)) (ji20))) a2 a3).bind fun bt198 => (if bt196.2 = 0 then (if bt198.2.2 = 0 then (if bt198.1 = (Int.tmod (wrap64 (a0)) (ji15)) then (if bt198.2.1 = t194 then ((barscanlaw08_examples.f kj6).bind fun t201 => (some t201)) else (some false)) else (some false)) else (some false)) else (some false))))) = some r := H
                  have A22 := Aside0.mk A220
                  clear A220
                  by_cases c23 : (wrap64 (2 * t194)) ≥ t190
                  · rw [if_pos c23] at H
                    have c23b0 : decide (t190 ≤ (wrap64 (2 * t194))) = true := decide_eq_true c23
                    clear c23
                    replace H := Option.bind_eq_some_iff.mp H
                    obtain ⟨t195, A240, H⟩ := H
                    replace H : (some t195) = some r := H
                    have A24 := Aside0.mk A240
                    clear A240
                    obtain rfl := Option.some.inj H
                    go_wp2_with (first | ((with_reducible refine gate_callee (f := 18) rfl ?_); refine goesL_ (some 56) rfl rfl Try.func18 (by kernel_rfl) rfl #[.int .i64 a3] rfl (by (try simp only [List.map_toArray, List.map_cons, List.map_nil]); first | done | rfl | (simp only [List.length_drop, List.length_take]; rfl)) ?_; (with_reducible refine (barscanlaw08_degree.calls kj6 a3 t193 _ A17.out).mono ?_); rintro e w' ⟨rfl, ⟨nd, rfl⟩⟩; refine ⟨_, rfl, ?_⟩) | ((with_reducible refine gate_callee (f := 19) rfl ?_); refine goesL_ (some 62) rfl rfl Try.func19 (by kernel_rfl) rfl #[.int .i64 (Int.tmod (wrap64 (a1)) (ji20))] rfl (by (try simp only [List.map_toArray, List.map_cons, List.map_nil]); first | done | (simp only [hji20]; rfl) | rfl | (simp only [List.length_drop, List.length_take]; rfl)) ?_; (with_reducible refine (barscanlaw08_ones.calls kj6 (Int.tmod (wrap64 (a1)) (ji20)) t194 _ A22.out).mono ?_); rintro e w' ⟨rfl, ⟨nd, rfl⟩⟩; refine ⟨_, rfl, ?_⟩) | ((with_reducible refine gate_callee (f := 15) rfl ?_); refine goesL_ (some 67) rfl rfl Try.func15 (by kernel_rfl) rfl #[] rfl (by (try simp only [List.map_toArray, List.map_cons, List.map_nil]); first | done | rfl | (simp only [List.length_drop, List.length_take]; rfl)) ?_; (with_reducible refine (barscanlaw08_examples.calls kj6  t195 _ A24.out).mono ?_); rintro e w25 ⟨rfl, hb⟩; refine ⟨_, rfl, ?_⟩; have n0_ := Aside0.mk (below_step (by repeat (first | (with_reducible first | exact HB.out | apply below_alloc | apply pw_below_drewN | apply below_drew1) | exact HB.out)) hb); clear HB; have HB := n0_; clear n0_; (try clear hb); (try clear hb2); (try clear hk); (try clear hi)))
                    go_ret
                    exact ⟨by first | rfl | (simp [errW_none, errW_some] <;> rfl) | (simp only [← hji13, ← hji15, ← hji18, ← hji20]; first | rfl | (simp [errW_none, errW_some] <;> rfl)) | (simp [*, errW_none, errW_some] <;> rfl), by repeat (first | (with_reducible first | exact HB.out | apply below_alloc | apply pw_below_drewN | apply below_drew1) | exact HB.out)⟩
                  · rw [if_neg c23] at H
                    have c23b0 : decide (t190 ≤ (wrap64 (2 * t194))) = false := decide_eq_false c23
                    clear c23
                    replace H := Option.bind_eq_some_iff.mp H
                    obtain ⟨⟨t196, t197⟩, A260, H⟩ := H
                    replace H : ((bch_Decode.f kj6 (Go.bits .xor .i64 t196 (Int.tmod (wrap64 (a1)) (ji20))) a2 a3).bind fun bt198 => (if t197 = 0 then (if bt198.2.2 = 0 then (if bt198.1 = (Int.tmod (wrap64 (a0)) (ji15)) then (if bt198.2.1 = t194 then ((barscanlaw08_examples.f kj6).bind fun t201 => (some t201)) else (some false)) else (some false)) else (some false)) else (some false))) = some r := H
                    have A26 := Aside0.mk A260
                    clear A260
                    replace H := Option.bind_eq_some_iff.mp H
                    obtain ⟨⟨t198, t199, t200⟩, A270, H⟩ := H
                    replace H : (if t197 = 0 then (if t200 = 0 then (if t198 = (Int.tmod (wrap64 (a0)) (ji15)) then (if t199 = t194 then ((barscanlaw08_examples.f kj6).bind fun t201 => (some t201)) else (some false)) else (some false)) else (some false)) else (some false)) = some r := H
                    have A27 := Aside0.mk A270
                    clear A270
                    by_cases c28 : t197 = 0
                    · rw [if_pos c28] at H
                      have c28b0 : (t197 == 0) = true := beq_iff_eq.mpr c28
                      have c28b1 : (t197 != 0) = false := bne_eq_false_iff_eq.mpr c28
                      clear c28
                      by_cases c29 : t200 = 0
                      · rw [if_pos c29] at H
                        have c29b0 : (t200 == 0) = true := beq_iff_eq.mpr c29
                        have c29b1 : (t200 != 0) = false := bne_eq_false_iff_eq.mpr c29
                        clear c29
                        by_cases c30 : t198 = (Int.tmod (wrap64 (a0)) (ji15))
                        · rw [if_pos c30] at H
                          have c30b0 : (t198 == (Int.tmod (wrap64 (a0)) (ji15))) = true := beq_iff_eq.mpr c30
                          have c30b1 : (t198 != (Int.tmod (wrap64 (a0)) (ji15))) = false := bne_eq_false_iff_eq.mpr c30
                          clear c30
                          by_cases c31 : t199 = t194
                          · rw [if_pos c31] at H
                            have c31b0 : (t199 == t194) = true := beq_iff_eq.mpr c31
                            have c31b1 : (t199 != t194) = false := bne_eq_false_iff_eq.mpr c31
                            clear c31
                            replace H := Option.bind_eq_some_iff.mp H
                            obtain ⟨t201, A320, H⟩ := H
                            replace H : (some t201) = some r := H
                            have A32 := Aside0.mk A320
                            clear A320
                            obtain rfl := Option.some.inj H
                            go_wp2_with (first | ((with_reducible refine gate_callee (f := 18) rfl ?_); refine goesL_ (some 56) rfl rfl Try.func18 (by kernel_rfl) rfl #[.int .i64 a3] rfl (by (try simp only [List.map_toArray, List.map_cons, List.map_nil]); first | done | rfl | (simp only [List.length_drop, List.length_take]; rfl)) ?_; (with_reducible refine (barscanlaw08_degree.calls kj6 a3 t193 _ A17.out).mono ?_); rintro e w' ⟨rfl, ⟨nd, rfl⟩⟩; refine ⟨_, rfl, ?_⟩) | ((with_reducible refine gate_callee (f := 19) rfl ?_); refine goesL_ (some 62) rfl rfl Try.func19 (by kernel_rfl) rfl #[.int .i64 (Int.tmod (wrap64 (a1)) (ji20))] rfl (by (try simp only [List.map_toArray, List.map_cons, List.map_nil]); first | done | (simp only [hji20]; rfl) | rfl | (simp only [List.length_drop, List.length_take]; rfl)) ?_; (with_reducible refine (barscanlaw08_ones.calls kj6 (Int.tmod (wrap64 (a1)) (ji20)) t194 _ A22.out).mono ?_); rintro e w' ⟨rfl, ⟨nd, rfl⟩⟩; refine ⟨_, rfl, ?_⟩) | ((with_reducible refine gate_callee (f := 11) rfl ?_); refine goesL_ (some 72) rfl rfl Try.func11 (by kernel_rfl) rfl #[.int .i64 (Int.tmod (wrap64 (a0)) (ji15)), .int .i64 a2, .int .i64 a3] rfl (by (try simp only [List.map_toArray, List.map_cons, List.map_nil]); first | done | (simp only [hji15]; rfl) | rfl | (simp only [List.length_drop, List.length_take]; rfl)) ?_; (with_reducible refine (bch_Encode.calls kj6 (Int.tmod (wrap64 (a0)) (ji15)) a2 a3 t196 t197 _ A26.out).mono ?_); rintro e w' ⟨rfl, ⟨nd, rfl⟩⟩; refine ⟨_, rfl, ?_⟩) | ((with_reducible refine gate_callee (f := 16) rfl ?_); refine goesL_ (some 81) rfl rfl Try.func16 (by kernel_rfl) rfl #[.int .i64 (Go.bits .xor .i64 t196 (Int.tmod (wrap64 (a1)) (ji20))), .int .i64 a2, .int .i64 a3] rfl (by (try simp only [List.map_toArray, List.map_cons, List.map_nil]); first | done | (simp only [hji20]; rfl) | rfl | (simp only [List.length_drop, List.length_take]; rfl)) ?_; (with_reducible refine (bch_Decode.calls kj6 (Go.bits .xor .i64 t196 (Int.tmod (wrap64 (a1)) (ji20))) a2 a3 t198 t199 t200 _ A27.out).mono ?_); rintro e w33 ⟨rfl, hb⟩; refine ⟨_, rfl, ?_⟩; have n0_ := Aside0.mk (below_step (by repeat (first | (with_reducible first | exact HB.out | apply below_alloc | apply pw_below_drewN | apply below_drew1) | exact HB.out)) hb); clear HB; have HB := n0_; clear n0_; (try clear hb); (try clear hb2); (try clear hk); (try clear hi)) | (go_at_call 15; (with_reducible refine (barscanlaw08_examples.calls kj6  t201 _ A32.out).mono ?_); rintro e w34 ⟨rfl, hb⟩; have n0_ := Aside0.mk (below_step (by repeat (first | (with_reducible first | exact HB.out | apply below_alloc | apply pw_below_drewN | apply below_drew1) | exact HB.out)) hb); clear HB; have HB := n0_; clear n0_; (try clear hb); (try clear hb2); (try clear hk); (try clear hi)))
                            go_ret
                            exact ⟨by first | rfl | (simp [errW_none, errW_some] <;> rfl) | (simp only [← hji13, ← hji15, ← hji18, ← hji20]; first | rfl | (simp [errW_none, errW_some] <;> rfl)) | (simp [*, errW_none, errW_some] <;> rfl), by repeat (first | (with_reducible first | exact HB.out | apply below_alloc | apply pw_below_drewN | apply below_drew1) | exact HB.out)⟩
                          · rw [if_neg c31] at H
                            have c31b0 : (t199 == t194) = false := beq_eq_false_iff_ne.mpr c31
                            have c31b1 : (t199 != t194) = true := bne_iff_ne.mpr c31
                            obtain rfl := Option.some.inj H
                            go_wp2_with (first | ((with_reducible refine gate_callee (f := 18) rfl ?_); refine goesL_ (some 56) rfl rfl Try.func18 (by kernel_rfl) rfl #[.int .i64 a3] rfl (by (try simp only [List.map_toArray, List.map_cons, List.map_nil]); first | done | rfl | (simp only [List.length_drop, List.length_take]; rfl)) ?_; (with_reducible refine (barscanlaw08_degree.calls kj6 a3 t193 _ A17.out).mono ?_); rintro e w' ⟨rfl, ⟨nd, rfl⟩⟩; refine ⟨_, rfl, ?_⟩) | ((with_reducible refine gate_callee (f := 19) rfl ?_); refine goesL_ (some 62) rfl rfl Try.func19 (by kernel_rfl) rfl #[.int .i64 (Int.tmod (wrap64 (a1)) (ji20))] rfl (by (try simp only [List.map_toArray, List.map_cons, List.map_nil]); first | done | (simp only [hji20]; rfl) | rfl | (simp only [List.length_drop, List.length_take]; rfl)) ?_; (with_reducible refine (barscanlaw08_ones.calls kj6 (Int.tmod (wrap64 (a1)) (ji20)) t194 _ A22.out).mono ?_); rintro e w' ⟨rfl, ⟨nd, rfl⟩⟩; refine ⟨_, rfl, ?_⟩) | ((with_reducible refine gate_callee (f := 11) rfl ?_); refine goesL_ (some 72) rfl rfl Try.func11 (by kernel_rfl) rfl #[.int .i64 (Int.tmod (wrap64 (a0)) (ji15)), .int .i64 a2, .int .i64 a3] rfl (by (try simp only [List.map_toArray, List.map_cons, List.map_nil]); first | done | (simp only [hji15]; rfl) | rfl | (simp only [List.length_drop, List.length_take]; rfl)) ?_; (with_reducible refine (bch_Encode.calls kj6 (Int.tmod (wrap64 (a0)) (ji15)) a2 a3 t196 t197 _ A26.out).mono ?_); rintro e w' ⟨rfl, ⟨nd, rfl⟩⟩; refine ⟨_, rfl, ?_⟩) | ((with_reducible refine gate_callee (f := 16) rfl ?_); refine goesL_ (some 81) rfl rfl Try.func16 (by kernel_rfl) rfl #[.int .i64 (Go.bits .xor .i64 t196 (Int.tmod (wrap64 (a1)) (ji20))), .int .i64 a2, .int .i64 a3] rfl (by (try simp only [List.map_toArray, List.map_cons, List.map_nil]); first | done | (simp only [hji20]; rfl) | rfl | (simp only [List.length_drop, List.length_take]; rfl)) ?_; (with_reducible refine (bch_Decode.calls kj6 (Go.bits .xor .i64 t196 (Int.tmod (wrap64 (a1)) (ji20))) a2 a3 t198 t199 t200 _ A27.out).mono ?_); rintro e w35 ⟨rfl, hb⟩; refine ⟨_, rfl, ?_⟩; have n0_ := Aside0.mk (below_step (by repeat (first | (with_reducible first | exact HB.out | apply below_alloc | apply pw_below_drewN | apply below_drew1) | exact HB.out)) hb); clear HB; have HB := n0_; clear n0_; (try clear hb); (try clear hb2); (try clear hk); (try clear hi)))
                            go_ret
                            exact ⟨by first | rfl | (simp [errW_none, errW_some] <;> rfl) | (simp only [← hji13, ← hji15, ← hji18, ← hji20]; first | rfl | (simp [errW_none, errW_some] <;> rfl)) | (simp [*, errW_none, errW_some] <;> rfl), by repeat (first | (with_reducible first | exact HB.out | apply below_alloc | apply pw_below_drewN | apply below_drew1) | exact HB.out)⟩
                        · rw [if_neg c30] at H
                          have c30b0 : (t198 == (Int.tmod (wrap64 (a0)) (ji15))) = false := beq_eq_false_iff_ne.mpr c30
                          have c30b1 : (t198 != (Int.tmod (wrap64 (a0)) (ji15))) = true := bne_iff_ne.mpr c30
                          obtain rfl := Option.some.inj H
                          go_wp2_with (first | ((with_reducible refine gate_callee (f := 18) rfl ?_); refine goesL_ (some 56) rfl rfl Try.func18 (by kernel_rfl) rfl #[.int .i64 a3] rfl (by (try simp only [List.map_toArray, List.map_cons, List.map_nil]); first | done | rfl | (simp only [List.length_drop, List.length_take]; rfl)) ?_; (with_reducible refine (barscanlaw08_degree.calls kj6 a3 t193 _ A17.out).mono ?_); rintro e w' ⟨rfl, ⟨nd, rfl⟩⟩; refine ⟨_, rfl, ?_⟩) | ((with_reducible refine gate_callee (f := 19) rfl ?_); refine goesL_ (some 62) rfl rfl Try.func19 (by kernel_rfl) rfl #[.int .i64 (Int.tmod (wrap64 (a1)) (ji20))] rfl (by (try simp only [List.map_toArray, List.map_cons, List.map_nil]); first | done | (simp only [hji20]; rfl) | rfl | (simp only [List.length_drop, List.length_take]; rfl)) ?_; (with_reducible refine (barscanlaw08_ones.calls kj6 (Int.tmod (wrap64 (a1)) (ji20)) t194 _ A22.out).mono ?_); rintro e w' ⟨rfl, ⟨nd, rfl⟩⟩; refine ⟨_, rfl, ?_⟩) | ((with_reducible refine gate_callee (f := 11) rfl ?_); refine goesL_ (some 72) rfl rfl Try.func11 (by kernel_rfl) rfl #[.int .i64 (Int.tmod (wrap64 (a0)) (ji15)), .int .i64 a2, .int .i64 a3] rfl (by (try simp only [List.map_toArray, List.map_cons, List.map_nil]); first | done | (simp only [hji15]; rfl) | rfl | (simp only [List.length_drop, List.length_take]; rfl)) ?_; (with_reducible refine (bch_Encode.calls kj6 (Int.tmod (wrap64 (a0)) (ji15)) a2 a3 t196 t197 _ A26.out).mono ?_); rintro e w' ⟨rfl, ⟨nd, rfl⟩⟩; refine ⟨_, rfl, ?_⟩) | ((with_reducible refine gate_callee (f := 16) rfl ?_); refine goesL_ (some 81) rfl rfl Try.func16 (by kernel_rfl) rfl #[.int .i64 (Go.bits .xor .i64 t196 (Int.tmod (wrap64 (a1)) (ji20))), .int .i64 a2, .int .i64 a3] rfl (by (try simp only [List.map_toArray, List.map_cons, List.map_nil]); first | done | (simp only [hji20]; rfl) | rfl | (simp only [List.length_drop, List.length_take]; rfl)) ?_; (with_reducible refine (bch_Decode.calls kj6 (Go.bits .xor .i64 t196 (Int.tmod (wrap64 (a1)) (ji20))) a2 a3 t198 t199 t200 _ A27.out).mono ?_); rintro e w36 ⟨rfl, hb⟩; refine ⟨_, rfl, ?_⟩; have n0_ := Aside0.mk (below_step (by repeat (first | (with_reducible first | exact HB.out | apply below_alloc | apply pw_below_drewN | apply below_drew1) | exact HB.out)) hb); clear HB; have HB := n0_; clear n0_; (try clear hb); (try clear hb2); (try clear hk); (try clear hi)))
                          go_ret
                          exact ⟨by first | rfl | (simp [errW_none, errW_some] <;> rfl) | (simp only [← hji13, ← hji15, ← hji18, ← hji20]; first | rfl | (simp [errW_none, errW_some] <;> rfl)) | (simp [*, errW_none, errW_some] <;> rfl), by repeat (first | (with_reducible first | exact HB.out | apply below_alloc | apply pw_below_drewN | apply below_drew1) | exact HB.out)⟩
                      · rw [if_neg c29] at H
                        have c29b0 : (t200 == 0) = false := beq_eq_false_iff_ne.mpr c29
                        have c29b1 : (t200 != 0) = true := bne_iff_ne.mpr c29
                        obtain rfl := Option.some.inj H
                        go_wp2_with (first | ((with_reducible refine gate_callee (f := 18) rfl ?_); refine goesL_ (some 56) rfl rfl Try.func18 (by kernel_rfl) rfl #[.int .i64 a3] rfl (by (try simp only [List.map_toArray, List.map_cons, List.map_nil]); first | done | rfl | (simp only [List.length_drop, List.length_take]; rfl)) ?_; (with_reducible refine (barscanlaw08_degree.calls kj6 a3 t193 _ A17.out).mono ?_); rintro e w' ⟨rfl, ⟨nd, rfl⟩⟩; refine ⟨_, rfl, ?_⟩) | ((with_reducible refine gate_callee (f := 19) rfl ?_); refine goesL_ (some 62) rfl rfl Try.func19 (by kernel_rfl) rfl #[.int .i64 (Int.tmod (wrap64 (a1)) (ji20))] rfl (by (try simp only [List.map_toArray, List.map_cons, List.map_nil]); first | done | (simp only [hji20]; rfl) | rfl | (simp only [List.length_drop, List.length_take]; rfl)) ?_; (with_reducible refine (barscanlaw08_ones.calls kj6 (Int.tmod (wrap64 (a1)) (ji20)) t194 _ A22.out).mono ?_); rintro e w' ⟨rfl, ⟨nd, rfl⟩⟩; refine ⟨_, rfl, ?_⟩) | ((with_reducible refine gate_callee (f := 11) rfl ?_); refine goesL_ (some 72) rfl rfl Try.func11 (by kernel_rfl) rfl #[.int .i64 (Int.tmod (wrap64 (a0)) (ji15)), .int .i64 a2, .int .i64 a3] rfl (by (try simp only [List.map_toArray, List.map_cons, List.map_nil]); first | done | (simp only [hji15]; rfl) | rfl | (simp only [List.length_drop, List.length_take]; rfl)) ?_; (with_reducible refine (bch_Encode.calls kj6 (Int.tmod (wrap64 (a0)) (ji15)) a2 a3 t196 t197 _ A26.out).mono ?_); rintro e w' ⟨rfl, ⟨nd, rfl⟩⟩; refine ⟨_, rfl, ?_⟩) | ((with_reducible refine gate_callee (f := 16) rfl ?_); refine goesL_ (some 81) rfl rfl Try.func16 (by kernel_rfl) rfl #[.int .i64 (Go.bits .xor .i64 t196 (Int.tmod (wrap64 (a1)) (ji20))), .int .i64 a2, .int .i64 a3] rfl (by (try simp only [List.map_toArray, List.map_cons, List.map_nil]); first | done | (simp only [hji20]; rfl) | rfl | (simp only [List.length_drop, List.length_take]; rfl)) ?_; (with_reducible refine (bch_Decode.calls kj6 (Go.bits .xor .i64 t196 (Int.tmod (wrap64 (a1)) (ji20))) a2 a3 t198 t199 t200 _ A27.out).mono ?_); rintro e w37 ⟨rfl, hb⟩; refine ⟨_, rfl, ?_⟩; have n0_ := Aside0.mk (below_step (by repeat (first | (with_reducible first | exact HB.out | apply below_alloc | apply pw_below_drewN | apply below_drew1) | exact HB.out)) hb); clear HB; have HB := n0_; clear n0_; (try clear hb); (try clear hb2); (try clear hk); (try clear hi)))
                        go_ret
                        exact ⟨by first | rfl | (simp [errW_none, errW_some] <;> rfl) | (simp only [← hji13, ← hji15, ← hji18, ← hji20]; first | rfl | (simp [errW_none, errW_some] <;> rfl)) | (simp [*, errW_none, errW_some] <;> rfl), by repeat (first | (with_reducible first | exact HB.out | apply below_alloc | apply pw_below_drewN | apply below_drew1) | exact HB.out)⟩
                    · rw [if_neg c28] at H
                      have c28b0 : (t197 == 0) = false := beq_eq_false_iff_ne.mpr c28
                      have c28b1 : (t197 != 0) = true := bne_iff_ne.mpr c28
                      obtain rfl := Option.some.inj H
                      go_wp2_with (first | ((with_reducible refine gate_callee (f := 18) rfl ?_); refine goesL_ (some 56) rfl rfl Try.func18 (by kernel_rfl) rfl #[.int .i64 a3] rfl (by (try simp only [List.map_toArray, List.map_cons, List.map_nil]); first | done | rfl | (simp only [List.length_drop, List.length_take]; rfl)) ?_; (with_reducible refine (barscanlaw08_degree.calls kj6 a3 t193 _ A17.out).mono ?_); rintro e w' ⟨rfl, ⟨nd, rfl⟩⟩; refine ⟨_, rfl, ?_⟩) | ((with_reducible refine gate_callee (f := 19) rfl ?_); refine goesL_ (some 62) rfl rfl Try.func19 (by kernel_rfl) rfl #[.int .i64 (Int.tmod (wrap64 (a1)) (ji20))] rfl (by (try simp only [List.map_toArray, List.map_cons, List.map_nil]); first | done | (simp only [hji20]; rfl) | rfl | (simp only [List.length_drop, List.length_take]; rfl)) ?_; (with_reducible refine (barscanlaw08_ones.calls kj6 (Int.tmod (wrap64 (a1)) (ji20)) t194 _ A22.out).mono ?_); rintro e w' ⟨rfl, ⟨nd, rfl⟩⟩; refine ⟨_, rfl, ?_⟩) | ((with_reducible refine gate_callee (f := 11) rfl ?_); refine goesL_ (some 72) rfl rfl Try.func11 (by kernel_rfl) rfl #[.int .i64 (Int.tmod (wrap64 (a0)) (ji15)), .int .i64 a2, .int .i64 a3] rfl (by (try simp only [List.map_toArray, List.map_cons, List.map_nil]); first | done | (simp only [hji15]; rfl) | rfl | (simp only [List.length_drop, List.length_take]; rfl)) ?_; (with_reducible refine (bch_Encode.calls kj6 (Int.tmod (wrap64 (a0)) (ji15)) a2 a3 t196 t197 _ A26.out).mono ?_); rintro e w' ⟨rfl, ⟨nd, rfl⟩⟩; refine ⟨_, rfl, ?_⟩) | ((with_reducible refine gate_callee (f := 16) rfl ?_); refine goesL_ (some 81) rfl rfl Try.func16 (by kernel_rfl) rfl #[.int .i64 (Go.bits .xor .i64 t196 (Int.tmod (wrap64 (a1)) (ji20))), .int .i64 a2, .int .i64 a3] rfl (by (try simp only [List.map_toArray, List.map_cons, List.map_nil]); first | done | (simp only [hji20]; rfl) | rfl | (simp only [List.length_drop, List.length_take]; rfl)) ?_; (with_reducible refine (bch_Decode.calls kj6 (Go.bits .xor .i64 t196 (Int.tmod (wrap64 (a1)) (ji20))) a2 a3 t198 t199 t200 _ A27.out).mono ?_); rintro e w38 ⟨rfl, hb⟩; refine ⟨_, rfl, ?_⟩; have n0_ := Aside0.mk (below_step (by repeat (first | (with_reducible first | exact HB.out | apply below_alloc | apply pw_below_drewN | apply below_drew1) | exact HB.out)) hb); clear HB; have HB := n0_; clear n0_; (try clear hb); (try clear hb2); (try clear hk); (try clear hi)))
                      go_ret
                      exact ⟨by first | rfl | (simp [errW_none, errW_some] <;> rfl) | (simp only [← hji13, ← hji15, ← hji18, ← hji20]; first | rfl | (simp [errW_none, errW_some] <;> rfl)) | (simp [*, errW_none, errW_some] <;> rfl), by repeat (first | (with_reducible first | exact HB.out | apply below_alloc | apply pw_below_drewN | apply below_drew1) | exact HB.out)⟩
              · rw [if_neg c19] at H
                exact absurd H (by simp)
          · rw [if_neg c14] at H
            exact absurd H (by simp)
  · rw [if_neg c6] at H
    have c6b0 : (t191 == 0) = false := beq_eq_false_iff_ne.mpr c6
    have c6b1 : (t191 != 0) = true := bne_iff_ne.mpr c6
    by_cases c39 : t191 = 1
    · rw [if_pos c39] at H
      have c39b0 : (t191 == 1) = true := beq_iff_eq.mpr c39
      have c39b1 : (t191 != 1) = false := bne_eq_false_iff_eq.mpr c39
      clear c39
      replace H := Option.bind_eq_some_iff.mp H
      obtain ⟨t192, A400, H⟩ := H
      replace H : (some t192) = some r := H
      have A40 := Aside0.mk A400
      clear A400
      obtain rfl := Option.some.inj H
      go_enter Try.func6, Try.ntmps6
      go_wp2_with (first | ((with_reducible refine gate_callee (f := 13) rfl ?_); refine goesL_ (some 22) rfl rfl Try.func13 (by kernel_rfl) rfl #[.int .i64 a2, .int .i64 a3] rfl (by (try simp only [List.map_toArray, List.map_cons, List.map_nil]); first | done | rfl | (simp only [List.length_drop, List.length_take]; rfl)) ?_; (with_reducible refine (bch_Distance.calls k a2 a3 t190 t191 _ A5.out).mono ?_); rintro e w41 ⟨rfl, hb⟩; refine ⟨_, rfl, ?_⟩; have n0_ := Aside0.mk (below_step (by repeat (first | (with_reducible first | exact HB.out | apply below_alloc | apply pw_below_drewN | apply below_drew1) | exact HB.out)) hb); clear HB; have HB := n0_; clear n0_; (try clear hb); (try clear hb2); (try clear hk); (try clear hi)) | (go_at_call 15; (with_reducible refine (barscanlaw08_examples.calls k  t192 _ A40.out).mono ?_); rintro e w42 ⟨rfl, hb⟩; have n0_ := Aside0.mk (below_step (by repeat (first | (with_reducible first | exact HB.out | apply below_alloc | apply pw_below_drewN | apply below_drew1) | exact HB.out)) hb); clear HB; have HB := n0_; clear n0_; (try clear hb); (try clear hb2); (try clear hk); (try clear hi)))
      go_ret
      exact ⟨by first | rfl | (simp [errW_none, errW_some] <;> rfl) | (simp [*, errW_none, errW_some] <;> rfl), by repeat (first | (with_reducible first | exact HB.out | apply below_alloc | apply pw_below_drewN | apply below_drew1) | exact HB.out)⟩
    · rw [if_neg c39] at H
      have c39b0 : (t191 == 1) = false := beq_eq_false_iff_ne.mpr c39
      have c39b1 : (t191 != 1) = true := bne_iff_ne.mpr c39
      obtain rfl := Option.some.inj H
      go_enter Try.func6, Try.ntmps6
      go_wp2_with (first | ((with_reducible refine gate_callee (f := 13) rfl ?_); refine goesL_ (some 22) rfl rfl Try.func13 (by kernel_rfl) rfl #[.int .i64 a2, .int .i64 a3] rfl (by (try simp only [List.map_toArray, List.map_cons, List.map_nil]); first | done | rfl | (simp only [List.length_drop, List.length_take]; rfl)) ?_; (with_reducible refine (bch_Distance.calls k a2 a3 t190 t191 _ A5.out).mono ?_); rintro e w43 ⟨rfl, hb⟩; refine ⟨_, rfl, ?_⟩; have n0_ := Aside0.mk (below_step (by repeat (first | (with_reducible first | exact HB.out | apply below_alloc | apply pw_below_drewN | apply below_drew1) | exact HB.out)) hb); clear HB; have HB := n0_; clear n0_; (try clear hb); (try clear hb2); (try clear hk); (try clear hi)))
      go_ret
      exact ⟨by first | rfl | (simp [errW_none, errW_some] <;> rfl) | (simp [*, errW_none, errW_some] <;> rfl), by repeat (first | (with_reducible first | exact HB.out | apply below_alloc | apply pw_below_drewN | apply below_drew1) | exact HB.out)⟩

/-- THE ONE PURE STATEMENT of barscanlaw08_BchCorrects: yours. -/
def barscanlaw08_BchCorrects.Pure : Prop := ∀ (a0 : Int) (a1 : Int) (a2 : Int) (a3 : Int), (Lit.int .u16 a0).wf = true → (Lit.int .u32 a1).wf = true → (Lit.int .i64 a2).wf = true → (Lit.int .i64 a3).wf = true → ∃ k, barscanlaw08_BchCorrects.f k a0 a1 a2 a3 = some true
theorem barscanlaw08_BchCorrects.walk (P : barscanlaw08_BchCorrects.Pure) (a0 : Int) (a1 : Int) (a2 : Int) (a3 : Int) (w : World) (w0 : (Lit.int .u16 a0).wf = true) (w1 : (Lit.int .u32 a1).wf = true) (w2 : (Lit.int .i64 a2).wf = true) (w3 : (Lit.int .i64 a3).wf = true) :
    Calls Try.prog 6 #[.int .u16 a0, .int .u32 a1, .int .i64 a2, .int .i64 a3] w fun e w' => e = .returned (.bool true) ∧ Below w.heap.size w w' := by
  obtain ⟨k, h⟩ := P a0 a1 a2 a3 w0 w1 w2 w3
  refine (barscanlaw08_BchCorrects.calls k a0 a1 a2 a3 true w h).mono ?_
  rintro e w' ⟨rfl, hd⟩
  exact ⟨rfl, hd⟩

/-! ### barscanlaw08_BchDetects: function 7 -/
def barscanlaw08_BchDetects.f (k : Nat) (a0 : Int) (a1 : Int) (a2 : Int) : Option (Bool) := (bch_Decode.f k a0 a1 a2).bind fun bt202 => (if bt202.2.2 = 0 then ((bch_Distance.f k a1 a2).bind fun bt208 => ((bch_Encode.f k bt202.1 a1 a2).bind fun bt210 => (if bt208.2 = 0 then (if bt210.2 = 0 then ((barscanlaw08_ones.f k (Go.bits .xor .i64 bt210.1 a0)).bind fun t212 => (if t212 = bt202.2.1 then (if (wrap64 (2 * bt202.2.1)) < bt208.1 then ((barscanlaw08_examples.f k).bind fun t213 => (some t213)) else (some false)) else (some false))) else (some false)) else (some false)))) else (if bt202.1 = 0 then (if bt202.2.1 = 0 then (if bt202.2.2 = 1 then ((barscanlaw08_examples.f k).bind fun t205 => (some t205)) else (if bt202.2.2 = 3 then ((barscanlaw08_examples.f k).bind fun t206 => (some t206)) else (if bt202.2.2 = 17 then ((barscanlaw08_examples.f k).bind fun t207 => (some t207)) else (some false)))) else (some false)) else (some false)))
theorem barscanlaw08_BchDetects.mono : ∀ a0 a1 a2 k, LeO (barscanlaw08_BchDetects.f k a0 a1 a2) (barscanlaw08_BchDetects.f (k + 1) a0 a1 a2) := by
  intro a0 a1 a2 k
  unfold barscanlaw08_BchDetects.f
  repeat' first
      | (with_reducible exact barscanlaw08_examples.mono _)
      | (with_reducible exact barscanlaw08_ones.mono _ _)
      | (with_reducible exact bch_Decode.mono _ _ _ _)
      | (with_reducible exact bch_Distance.mono _ _ _)
      | (with_reducible exact bch_Encode.mono _ _ _ _)
      | (with_reducible exact LeO.refl _)
      | (with_reducible exact LeO.none _)
      | (with_reducible refine LeO.ite ?_ ?_)
      | (with_reducible refine LeO.bind ?_ (fun _ => ?_))
      | exact barscanlaw08_examples.mono _
      | exact barscanlaw08_ones.mono _ _
      | exact bch_Decode.mono _ _ _ _
      | exact bch_Distance.mono _ _ _
      | exact bch_Encode.mono _ _ _ _
      | exact LeO.none _
      | refine LeO.ite ?_ ?_
      | refine LeO.bind ?_ (fun _ => ?_)
set_option maxHeartbeats 8000000 in
set_option maxRecDepth 100000 in
theorem barscanlaw08_BchDetects.calls (k : Nat) (a0 : Int) (a1 : Int) (a2 : Int) (r : Bool) (w : World) (h : barscanlaw08_BchDetects.f k a0 a1 a2 = some r) :
    Calls Try.prog 7 #[.int .i64 a0, .int .i64 a1, .int .i64 a2] w fun e w' => e = .returned (.bool r) ∧ Below w.heap.size w w' := by
  have HB := Aside0.mk (Below.refl w.heap.size w)
  have H : ((bch_Decode.f k a0 a1 a2).bind fun bt202 => (if bt202.2.2 = 0 then ((bch_Distance.f k a1 a2).bind fun bt208 => ((bch_Encode.f k bt202.1 a1 a2).bind fun bt210 => (if bt208.2 = 0 then (if bt210.2 = 0 then ((barscanlaw08_ones.f k (Go.bits .xor .i64 bt210.1 a0)).bind fun t212 => (if t212 = bt202.2.1 then (if (wrap64 (2 * bt202.2.1)) < bt208.1 then ((barscanlaw08_examples.f k).bind fun t213 => (some t213)) else (some false)) else (some false))) else (some false)) else (some false)))) else (if bt202.1 = 0 then (if bt202.2.1 = 0 then (if bt202.2.2 = 1 then ((barscanlaw08_examples.f k).bind fun t205 => (some t205)) else (if bt202.2.2 = 3 then ((barscanlaw08_examples.f k).bind fun t206 => (some t206)) else (if bt202.2.2 = 17 then ((barscanlaw08_examples.f k).bind fun t207 => (some t207)) else (some false)))) else (some false)) else (some false)))) = some r := h
  clear h
  replace H := Option.bind_eq_some_iff.mp H
  obtain ⟨⟨t202, t203, t204⟩, A40, H⟩ := H
  replace H : (if t204 = 0 then ((bch_Distance.f k a1 a2).bind fun bt208 => ((bch_Encode.f k t202 a1 a2).bind fun bt210 => (if bt208.2 = 0 then (if bt210.2 = 0 then ((barscanlaw08_ones.f k (Go.bits .xor .i64 bt210.1 a0)).bind fun t212 => (if t212 = t203 then (if (wrap64 (2 * t203)) < bt208.1 then ((barscanlaw08_examples.f k).bind fun t213 => (some t213)) else (some false)) else (some false))) else (some false)) else (some false)))) else (if t202 = 0 then (if t203 = 0 then (if t204 = 1 then ((barscanlaw08_examples.f k).bind fun t205 => (some t205)) else (if t204 = 3 then ((barscanlaw08_examples.f k).bind fun t206 => (some t206)) else (if t204 = 17 then ((barscanlaw08_examples.f k).bind fun t207 => (some t207)) else (some false)))) else (some false)) else (some false))) = some r := H
  have A4 := Aside0.mk A40
  clear A40
  by_cases c5 : t204 = 0
  · rw [if_pos c5] at H
    have c5b0 : (t204 == 0) = true := beq_iff_eq.mpr c5
    have c5b1 : (t204 != 0) = false := bne_eq_false_iff_eq.mpr c5
    clear c5
    replace H := Option.bind_eq_some_iff.mp H
    obtain ⟨⟨t208, t209⟩, A60, H⟩ := H
    replace H : ((bch_Encode.f k t202 a1 a2).bind fun bt210 => (if t209 = 0 then (if bt210.2 = 0 then ((barscanlaw08_ones.f k (Go.bits .xor .i64 bt210.1 a0)).bind fun t212 => (if t212 = t203 then (if (wrap64 (2 * t203)) < t208 then ((barscanlaw08_examples.f k).bind fun t213 => (some t213)) else (some false)) else (some false))) else (some false)) else (some false))) = some r := H
    have A6 := Aside0.mk A60
    clear A60
    replace H := Option.bind_eq_some_iff.mp H
    obtain ⟨⟨t210, t211⟩, A70, H⟩ := H
    replace H : (if t209 = 0 then (if t211 = 0 then ((barscanlaw08_ones.f k (Go.bits .xor .i64 t210 a0)).bind fun t212 => (if t212 = t203 then (if (wrap64 (2 * t203)) < t208 then ((barscanlaw08_examples.f k).bind fun t213 => (some t213)) else (some false)) else (some false))) else (some false)) else (some false)) = some r := H
    have A7 := Aside0.mk A70
    clear A70
    by_cases c8 : t209 = 0
    · rw [if_pos c8] at H
      have c8b0 : (t209 == 0) = true := beq_iff_eq.mpr c8
      have c8b1 : (t209 != 0) = false := bne_eq_false_iff_eq.mpr c8
      clear c8
      by_cases c9 : t211 = 0
      · rw [if_pos c9] at H
        have c9b0 : (t211 == 0) = true := beq_iff_eq.mpr c9
        have c9b1 : (t211 != 0) = false := bne_eq_false_iff_eq.mpr c9
        clear c9
        replace H := Option.bind_eq_some_iff.mp H
        obtain ⟨t212, A100, H⟩ := H
        replace H : (if t212 = t203 then (if (wrap64 (2 * t203)) < t208 then ((barscanlaw08_examples.f k).bind fun t213 => (some t213)) else (some false)) else (some false)) = some r := H
        have A10 := Aside0.mk A100
        clear A100
        by_cases c11 : t212 = t203
        · rw [if_pos c11] at H
          have c11b0 : (t212 == t203) = true := beq_iff_eq.mpr c11
          have c11b1 : (t212 != t203) = false := bne_eq_false_iff_eq.mpr c11
          clear c11
          by_cases c12 : (wrap64 (2 * t203)) < t208
          · rw [if_pos c12] at H
            have c12b0 : decide ((wrap64 (2 * t203)) < t208) = true := decide_eq_true c12
            clear c12
            replace H := Option.bind_eq_some_iff.mp H
            obtain ⟨t213, A130, H⟩ := H
            replace H : (some t213) = some r := H
            have A13 := Aside0.mk A130
            clear A130
            obtain rfl := Option.some.inj H
            go_enter Try.func7, Try.ntmps7
            go_wp2_with (first | ((with_reducible refine gate_callee (f := 16) rfl ?_); refine goesL_ (some 18) rfl rfl Try.func16 (by kernel_rfl) rfl #[.int .i64 a0, .int .i64 a1, .int .i64 a2] rfl (by (try simp only [List.map_toArray, List.map_cons, List.map_nil]); first | done | rfl | (simp only [List.length_drop, List.length_take]; rfl)) ?_; (with_reducible refine (bch_Decode.calls k a0 a1 a2 t202 t203 t204 _ A4.out).mono ?_); rintro e w14 ⟨rfl, hb⟩; refine ⟨_, rfl, ?_⟩; have n0_ := Aside0.mk (below_step (by repeat (first | (with_reducible first | exact HB.out | apply below_alloc | apply pw_below_drewN | apply below_drew1) | exact HB.out)) hb); clear HB; have HB := n0_; clear n0_; (try clear hb); (try clear hb2); (try clear hk); (try clear hi)) | ((with_reducible refine gate_callee (f := 13) rfl ?_); refine goesL_ (some 48) rfl rfl Try.func13 (by kernel_rfl) rfl #[.int .i64 a1, .int .i64 a2] rfl (by (try simp only [List.map_toArray, List.map_cons, List.map_nil]); first | done | rfl | (simp only [List.length_drop, List.length_take]; rfl)) ?_; (with_reducible refine (bch_Distance.calls k a1 a2 t208 t209 _ A6.out).mono ?_); rintro e w15 ⟨rfl, hb⟩; refine ⟨_, rfl, ?_⟩; have n0_ := Aside0.mk (below_step (by repeat (first | (with_reducible first | exact HB.out | apply below_alloc | apply pw_below_drewN | apply below_drew1) | exact HB.out)) hb); clear HB; have HB := n0_; clear n0_; (try clear hb); (try clear hb2); (try clear hk); (try clear hi)) | ((with_reducible refine gate_callee (f := 11) rfl ?_); refine goesL_ (some 55) rfl rfl Try.func11 (by kernel_rfl) rfl #[.int .i64 t202, .int .i64 a1, .int .i64 a2] rfl (by (try simp only [List.map_toArray, List.map_cons, List.map_nil]); first | done | rfl | (simp only [List.length_drop, List.length_take]; rfl)) ?_; (with_reducible refine (bch_Encode.calls k t202 a1 a2 t210 t211 _ A7.out).mono ?_); rintro e w' ⟨rfl, ⟨nd, rfl⟩⟩; refine ⟨_, rfl, ?_⟩) | (go_at_call 19; (with_reducible refine (barscanlaw08_ones.calls k (Go.bits .xor .i64 t210 a0) t212 _ A10.out).mono ?_); rintro e w' ⟨rfl, ⟨nd, rfl⟩⟩) | (go_at_call 15; (with_reducible refine (barscanlaw08_examples.calls k  t213 _ A13.out).mono ?_); rintro e w16 ⟨rfl, hb⟩; have n0_ := Aside0.mk (below_step (by repeat (first | (with_reducible first | exact HB.out | apply below_alloc | apply pw_below_drewN | apply below_drew1) | exact HB.out)) hb); clear HB; have HB := n0_; clear n0_; (try clear hb); (try clear hb2); (try clear hk); (try clear hi)))
            go_ret
            exact ⟨by first | rfl | (simp [errW_none, errW_some] <;> rfl) | (simp [*, errW_none, errW_some] <;> rfl), by repeat (first | (with_reducible first | exact HB.out | apply below_alloc | apply pw_below_drewN | apply below_drew1) | exact HB.out)⟩
          · rw [if_neg c12] at H
            have c12b0 : decide ((wrap64 (2 * t203)) < t208) = false := decide_eq_false c12
            clear c12
            obtain rfl := Option.some.inj H
            go_enter Try.func7, Try.ntmps7
            go_wp2_with (first | ((with_reducible refine gate_callee (f := 16) rfl ?_); refine goesL_ (some 18) rfl rfl Try.func16 (by kernel_rfl) rfl #[.int .i64 a0, .int .i64 a1, .int .i64 a2] rfl (by (try simp only [List.map_toArray, List.map_cons, List.map_nil]); first | done | rfl | (simp only [List.length_drop, List.length_take]; rfl)) ?_; (with_reducible refine (bch_Decode.calls k a0 a1 a2 t202 t203 t204 _ A4.out).mono ?_); rintro e w17 ⟨rfl, hb⟩; refine ⟨_, rfl, ?_⟩; have n0_ := Aside0.mk (below_step (by repeat (first | (with_reducible first | exact HB.out | apply below_alloc | apply pw_below_drewN | apply below_drew1) | exact HB.out)) hb); clear HB; have HB := n0_; clear n0_; (try clear hb); (try clear hb2); (try clear hk); (try clear hi)) | ((with_reducible refine gate_callee (f := 13) rfl ?_); refine goesL_ (some 48) rfl rfl Try.func13 (by kernel_rfl) rfl #[.int .i64 a1, .int .i64 a2] rfl (by (try simp only [List.map_toArray, List.map_cons, List.map_nil]); first | done | rfl | (simp only [List.length_drop, List.length_take]; rfl)) ?_; (with_reducible refine (bch_Distance.calls k a1 a2 t208 t209 _ A6.out).mono ?_); rintro e w18 ⟨rfl, hb⟩; refine ⟨_, rfl, ?_⟩; have n0_ := Aside0.mk (below_step (by repeat (first | (with_reducible first | exact HB.out | apply below_alloc | apply pw_below_drewN | apply below_drew1) | exact HB.out)) hb); clear HB; have HB := n0_; clear n0_; (try clear hb); (try clear hb2); (try clear hk); (try clear hi)) | ((with_reducible refine gate_callee (f := 11) rfl ?_); refine goesL_ (some 55) rfl rfl Try.func11 (by kernel_rfl) rfl #[.int .i64 t202, .int .i64 a1, .int .i64 a2] rfl (by (try simp only [List.map_toArray, List.map_cons, List.map_nil]); first | done | rfl | (simp only [List.length_drop, List.length_take]; rfl)) ?_; (with_reducible refine (bch_Encode.calls k t202 a1 a2 t210 t211 _ A7.out).mono ?_); rintro e w' ⟨rfl, ⟨nd, rfl⟩⟩; refine ⟨_, rfl, ?_⟩) | (go_at_call 19; (with_reducible refine (barscanlaw08_ones.calls k (Go.bits .xor .i64 t210 a0) t212 _ A10.out).mono ?_); rintro e w' ⟨rfl, ⟨nd, rfl⟩⟩))
            go_ret
            exact ⟨by first | rfl | (simp [errW_none, errW_some] <;> rfl) | (simp [*, errW_none, errW_some] <;> rfl), by repeat (first | (with_reducible first | exact HB.out | apply below_alloc | apply pw_below_drewN | apply below_drew1) | exact HB.out)⟩
        · rw [if_neg c11] at H
          have c11b0 : (t212 == t203) = false := beq_eq_false_iff_ne.mpr c11
          have c11b1 : (t212 != t203) = true := bne_iff_ne.mpr c11
          obtain rfl := Option.some.inj H
          go_enter Try.func7, Try.ntmps7
          go_wp2_with (first | ((with_reducible refine gate_callee (f := 16) rfl ?_); refine goesL_ (some 18) rfl rfl Try.func16 (by kernel_rfl) rfl #[.int .i64 a0, .int .i64 a1, .int .i64 a2] rfl (by (try simp only [List.map_toArray, List.map_cons, List.map_nil]); first | done | rfl | (simp only [List.length_drop, List.length_take]; rfl)) ?_; (with_reducible refine (bch_Decode.calls k a0 a1 a2 t202 t203 t204 _ A4.out).mono ?_); rintro e w19 ⟨rfl, hb⟩; refine ⟨_, rfl, ?_⟩; have n0_ := Aside0.mk (below_step (by repeat (first | (with_reducible first | exact HB.out | apply below_alloc | apply pw_below_drewN | apply below_drew1) | exact HB.out)) hb); clear HB; have HB := n0_; clear n0_; (try clear hb); (try clear hb2); (try clear hk); (try clear hi)) | ((with_reducible refine gate_callee (f := 13) rfl ?_); refine goesL_ (some 48) rfl rfl Try.func13 (by kernel_rfl) rfl #[.int .i64 a1, .int .i64 a2] rfl (by (try simp only [List.map_toArray, List.map_cons, List.map_nil]); first | done | rfl | (simp only [List.length_drop, List.length_take]; rfl)) ?_; (with_reducible refine (bch_Distance.calls k a1 a2 t208 t209 _ A6.out).mono ?_); rintro e w20 ⟨rfl, hb⟩; refine ⟨_, rfl, ?_⟩; have n0_ := Aside0.mk (below_step (by repeat (first | (with_reducible first | exact HB.out | apply below_alloc | apply pw_below_drewN | apply below_drew1) | exact HB.out)) hb); clear HB; have HB := n0_; clear n0_; (try clear hb); (try clear hb2); (try clear hk); (try clear hi)) | ((with_reducible refine gate_callee (f := 11) rfl ?_); refine goesL_ (some 55) rfl rfl Try.func11 (by kernel_rfl) rfl #[.int .i64 t202, .int .i64 a1, .int .i64 a2] rfl (by (try simp only [List.map_toArray, List.map_cons, List.map_nil]); first | done | rfl | (simp only [List.length_drop, List.length_take]; rfl)) ?_; (with_reducible refine (bch_Encode.calls k t202 a1 a2 t210 t211 _ A7.out).mono ?_); rintro e w' ⟨rfl, ⟨nd, rfl⟩⟩; refine ⟨_, rfl, ?_⟩) | (go_at_call 19; (with_reducible refine (barscanlaw08_ones.calls k (Go.bits .xor .i64 t210 a0) t212 _ A10.out).mono ?_); rintro e w' ⟨rfl, ⟨nd, rfl⟩⟩))
          go_ret
          exact ⟨by first | rfl | (simp [errW_none, errW_some] <;> rfl) | (simp [*, errW_none, errW_some] <;> rfl), by repeat (first | (with_reducible first | exact HB.out | apply below_alloc | apply pw_below_drewN | apply below_drew1) | exact HB.out)⟩
      · rw [if_neg c9] at H
        have c9b0 : (t211 == 0) = false := beq_eq_false_iff_ne.mpr c9
        have c9b1 : (t211 != 0) = true := bne_iff_ne.mpr c9
        obtain rfl := Option.some.inj H
        go_enter Try.func7, Try.ntmps7
        go_wp2_with (first | ((with_reducible refine gate_callee (f := 16) rfl ?_); refine goesL_ (some 18) rfl rfl Try.func16 (by kernel_rfl) rfl #[.int .i64 a0, .int .i64 a1, .int .i64 a2] rfl (by (try simp only [List.map_toArray, List.map_cons, List.map_nil]); first | done | rfl | (simp only [List.length_drop, List.length_take]; rfl)) ?_; (with_reducible refine (bch_Decode.calls k a0 a1 a2 t202 t203 t204 _ A4.out).mono ?_); rintro e w21 ⟨rfl, hb⟩; refine ⟨_, rfl, ?_⟩; have n0_ := Aside0.mk (below_step (by repeat (first | (with_reducible first | exact HB.out | apply below_alloc | apply pw_below_drewN | apply below_drew1) | exact HB.out)) hb); clear HB; have HB := n0_; clear n0_; (try clear hb); (try clear hb2); (try clear hk); (try clear hi)) | ((with_reducible refine gate_callee (f := 13) rfl ?_); refine goesL_ (some 48) rfl rfl Try.func13 (by kernel_rfl) rfl #[.int .i64 a1, .int .i64 a2] rfl (by (try simp only [List.map_toArray, List.map_cons, List.map_nil]); first | done | rfl | (simp only [List.length_drop, List.length_take]; rfl)) ?_; (with_reducible refine (bch_Distance.calls k a1 a2 t208 t209 _ A6.out).mono ?_); rintro e w22 ⟨rfl, hb⟩; refine ⟨_, rfl, ?_⟩; have n0_ := Aside0.mk (below_step (by repeat (first | (with_reducible first | exact HB.out | apply below_alloc | apply pw_below_drewN | apply below_drew1) | exact HB.out)) hb); clear HB; have HB := n0_; clear n0_; (try clear hb); (try clear hb2); (try clear hk); (try clear hi)) | ((with_reducible refine gate_callee (f := 11) rfl ?_); refine goesL_ (some 55) rfl rfl Try.func11 (by kernel_rfl) rfl #[.int .i64 t202, .int .i64 a1, .int .i64 a2] rfl (by (try simp only [List.map_toArray, List.map_cons, List.map_nil]); first | done | rfl | (simp only [List.length_drop, List.length_take]; rfl)) ?_; (with_reducible refine (bch_Encode.calls k t202 a1 a2 t210 t211 _ A7.out).mono ?_); rintro e w' ⟨rfl, ⟨nd, rfl⟩⟩; refine ⟨_, rfl, ?_⟩))
        go_ret
        exact ⟨by first | rfl | (simp [errW_none, errW_some] <;> rfl) | (simp [*, errW_none, errW_some] <;> rfl), by repeat (first | (with_reducible first | exact HB.out | apply below_alloc | apply pw_below_drewN | apply below_drew1) | exact HB.out)⟩
    · rw [if_neg c8] at H
      have c8b0 : (t209 == 0) = false := beq_eq_false_iff_ne.mpr c8
      have c8b1 : (t209 != 0) = true := bne_iff_ne.mpr c8
      obtain rfl := Option.some.inj H
      go_enter Try.func7, Try.ntmps7
      go_wp2_with (first | ((with_reducible refine gate_callee (f := 16) rfl ?_); refine goesL_ (some 18) rfl rfl Try.func16 (by kernel_rfl) rfl #[.int .i64 a0, .int .i64 a1, .int .i64 a2] rfl (by (try simp only [List.map_toArray, List.map_cons, List.map_nil]); first | done | rfl | (simp only [List.length_drop, List.length_take]; rfl)) ?_; (with_reducible refine (bch_Decode.calls k a0 a1 a2 t202 t203 t204 _ A4.out).mono ?_); rintro e w23 ⟨rfl, hb⟩; refine ⟨_, rfl, ?_⟩; have n0_ := Aside0.mk (below_step (by repeat (first | (with_reducible first | exact HB.out | apply below_alloc | apply pw_below_drewN | apply below_drew1) | exact HB.out)) hb); clear HB; have HB := n0_; clear n0_; (try clear hb); (try clear hb2); (try clear hk); (try clear hi)) | ((with_reducible refine gate_callee (f := 13) rfl ?_); refine goesL_ (some 48) rfl rfl Try.func13 (by kernel_rfl) rfl #[.int .i64 a1, .int .i64 a2] rfl (by (try simp only [List.map_toArray, List.map_cons, List.map_nil]); first | done | rfl | (simp only [List.length_drop, List.length_take]; rfl)) ?_; (with_reducible refine (bch_Distance.calls k a1 a2 t208 t209 _ A6.out).mono ?_); rintro e w24 ⟨rfl, hb⟩; refine ⟨_, rfl, ?_⟩; have n0_ := Aside0.mk (below_step (by repeat (first | (with_reducible first | exact HB.out | apply below_alloc | apply pw_below_drewN | apply below_drew1) | exact HB.out)) hb); clear HB; have HB := n0_; clear n0_; (try clear hb); (try clear hb2); (try clear hk); (try clear hi)) | ((with_reducible refine gate_callee (f := 11) rfl ?_); refine goesL_ (some 55) rfl rfl Try.func11 (by kernel_rfl) rfl #[.int .i64 t202, .int .i64 a1, .int .i64 a2] rfl (by (try simp only [List.map_toArray, List.map_cons, List.map_nil]); first | done | rfl | (simp only [List.length_drop, List.length_take]; rfl)) ?_; (with_reducible refine (bch_Encode.calls k t202 a1 a2 t210 t211 _ A7.out).mono ?_); rintro e w' ⟨rfl, ⟨nd, rfl⟩⟩; refine ⟨_, rfl, ?_⟩))
      go_ret
      exact ⟨by first | rfl | (simp [errW_none, errW_some] <;> rfl) | (simp [*, errW_none, errW_some] <;> rfl), by repeat (first | (with_reducible first | exact HB.out | apply below_alloc | apply pw_below_drewN | apply below_drew1) | exact HB.out)⟩
  · rw [if_neg c5] at H
    have c5b0 : (t204 == 0) = false := beq_eq_false_iff_ne.mpr c5
    have c5b1 : (t204 != 0) = true := bne_iff_ne.mpr c5
    by_cases c25 : t202 = 0
    · rw [if_pos c25] at H
      have c25b0 : (t202 == 0) = true := beq_iff_eq.mpr c25
      have c25b1 : (t202 != 0) = false := bne_eq_false_iff_eq.mpr c25
      clear c25
      by_cases c26 : t203 = 0
      · rw [if_pos c26] at H
        have c26b0 : (t203 == 0) = true := beq_iff_eq.mpr c26
        have c26b1 : (t203 != 0) = false := bne_eq_false_iff_eq.mpr c26
        clear c26
        by_cases c27 : t204 = 1
        · rw [if_pos c27] at H
          have c27b0 : (t204 == 1) = true := beq_iff_eq.mpr c27
          have c27b1 : (t204 != 1) = false := bne_eq_false_iff_eq.mpr c27
          clear c27
          replace H := Option.bind_eq_some_iff.mp H
          obtain ⟨t205, A280, H⟩ := H
          replace H : (some t205) = some r := H
          have A28 := Aside0.mk A280
          clear A280
          obtain rfl := Option.some.inj H
          go_enter Try.func7, Try.ntmps7
          go_wp2_with (first | ((with_reducible refine gate_callee (f := 16) rfl ?_); refine goesL_ (some 18) rfl rfl Try.func16 (by kernel_rfl) rfl #[.int .i64 a0, .int .i64 a1, .int .i64 a2] rfl (by (try simp only [List.map_toArray, List.map_cons, List.map_nil]); first | done | rfl | (simp only [List.length_drop, List.length_take]; rfl)) ?_; (with_reducible refine (bch_Decode.calls k a0 a1 a2 t202 t203 t204 _ A4.out).mono ?_); rintro e w29 ⟨rfl, hb⟩; refine ⟨_, rfl, ?_⟩; have n0_ := Aside0.mk (below_step (by repeat (first | (with_reducible first | exact HB.out | apply below_alloc | apply pw_below_drewN | apply below_drew1) | exact HB.out)) hb); clear HB; have HB := n0_; clear n0_; (try clear hb); (try clear hb2); (try clear hk); (try clear hi)) | (go_at_call 15; (with_reducible refine (barscanlaw08_examples.calls k  t205 _ A28.out).mono ?_); rintro e w30 ⟨rfl, hb⟩; have n0_ := Aside0.mk (below_step (by repeat (first | (with_reducible first | exact HB.out | apply below_alloc | apply pw_below_drewN | apply below_drew1) | exact HB.out)) hb); clear HB; have HB := n0_; clear n0_; (try clear hb); (try clear hb2); (try clear hk); (try clear hi)))
          go_ret
          exact ⟨by first | rfl | (simp [errW_none, errW_some] <;> rfl) | (simp [*, errW_none, errW_some] <;> rfl), by repeat (first | (with_reducible first | exact HB.out | apply below_alloc | apply pw_below_drewN | apply below_drew1) | exact HB.out)⟩
        · rw [if_neg c27] at H
          have c27b0 : (t204 == 1) = false := beq_eq_false_iff_ne.mpr c27
          have c27b1 : (t204 != 1) = true := bne_iff_ne.mpr c27
          by_cases c31 : t204 = 3
          · rw [if_pos c31] at H
            have c31b0 : (t204 == 3) = true := beq_iff_eq.mpr c31
            have c31b1 : (t204 != 3) = false := bne_eq_false_iff_eq.mpr c31
            clear c31
            replace H := Option.bind_eq_some_iff.mp H
            obtain ⟨t206, A320, H⟩ := H
            replace H : (some t206) = some r := H
            have A32 := Aside0.mk A320
            clear A320
            obtain rfl := Option.some.inj H
            go_enter Try.func7, Try.ntmps7
            go_wp2_with (first | ((with_reducible refine gate_callee (f := 16) rfl ?_); refine goesL_ (some 18) rfl rfl Try.func16 (by kernel_rfl) rfl #[.int .i64 a0, .int .i64 a1, .int .i64 a2] rfl (by (try simp only [List.map_toArray, List.map_cons, List.map_nil]); first | done | rfl | (simp only [List.length_drop, List.length_take]; rfl)) ?_; (with_reducible refine (bch_Decode.calls k a0 a1 a2 t202 t203 t204 _ A4.out).mono ?_); rintro e w33 ⟨rfl, hb⟩; refine ⟨_, rfl, ?_⟩; have n0_ := Aside0.mk (below_step (by repeat (first | (with_reducible first | exact HB.out | apply below_alloc | apply pw_below_drewN | apply below_drew1) | exact HB.out)) hb); clear HB; have HB := n0_; clear n0_; (try clear hb); (try clear hb2); (try clear hk); (try clear hi)) | (go_at_call 15; (with_reducible refine (barscanlaw08_examples.calls k  t206 _ A32.out).mono ?_); rintro e w34 ⟨rfl, hb⟩; have n0_ := Aside0.mk (below_step (by repeat (first | (with_reducible first | exact HB.out | apply below_alloc | apply pw_below_drewN | apply below_drew1) | exact HB.out)) hb); clear HB; have HB := n0_; clear n0_; (try clear hb); (try clear hb2); (try clear hk); (try clear hi)))
            go_ret
            exact ⟨by first | rfl | (simp [errW_none, errW_some] <;> rfl) | (simp [*, errW_none, errW_some] <;> rfl), by repeat (first | (with_reducible first | exact HB.out | apply below_alloc | apply pw_below_drewN | apply below_drew1) | exact HB.out)⟩
          · rw [if_neg c31] at H
            have c31b0 : (t204 == 3) = false := beq_eq_false_iff_ne.mpr c31
            have c31b1 : (t204 != 3) = true := bne_iff_ne.mpr c31
            by_cases c35 : t204 = 17
            · rw [if_pos c35] at H
              have c35b0 : (t204 == 17) = true := beq_iff_eq.mpr c35
              have c35b1 : (t204 != 17) = false := bne_eq_false_iff_eq.mpr c35
              clear c35
              replace H := Option.bind_eq_some_iff.mp H
              obtain ⟨t207, A360, H⟩ := H
              replace H : (some t207) = some r := H
              have A36 := Aside0.mk A360
              clear A360
              obtain rfl := Option.some.inj H
              go_enter Try.func7, Try.ntmps7
              go_wp2_with (first | ((with_reducible refine gate_callee (f := 16) rfl ?_); refine goesL_ (some 18) rfl rfl Try.func16 (by kernel_rfl) rfl #[.int .i64 a0, .int .i64 a1, .int .i64 a2] rfl (by (try simp only [List.map_toArray, List.map_cons, List.map_nil]); first | done | rfl | (simp only [List.length_drop, List.length_take]; rfl)) ?_; (with_reducible refine (bch_Decode.calls k a0 a1 a2 t202 t203 t204 _ A4.out).mono ?_); rintro e w37 ⟨rfl, hb⟩; refine ⟨_, rfl, ?_⟩; have n0_ := Aside0.mk (below_step (by repeat (first | (with_reducible first | exact HB.out | apply below_alloc | apply pw_below_drewN | apply below_drew1) | exact HB.out)) hb); clear HB; have HB := n0_; clear n0_; (try clear hb); (try clear hb2); (try clear hk); (try clear hi)) | (go_at_call 15; (with_reducible refine (barscanlaw08_examples.calls k  t207 _ A36.out).mono ?_); rintro e w38 ⟨rfl, hb⟩; have n0_ := Aside0.mk (below_step (by repeat (first | (with_reducible first | exact HB.out | apply below_alloc | apply pw_below_drewN | apply below_drew1) | exact HB.out)) hb); clear HB; have HB := n0_; clear n0_; (try clear hb); (try clear hb2); (try clear hk); (try clear hi)))
              go_ret
              exact ⟨by first | rfl | (simp [errW_none, errW_some] <;> rfl) | (simp [*, errW_none, errW_some] <;> rfl), by repeat (first | (with_reducible first | exact HB.out | apply below_alloc | apply pw_below_drewN | apply below_drew1) | exact HB.out)⟩
            · rw [if_neg c35] at H
              have c35b0 : (t204 == 17) = false := beq_eq_false_iff_ne.mpr c35
              have c35b1 : (t204 != 17) = true := bne_iff_ne.mpr c35
              obtain rfl := Option.some.inj H
              go_enter Try.func7, Try.ntmps7
              go_wp2_with (first | ((with_reducible refine gate_callee (f := 16) rfl ?_); refine goesL_ (some 18) rfl rfl Try.func16 (by kernel_rfl) rfl #[.int .i64 a0, .int .i64 a1, .int .i64 a2] rfl (by (try simp only [List.map_toArray, List.map_cons, List.map_nil]); first | done | rfl | (simp only [List.length_drop, List.length_take]; rfl)) ?_; (with_reducible refine (bch_Decode.calls k a0 a1 a2 t202 t203 t204 _ A4.out).mono ?_); rintro e w39 ⟨rfl, hb⟩; refine ⟨_, rfl, ?_⟩; have n0_ := Aside0.mk (below_step (by repeat (first | (with_reducible first | exact HB.out | apply below_alloc | apply pw_below_drewN | apply below_drew1) | exact HB.out)) hb); clear HB; have HB := n0_; clear n0_; (try clear hb); (try clear hb2); (try clear hk); (try clear hi)))
              go_ret
              exact ⟨by first | rfl | (simp [errW_none, errW_some] <;> rfl) | (simp [*, errW_none, errW_some] <;> rfl), by repeat (first | (with_reducible first | exact HB.out | apply below_alloc | apply pw_below_drewN | apply below_drew1) | exact HB.out)⟩
      · rw [if_neg c26] at H
        have c26b0 : (t203 == 0) = false := beq_eq_false_iff_ne.mpr c26
        have c26b1 : (t203 != 0) = true := bne_iff_ne.mpr c26
        obtain rfl := Option.some.inj H
        go_enter Try.func7, Try.ntmps7
        go_wp2_with (first | ((with_reducible refine gate_callee (f := 16) rfl ?_); refine goesL_ (some 18) rfl rfl Try.func16 (by kernel_rfl) rfl #[.int .i64 a0, .int .i64 a1, .int .i64 a2] rfl (by (try simp only [List.map_toArray, List.map_cons, List.map_nil]); first | done | rfl | (simp only [List.length_drop, List.length_take]; rfl)) ?_; (with_reducible refine (bch_Decode.calls k a0 a1 a2 t202 t203 t204 _ A4.out).mono ?_); rintro e w40 ⟨rfl, hb⟩; refine ⟨_, rfl, ?_⟩; have n0_ := Aside0.mk (below_step (by repeat (first | (with_reducible first | exact HB.out | apply below_alloc | apply pw_below_drewN | apply below_drew1) | exact HB.out)) hb); clear HB; have HB := n0_; clear n0_; (try clear hb); (try clear hb2); (try clear hk); (try clear hi)))
        go_ret
        exact ⟨by first | rfl | (simp [errW_none, errW_some] <;> rfl) | (simp [*, errW_none, errW_some] <;> rfl), by repeat (first | (with_reducible first | exact HB.out | apply below_alloc | apply pw_below_drewN | apply below_drew1) | exact HB.out)⟩
    · rw [if_neg c25] at H
      have c25b0 : (t202 == 0) = false := beq_eq_false_iff_ne.mpr c25
      have c25b1 : (t202 != 0) = true := bne_iff_ne.mpr c25
      obtain rfl := Option.some.inj H
      go_enter Try.func7, Try.ntmps7
      go_wp2_with (first | ((with_reducible refine gate_callee (f := 16) rfl ?_); refine goesL_ (some 18) rfl rfl Try.func16 (by kernel_rfl) rfl #[.int .i64 a0, .int .i64 a1, .int .i64 a2] rfl (by (try simp only [List.map_toArray, List.map_cons, List.map_nil]); first | done | rfl | (simp only [List.length_drop, List.length_take]; rfl)) ?_; (with_reducible refine (bch_Decode.calls k a0 a1 a2 t202 t203 t204 _ A4.out).mono ?_); rintro e w41 ⟨rfl, hb⟩; refine ⟨_, rfl, ?_⟩; have n0_ := Aside0.mk (below_step (by repeat (first | (with_reducible first | exact HB.out | apply below_alloc | apply pw_below_drewN | apply below_drew1) | exact HB.out)) hb); clear HB; have HB := n0_; clear n0_; (try clear hb); (try clear hb2); (try clear hk); (try clear hi)))
      go_ret
      exact ⟨by first | rfl | (simp [errW_none, errW_some] <;> rfl) | (simp [*, errW_none, errW_some] <;> rfl), by repeat (first | (with_reducible first | exact HB.out | apply below_alloc | apply pw_below_drewN | apply below_drew1) | exact HB.out)⟩

/-- THE ONE PURE STATEMENT of barscanlaw08_BchDetects: yours. -/
def barscanlaw08_BchDetects.Pure : Prop := ∀ (a0 : Int) (a1 : Int) (a2 : Int), (Lit.int .i64 a0).wf = true → (Lit.int .i64 a1).wf = true → (Lit.int .i64 a2).wf = true → ∃ k, barscanlaw08_BchDetects.f k a0 a1 a2 = some true
theorem barscanlaw08_BchDetects.walk (P : barscanlaw08_BchDetects.Pure) (a0 : Int) (a1 : Int) (a2 : Int) (w : World) (w0 : (Lit.int .i64 a0).wf = true) (w1 : (Lit.int .i64 a1).wf = true) (w2 : (Lit.int .i64 a2).wf = true) :
    Calls Try.prog 7 #[.int .i64 a0, .int .i64 a1, .int .i64 a2] w fun e w' => e = .returned (.bool true) ∧ Below w.heap.size w w' := by
  obtain ⟨k, h⟩ := P a0 a1 a2 w0 w1 w2
  refine (barscanlaw08_BchDetects.calls k a0 a1 a2 true w h).mono ?_
  rintro e w' ⟨rfl, hd⟩
  exact ⟨rfl, hd⟩

/-! ### barscanref08_Format: function 21 -/
def barscanref08_Format.f (k : Nat) (a0 : Int) (a1 : Int) : Option (Int × Int) := if a0 = 1 then (if a1 < 0 then (some (0, 3)) else (if a1 > 7 then (some (0, 3)) else ((barscanref08_codeword.f k (wrap64 ((8 * 1) + a1)) 1335).bind fun t214 => (some (Go.bits .xor .i64 t214 21522, 0))))) else (if a0 = 2 then (if a1 < 0 then (some (0, 3)) else (if a1 > 7 then (some (0, 3)) else ((barscanref08_codeword.f k (wrap64 ((8 * 0) + a1)) 1335).bind fun t215 => (some (Go.bits .xor .i64 t215 21522, 0))))) else (if a0 = 3 then (if a1 < 0 then (some (0, 3)) else (if a1 > 7 then (some (0, 3)) else ((barscanref08_codeword.f k (wrap64 ((8 * 3) + a1)) 1335).bind fun t216 => (some (Go.bits .xor .i64 t216 21522, 0))))) else (if a0 = 4 then (if a1 < 0 then (some (0, 3)) else (if a1 > 7 then (some (0, 3)) else ((barscanref08_codeword.f k (wrap64 ((8 * 2) + a1)) 1335).bind fun t217 => (some (Go.bits .xor .i64 t217 21522, 0))))) else (some (0, 15)))))
theorem barscanref08_Format.mono : ∀ a0 a1 k, LeO (barscanref08_Format.f k a0 a1) (barscanref08_Format.f (k + 1) a0 a1) := by
  intro a0 a1 k
  unfold barscanref08_Format.f
  repeat' first
      | (with_reducible exact barscanref08_codeword.mono _ _ _)
      | (with_reducible exact LeO.refl _)
      | (with_reducible exact LeO.none _)
      | (with_reducible refine LeO.ite ?_ ?_)
      | (with_reducible refine LeO.bind ?_ (fun _ => ?_))
      | exact barscanref08_codeword.mono _ _ _
      | exact LeO.none _
      | refine LeO.ite ?_ ?_
      | refine LeO.bind ?_ (fun _ => ?_)
set_option maxHeartbeats 8000000 in
set_option maxRecDepth 100000 in
theorem barscanref08_Format.calls (k : Nat) (a0 : Int) (a1 : Int) (r1 : Int) (r2 : Int) (w : World) (h : barscanref08_Format.f k a0 a1 = some (r1, r2)) :
    Calls Try.prog 21 #[.int .i64 a0, .int .i64 a1] w fun e w' => e = .returned (.tuple #[.int .i64 r1, .int .i64 r2]) ∧ Drawn0 w w' := by
  have H : (if a0 = 1 then (if a1 < 0 then (some (0, 3)) else (if a1 > 7 then (some (0, 3)) else ((barscanref08_codeword.f k (wrap64 ((8 * 1) + a1)) 1335).bind fun t214 => (some (Go.bits .xor .i64 t214 21522, 0))))) else (if a0 = 2 then (if a1 < 0 then (some (0, 3)) else (if a1 > 7 then (some (0, 3)) else ((barscanref08_codeword.f k (wrap64 ((8 * 0) + a1)) 1335).bind fun t215 => (some (Go.bits .xor .i64 t215 21522, 0))))) else (if a0 = 3 then (if a1 < 0 then (some (0, 3)) else (if a1 > 7 then (some (0, 3)) else ((barscanref08_codeword.f k (wrap64 ((8 * 3) + a1)) 1335).bind fun t216 => (some (Go.bits .xor .i64 t216 21522, 0))))) else (if a0 = 4 then (if a1 < 0 then (some (0, 3)) else (if a1 > 7 then (some (0, 3)) else ((barscanref08_codeword.f k (wrap64 ((8 * 2) + a1)) 1335).bind fun t217 => (some (Go.bits .xor .i64 t217 21522, 0))))) else (some (0, 15)))))) = some (r1, r2) := h
  clear h
  by_cases c3 : a0 = 1
  · rw [if_pos c3] at H
    have c3b0 : (a0 == 1) = true := beq_iff_eq.mpr c3
    have c3b1 : (a0 != 1) = false := bne_eq_false_iff_eq.mpr c3
    clear c3
    by_cases c4 : a1 < 0
    · rw [if_pos c4] at H
      have c4b0 : decide (a1 < 0) = true := decide_eq_true c4
      clear c4
      simp only [Option.some.injEq, Prod.mk.injEq] at H
      obtain ⟨rfl, rfl⟩ := H
      go_enter Try.func21, Try.ntmps21
      go_wp2
      go_ret2
      exact ⟨by first | rfl | (simp; done) | (simp [*]; done), by repeat (first | exact Drawn0.refl _ | apply Drawn0.step)⟩
    · rw [if_neg c4] at H
      have c4b0 : decide (a1 < 0) = false := decide_eq_false c4
      clear c4
      by_cases c5 : a1 > 7
      · rw [if_pos c5] at H
        have c5b0 : decide (7 < a1) = true := decide_eq_true c5
        clear c5
        simp only [Option.some.injEq, Prod.mk.injEq] at H
        obtain ⟨rfl, rfl⟩ := H
        go_enter Try.func21, Try.ntmps21
        go_wp2
        go_ret2
        exact ⟨by first | rfl | (simp; done) | (simp [*]; done), by repeat (first | exact Drawn0.refl _ | apply Drawn0.step)⟩
      · rw [if_neg c5] at H
        have c5b0 : decide (7 < a1) = false := decide_eq_false c5
        clear c5
        replace H := Option.bind_eq_some_iff.mp H
        obtain ⟨t214, A60, H⟩ := H
        replace H : (some (Go.bits .xor .i64 t214 21522, 0)) = some (r1, r2) := H
        have A6 := Aside0.mk A60
        clear A60
        simp only [Option.some.injEq, Prod.mk.injEq] at H
        obtain ⟨rfl, rfl⟩ := H
        go_enter Try.func21, Try.ntmps21
        go_wp2_with (first | ((with_reducible refine gate_callee (f := 32) rfl ?_); refine goesL_ (some 26) rfl rfl Try.func32 (by kernel_rfl) rfl #[.int .i64 (wrap64 ((8 * 1) + a1)), .int .i64 1335] rfl (by (try simp only [List.map_toArray, List.map_cons, List.map_nil]); first | done | rfl | (simp only [List.length_drop, List.length_take]; rfl)) ?_; (with_reducible refine (barscanref08_codeword.calls k (wrap64 ((8 * 1) + a1)) 1335 t214 _ A6.out).mono ?_); rintro e w' ⟨rfl, ⟨nd, rfl⟩⟩; refine ⟨_, rfl, ?_⟩))
        go_ret2
        exact ⟨by first | rfl | (simp; done) | (simp [*]; done), by repeat (first | exact Drawn0.refl _ | apply Drawn0.step)⟩
  · rw [if_neg c3] at H
    have c3b0 : (a0 == 1) = false := beq_eq_false_iff_ne.mpr c3
    have c3b1 : (a0 != 1) = true := bne_iff_ne.mpr c3
    by_cases c7 : a0 = 2
    · rw [if_pos c7] at H
      have c7b0 : (a0 == 2) = true := beq_iff_eq.mpr c7
      have c7b1 : (a0 != 2) = false := bne_eq_false_iff_eq.mpr c7
      clear c7
      by_cases c8 : a1 < 0
      · rw [if_pos c8] at H
        have c8b0 : decide (a1 < 0) = true := decide_eq_true c8
        clear c8
        simp only [Option.some.injEq, Prod.mk.injEq] at H
        obtain ⟨rfl, rfl⟩ := H
        go_enter Try.func21, Try.ntmps21
        go_wp2
        go_ret2
        exact ⟨by first | rfl | (simp; done) | (simp [*]; done), by repeat (first | exact Drawn0.refl _ | apply Drawn0.step)⟩
      · rw [if_neg c8] at H
        have c8b0 : decide (a1 < 0) = false := decide_eq_false c8
        clear c8
        by_cases c9 : a1 > 7
        · rw [if_pos c9] at H
          have c9b0 : decide (7 < a1) = true := decide_eq_true c9
          clear c9
          simp only [Option.some.injEq, Prod.mk.injEq] at H
          obtain ⟨rfl, rfl⟩ := H
          go_enter Try.func21, Try.ntmps21
          go_wp2
          go_ret2
          exact ⟨by first | rfl | (simp; done) | (simp [*]; done), by repeat (first | exact Drawn0.refl _ | apply Drawn0.step)⟩
        · rw [if_neg c9] at H
          have c9b0 : decide (7 < a1) = false := decide_eq_false c9
          clear c9
          replace H := Option.bind_eq_some_iff.mp H
          obtain ⟨t215, A100, H⟩ := H
          replace H : (some (Go.bits .xor .i64 t215 21522, 0)) = some (r1, r2) := H
          rw [show wrap64 ((8 * 0) + a1) = wrap64 a1 by rw [Int.mul_zero, Int.zero_add]] at A100
          have A10 := Aside0.mk A100
          clear A100
          simp only [Option.some.injEq, Prod.mk.injEq] at H
          obtain ⟨rfl, rfl⟩ := H
          go_enter Try.func21, Try.ntmps21
          go_wp2_with (first | ((with_reducible refine gate_callee (f := 32) rfl ?_); refine goesL_ (some 26) rfl rfl Try.func32 (by kernel_rfl) rfl #[.int .i64 (wrap64 a1), .int .i64 1335] rfl (by (try simp only [List.map_toArray, List.map_cons, List.map_nil]); first | done | rfl | (simp only [List.length_drop, List.length_take]; rfl)) ?_; (with_reducible refine (barscanref08_codeword.calls k (wrap64 a1) 1335 t215 _ A10.out).mono ?_); rintro e w' ⟨rfl, ⟨nd, rfl⟩⟩; refine ⟨_, rfl, ?_⟩))
          go_ret2
          exact ⟨by first | rfl | (simp; done) | (simp [*]; done), by repeat (first | exact Drawn0.refl _ | apply Drawn0.step)⟩
    · rw [if_neg c7] at H
      have c7b0 : (a0 == 2) = false := beq_eq_false_iff_ne.mpr c7
      have c7b1 : (a0 != 2) = true := bne_iff_ne.mpr c7
      by_cases c11 : a0 = 3
      · rw [if_pos c11] at H
        have c11b0 : (a0 == 3) = true := beq_iff_eq.mpr c11
        have c11b1 : (a0 != 3) = false := bne_eq_false_iff_eq.mpr c11
        clear c11
        by_cases c12 : a1 < 0
        · rw [if_pos c12] at H
          have c12b0 : decide (a1 < 0) = true := decide_eq_true c12
          clear c12
          simp only [Option.some.injEq, Prod.mk.injEq] at H
          obtain ⟨rfl, rfl⟩ := H
          go_enter Try.func21, Try.ntmps21
          go_wp2
          go_ret2
          exact ⟨by first | rfl | (simp; done) | (simp [*]; done), by repeat (first | exact Drawn0.refl _ | apply Drawn0.step)⟩
        · rw [if_neg c12] at H
          have c12b0 : decide (a1 < 0) = false := decide_eq_false c12
          clear c12
          by_cases c13 : a1 > 7
          · rw [if_pos c13] at H
            have c13b0 : decide (7 < a1) = true := decide_eq_true c13
            clear c13
            simp only [Option.some.injEq, Prod.mk.injEq] at H
            obtain ⟨rfl, rfl⟩ := H
            go_enter Try.func21, Try.ntmps21
            go_wp2
            go_ret2
            exact ⟨by first | rfl | (simp; done) | (simp [*]; done), by repeat (first | exact Drawn0.refl _ | apply Drawn0.step)⟩
          · rw [if_neg c13] at H
            have c13b0 : decide (7 < a1) = false := decide_eq_false c13
            clear c13
            replace H := Option.bind_eq_some_iff.mp H
            obtain ⟨t216, A140, H⟩ := H
            replace H : (some (Go.bits .xor .i64 t216 21522, 0)) = some (r1, r2) := H
            have A14 := Aside0.mk A140
            clear A140
            simp only [Option.some.injEq, Prod.mk.injEq] at H
            obtain ⟨rfl, rfl⟩ := H
            go_enter Try.func21, Try.ntmps21
            go_wp2_with (first | ((with_reducible refine gate_callee (f := 32) rfl ?_); refine goesL_ (some 26) rfl rfl Try.func32 (by kernel_rfl) rfl #[.int .i64 (wrap64 ((8 * 3) + a1)), .int .i64 1335] rfl (by (try simp only [List.map_toArray, List.map_cons, List.map_nil]); first | done | rfl | (simp only [List.length_drop, List.length_take]; rfl)) ?_; (with_reducible refine (barscanref08_codeword.calls k (wrap64 ((8 * 3) + a1)) 1335 t216 _ A14.out).mono ?_); rintro e w' ⟨rfl, ⟨nd, rfl⟩⟩; refine ⟨_, rfl, ?_⟩))
            go_ret2
            exact ⟨by first | rfl | (simp; done) | (simp [*]; done), by repeat (first | exact Drawn0.refl _ | apply Drawn0.step)⟩
      · rw [if_neg c11] at H
        have c11b0 : (a0 == 3) = false := beq_eq_false_iff_ne.mpr c11
        have c11b1 : (a0 != 3) = true := bne_iff_ne.mpr c11
        by_cases c15 : a0 = 4
        · rw [if_pos c15] at H
          have c15b0 : (a0 == 4) = true := beq_iff_eq.mpr c15
          have c15b1 : (a0 != 4) = false := bne_eq_false_iff_eq.mpr c15
          clear c15
          by_cases c16 : a1 < 0
          · rw [if_pos c16] at H
            have c16b0 : decide (a1 < 0) = true := decide_eq_true c16
            clear c16
            simp only [Option.some.injEq, Prod.mk.injEq] at H
            obtain ⟨rfl, rfl⟩ := H
            go_enter Try.func21, Try.ntmps21
            go_wp2
            go_ret2
            exact ⟨by first | rfl | (simp; done) | (simp [*]; done), by repeat (first | exact Drawn0.refl _ | apply Drawn0.step)⟩
          · rw [if_neg c16] at H
            have c16b0 : decide (a1 < 0) = false := decide_eq_false c16
            clear c16
            by_cases c17 : a1 > 7
            · rw [if_pos c17] at H
              have c17b0 : decide (7 < a1) = true := decide_eq_true c17
              clear c17
              simp only [Option.some.injEq, Prod.mk.injEq] at H
              obtain ⟨rfl, rfl⟩ := H
              go_enter Try.func21, Try.ntmps21
              go_wp2
              go_ret2
              exact ⟨by first | rfl | (simp; done) | (simp [*]; done), by repeat (first | exact Drawn0.refl _ | apply Drawn0.step)⟩
            · rw [if_neg c17] at H
              have c17b0 : decide (7 < a1) = false := decide_eq_false c17
              clear c17
              replace H := Option.bind_eq_some_iff.mp H
              obtain ⟨t217, A180, H⟩ := H
              replace H : (some (Go.bits .xor .i64 t217 21522, 0)) = some (r1, r2) := H
              have A18 := Aside0.mk A180
              clear A180
              simp only [Option.some.injEq, Prod.mk.injEq] at H
              obtain ⟨rfl, rfl⟩ := H
              go_enter Try.func21, Try.ntmps21
              go_wp2_with (first | ((with_reducible refine gate_callee (f := 32) rfl ?_); refine goesL_ (some 26) rfl rfl Try.func32 (by kernel_rfl) rfl #[.int .i64 (wrap64 ((8 * 2) + a1)), .int .i64 1335] rfl (by (try simp only [List.map_toArray, List.map_cons, List.map_nil]); first | done | rfl | (simp only [List.length_drop, List.length_take]; rfl)) ?_; (with_reducible refine (barscanref08_codeword.calls k (wrap64 ((8 * 2) + a1)) 1335 t217 _ A18.out).mono ?_); rintro e w' ⟨rfl, ⟨nd, rfl⟩⟩; refine ⟨_, rfl, ?_⟩))
              go_ret2
              exact ⟨by first | rfl | (simp; done) | (simp [*]; done), by repeat (first | exact Drawn0.refl _ | apply Drawn0.step)⟩
        · rw [if_neg c15] at H
          have c15b0 : (a0 == 4) = false := beq_eq_false_iff_ne.mpr c15
          have c15b1 : (a0 != 4) = true := bne_iff_ne.mpr c15
          simp only [Option.some.injEq, Prod.mk.injEq] at H
          obtain ⟨rfl, rfl⟩ := H
          go_enter Try.func21, Try.ntmps21
          go_wp2
          go_ret2
          exact ⟨by first | rfl | (simp; done) | (simp [*]; done), by repeat (first | exact Drawn0.refl _ | apply Drawn0.step)⟩

end Go.Proofs.Ythhdekfnalioiaa.B
