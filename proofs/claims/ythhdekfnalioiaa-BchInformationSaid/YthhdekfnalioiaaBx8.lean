-- Written by a program of this session out of the kit's print of the loaded functions (see wip/).
import Derived.Test.YthhdekfnalioiaaBx0
import Derived.Test.YthhdekfnalioiaaBx3
import Derived.Test.YthhdekfnalioiaaBx4
import Derived.Test.YthhdekfnalioiaaBx6
namespace Go.Proofs.Ythhdekfnalioiaa.B
open Go.RowKit Go.Proofs.YthhdekfnalioiaaW.PrintWords Go.Proofs.YthhdekfnalioiaaW.PrintLast Go.Proofs.YthhdekfnalioiaaW.PrintMore
attribute [local go_sem] max2_int min2_int max_two min_two max_three min_three max_four min_four   -- for this text's walks alone
set_option linter.unusedVariables false
set_option linter.unusedSimpArgs false

/-! ### barscanlaw08_BchInformation: function 10 -/
mutual
def barscanlaw08_BchInformation.j0 : Nat → Int → Int → Int → Int → Int → Int → Bool → Option (Bool)
  | 0, _, _, _, _, _, _, _ => none
  | k + 1, x0, x1, x2, x3, x9, x11, x37 => if x37 = true then ((bch_ParseFormat.f k (Go.bits .xor .i64 x9 x11)).bind fun bt258 => (if bt258.2.2.2 = 0 then (if bt258.1 = x0 then (if bt258.2.1 = x1 then ((barscanlaw08_ones.f k x11).bind fun t262 => (if bt258.2.2.1 = t262 then (barscanlaw08_BchInformation.j1 k x2 x3) else (some false))) else (some false)) else (some false)) else (some false))) else (barscanlaw08_BchInformation.j1 k x2 x3)
def barscanlaw08_BchInformation.j1 : Nat → Int → Int → Option (Bool)
  | 0, _, _ => none
  | k + 1, x2, x3 => (bch_Version.f k x2).bind fun bt263 => (if bt263.2 = 0 then ((barscanlaw08_ones.f k (Int.tmod (wrap64 (x3)) 262144)).bind fun t265 => (barscanlaw08_BchInformation.j2 k x2 bt263.1 (Int.tmod (wrap64 (x3)) 262144) (decide (t265 ≤ 3)))) else (barscanlaw08_BchInformation.j2 k x2 bt263.1 (Int.tmod (wrap64 (x3)) 262144) false))
def barscanlaw08_BchInformation.j2 : Nat → Int → Int → Int → Bool → Option (Bool)
  | 0, _, _, _, _ => none
  | k + 1, x2, x16, x18, x79 => if x79 = true then ((bch_ParseVersion.f k (Go.bits .xor .i64 x16 x18)).bind fun bt266 => (if bt266.2.2 = 0 then (if bt266.1 = x2 then ((barscanlaw08_ones.f k x18).bind fun t269 => (if bt266.2.1 = t269 then ((barscanlaw08_examples.f k).bind fun t270 => (some t270)) else (some false))) else (some false)) else (some false))) else ((barscanlaw08_examples.f k).bind fun t271 => (some t271))
end
def barscanlaw08_BchInformation.f (k : Nat) (a0 : Int) (a1 : Int) (a2 : Int) (a3 : Int) : Option (Bool) := (bch_Format.f k a0 a1).bind fun bt255 => (if bt255.2 = 0 then ((barscanlaw08_ones.f k (Int.tmod (wrap64 (a3)) 32768)).bind fun t257 => (barscanlaw08_BchInformation.j0 k a0 a1 a2 a3 bt255.1 (Int.tmod (wrap64 (a3)) 32768) (decide (t257 ≤ 3)))) else (barscanlaw08_BchInformation.j0 k a0 a1 a2 a3 bt255.1 (Int.tmod (wrap64 (a3)) 32768) false))
theorem barscanlaw08_BchInformation.mono_l : ∀ k, (∀ y0 y1 y2 y3 y4 y5 y6, LeO (barscanlaw08_BchInformation.j0 k y0 y1 y2 y3 y4 y5 y6) (barscanlaw08_BchInformation.j0 (k + 1) y0 y1 y2 y3 y4 y5 y6)) ∧ (∀ y0 y1, LeO (barscanlaw08_BchInformation.j1 k y0 y1) (barscanlaw08_BchInformation.j1 (k + 1) y0 y1)) ∧ (∀ y0 y1 y2 y3, LeO (barscanlaw08_BchInformation.j2 k y0 y1 y2 y3) (barscanlaw08_BchInformation.j2 (k + 1) y0 y1 y2 y3))
  | 0 => ⟨fun _ _ _ _ _ _ _ r h => by simp [barscanlaw08_BchInformation.j0] at h, fun _ _ r h => by simp [barscanlaw08_BchInformation.j1] at h, fun _ _ _ _ r h => by simp [barscanlaw08_BchInformation.j2] at h⟩
  | k + 1 => by
    obtain ⟨ih0, ih1, ih2⟩ := barscanlaw08_BchInformation.mono_l k
    refine ⟨?_, ?_, ?_⟩
    · intro y0 y1 y2 y3 y4 y5 y6
      unfold barscanlaw08_BchInformation.j0
      repeat' first
      | (with_reducible exact ih0 _ _ _ _ _ _ _)
      | (with_reducible exact ih1 _ _)
      | (with_reducible exact ih2 _ _ _ _)
      | (with_reducible exact barscanlaw08_examples.mono _)
      | (with_reducible exact barscanlaw08_ones.mono _ _)
      | (with_reducible exact bch_Format.mono _ _ _)
      | (with_reducible exact bch_ParseFormat.mono _ _)
      | (with_reducible exact bch_ParseVersion.mono _ _)
      | (with_reducible exact bch_Version.mono _ _)
      | (with_reducible exact LeO.refl _)
      | (with_reducible exact LeO.none _)
      | (with_reducible refine LeO.ite ?_ ?_)
      | (with_reducible refine LeO.bind ?_ (fun _ => ?_))
      | exact ih0 _ _ _ _ _ _ _
      | exact ih1 _ _
      | exact ih2 _ _ _ _
      | exact barscanlaw08_examples.mono _
      | exact barscanlaw08_ones.mono _ _
      | exact bch_Format.mono _ _ _
      | exact bch_ParseFormat.mono _ _
      | exact bch_ParseVersion.mono _ _
      | exact bch_Version.mono _ _
      | exact LeO.none _
      | refine LeO.ite ?_ ?_
      | refine LeO.bind ?_ (fun _ => ?_)
    · intro y0 y1
      unfold barscanlaw08_BchInformation.j1
      repeat' first
      | (with_reducible exact ih0 _ _ _ _ _ _ _)
      | (with_reducible exact ih1 _ _)
      | (with_reducible exact ih2 _ _ _ _)
      | (with_reducible exact barscanlaw08_examples.mono _)
      | (with_reducible exact barscanlaw08_ones.mono _ _)
      | (with_reducible exact bch_Format.mono _ _ _)
      | (with_reducible exact bch_ParseFormat.mono _ _)
      | (with_reducible exact bch_ParseVersion.mono _ _)
      | (with_reducible exact bch_Version.mono _ _)
      | (with_reducible exact LeO.refl _)
      | (with_reducible exact LeO.none _)
      | (with_reducible refine LeO.ite ?_ ?_)
      | (with_reducible refine LeO.bind ?_ (fun _ => ?_))
      | exact ih0 _ _ _ _ _ _ _
      | exact ih1 _ _
      | exact ih2 _ _ _ _
      | exact barscanlaw08_examples.mono _
      | exact barscanlaw08_ones.mono _ _
      | exact bch_Format.mono _ _ _
      | exact bch_ParseFormat.mono _ _
      | exact bch_ParseVersion.mono _ _
      | exact bch_Version.mono _ _
      | exact LeO.none _
      | refine LeO.ite ?_ ?_
      | refine LeO.bind ?_ (fun _ => ?_)
    · intro y0 y1 y2 y3
      unfold barscanlaw08_BchInformation.j2
      repeat' first
      | (with_reducible exact ih0 _ _ _ _ _ _ _)
      | (with_reducible exact ih1 _ _)
      | (with_reducible exact ih2 _ _ _ _)
      | (with_reducible exact barscanlaw08_examples.mono _)
      | (with_reducible exact barscanlaw08_ones.mono _ _)
      | (with_reducible exact bch_Format.mono _ _ _)
      | (with_reducible exact bch_ParseFormat.mono _ _)
      | (with_reducible exact bch_ParseVersion.mono _ _)
      | (with_reducible exact bch_Version.mono _ _)
      | (with_reducible exact LeO.refl _)
      | (with_reducible exact LeO.none _)
      | (with_reducible refine LeO.ite ?_ ?_)
      | (with_reducible refine LeO.bind ?_ (fun _ => ?_))
      | exact ih0 _ _ _ _ _ _ _
      | exact ih1 _ _
      | exact ih2 _ _ _ _
      | exact barscanlaw08_examples.mono _
      | exact barscanlaw08_ones.mono _ _
      | exact bch_Format.mono _ _ _
      | exact bch_ParseFormat.mono _ _
      | exact bch_ParseVersion.mono _ _
      | exact bch_Version.mono _ _
      | exact LeO.none _
      | refine LeO.ite ?_ ?_
      | refine LeO.bind ?_ (fun _ => ?_)
theorem barscanlaw08_BchInformation.mono : ∀ a0 a1 a2 a3 k, LeO (barscanlaw08_BchInformation.f k a0 a1 a2 a3) (barscanlaw08_BchInformation.f (k + 1) a0 a1 a2 a3) := by
  intro a0 a1 a2 a3 k
  obtain ⟨ih0, ih1, ih2⟩ := barscanlaw08_BchInformation.mono_l k
  unfold barscanlaw08_BchInformation.f
  repeat' first
      | (with_reducible exact ih0 _ _ _ _ _ _ _)
      | (with_reducible exact ih1 _ _)
      | (with_reducible exact ih2 _ _ _ _)
      | (with_reducible exact barscanlaw08_examples.mono _)
      | (with_reducible exact barscanlaw08_ones.mono _ _)
      | (with_reducible exact bch_Format.mono _ _ _)
      | (with_reducible exact bch_ParseFormat.mono _ _)
      | (with_reducible exact bch_ParseVersion.mono _ _)
      | (with_reducible exact bch_Version.mono _ _)
      | (with_reducible exact LeO.refl _)
      | (with_reducible exact LeO.none _)
      | (with_reducible refine LeO.ite ?_ ?_)
      | (with_reducible refine LeO.bind ?_ (fun _ => ?_))
      | exact ih0 _ _ _ _ _ _ _
      | exact ih1 _ _
      | exact ih2 _ _ _ _
      | exact barscanlaw08_examples.mono _
      | exact barscanlaw08_ones.mono _ _
      | exact bch_Format.mono _ _ _
      | exact bch_ParseFormat.mono _ _
      | exact bch_ParseVersion.mono _ _
      | exact bch_Version.mono _ _
      | exact LeO.none _
      | refine LeO.ite ?_ ?_
      | refine LeO.bind ?_ (fun _ => ?_)
set_option maxHeartbeats 8000000 in
set_option maxRecDepth 100000 in
theorem barscanlaw08_BchInformation.calls (k : Nat) (a0 : Int) (a1 : Int) (a2 : Int) (a3 : Int) (r : Bool) (w : World) (h : barscanlaw08_BchInformation.f k a0 a1 a2 a3 = some r) :
    Calls Try.prog 10 #[.int .i64 a0, .int .i64 a1, .int .i64 a2, .int .u32 a3] w fun e w' => e = .returned (.bool r) ∧ Below w.heap.size w w' := by
  have HB := Aside0.mk (Below.refl w.heap.size w)
  have H : ((bch_Format.f k a0 a1).bind fun bt255 => (if bt255.2 = 0 then ((barscanlaw08_ones.f k (Int.tmod (wrap64 (a3)) 32768)).bind fun t257 => (barscanlaw08_BchInformation.j0 k a0 a1 a2 a3 bt255.1 (Int.tmod (wrap64 (a3)) 32768) (decide (t257 ≤ 3)))) else (barscanlaw08_BchInformation.j0 k a0 a1 a2 a3 bt255.1 (Int.tmod (wrap64 (a3)) 32768) false))) = some r := h
  clear h
  replace H := Option.bind_eq_some_iff.mp H
  obtain ⟨⟨t255, t256⟩, A50, H⟩ := H
  replace H : (if t256 = 0 then ((barscanlaw08_ones.f k (Int.tmod (wrap64 (a3)) 32768)).bind fun t257 => (barscanlaw08_BchInformation.j0 k a0 a1 a2 a3 t255 (Int.tmod (wrap64 (a3)) 32768) (decide (t257 ≤ 3)))) else (barscanlaw08_BchInformation.j0 k a0 a1 a2 a3 t255 (Int.tmod (wrap64 (a3)) 32768) false)) = some r := H
  have A5 := Aside0.mk A50
  clear A50
  have HC6 := Aside0.mk H
  clear H
  go_enter Try.func10, Try.ntmps10
  go_upto_region 3 with (first | ((with_reducible refine gate_callee (f := 20) rfl ?_); refine goesL_ (some 25) rfl rfl Try.func20 (by kernel_rfl) rfl #[.int .i64 a0, .int .i64 a1] rfl (by (try simp only [List.map_toArray, List.map_cons, List.map_nil]); first | done | rfl | (simp only [List.length_drop, List.length_take]; rfl)) ?_; (with_reducible refine (bch_Format.calls k a0 a1 t255 t256 _ A5.out).mono ?_); rintro e w' ⟨rfl, ⟨nd, rfl⟩⟩; refine ⟨_, rfl, ?_⟩))
  (try simp only [Act.put, List.setIfInBounds_toArray, List.set_cons_zero, List.set_cons_succ])
  go_cut [37] (fun v37 wc => ∃ (kq : Nat) (x37_5 : Bool), v37 = .bool x37_5 ∧ Aside0 (barscanlaw08_BchInformation.j0 kq a0 a1 a2 a3 t255 (Int.tmod (wrap64 (a3)) 32768) x37_5 = some r) ∧ Aside0 (kq ≤ k) ∧ Aside0 (Below w.heap.size w wc))
  case first =>
    have H := HC6.out
    clear HC6
    by_cases c7 : t256 = 0
    · rw [if_pos c7] at H
      have c7b0 : (t256 == 0) = true := beq_iff_eq.mpr c7
      have c7b1 : (t256 != 0) = false := bne_eq_false_iff_eq.mpr c7
      clear c7
      (first | rw [c7b0] | (simp only [i64_w, i32_w]; rw [c7b0]) | skip)
      replace H := Option.bind_eq_some_iff.mp H
      obtain ⟨t257, A80, H⟩ := H
      replace H : (barscanlaw08_BchInformation.j0 k a0 a1 a2 a3 t255 (Int.tmod (wrap64 (a3)) 32768) (decide (t257 ≤ 3))) = some r := H
      have A8 := Aside0.mk A80
      clear A80
      have H' := Aside0.mk H
      clear H
      go_wp2_with (first | (go_at_call 19; (with_reducible refine (barscanlaw08_ones.calls k (Int.tmod (wrap64 (a3)) 32768) t257 _ A8.out).mono ?_); rintro e w' ⟨rfl, ⟨nd, rfl⟩⟩))
      go_meet
      case rel => exact ⟨_, (decide (t257 ≤ 3)), (by first | rfl | (simp; done) | (simp [*]; done)), H', ⟨by first | omega | exact Nat.le_refl _⟩, ⟨by repeat (first | (with_reducible first | exact HB.out | apply below_alloc | apply pw_below_drewN | apply below_drew1) | exact HB.out)⟩⟩
    · rw [if_neg c7] at H
      have c7b0 : (t256 == 0) = false := beq_eq_false_iff_ne.mpr c7
      have c7b1 : (t256 != 0) = true := bne_iff_ne.mpr c7
      (first | rw [c7b0] | (simp only [i64_w, i32_w]; rw [c7b0]) | skip)
      have H' := Aside0.mk H
      clear H
      go_wp2
      go_meet
      case rel => exact ⟨_, (false), (by first | rfl | (simp; done) | (simp [*]; done)), H', ⟨by first | omega | exact Nat.le_refl _⟩, ⟨by repeat (first | (with_reducible first | exact HB.out | apply below_alloc | apply pw_below_drewN | apply below_drew1) | exact HB.out)⟩⟩
  case rest =>
    clear HC6
    try clear c1
    try clear c2
    try clear p2
    try clear p6
    try clear c7
    try clear c7b0
    try clear c7b1
    obtain ⟨kq, x37_5, rfl, HA, HJ5, HB⟩ := hcut
    cases kq with
    | zero => exact absurd HA.out (by simp [barscanlaw08_BchInformation.j0])
    | succ kj5 =>
      have H := HA.out
      clear HA
      simp only [barscanlaw08_BchInformation.j0] at H
      have HC9 := Aside0.mk H
      clear H
      go_upto_if 37 with (fail)
      go_cut [] (fun wc => ∃ (kq : Nat), Aside0 (barscanlaw08_BchInformation.j1 kq a2 a3 = some r) ∧ Aside0 (kq ≤ kj5) ∧ Aside0 (Below w.heap.size w wc))
      case first =>
        have H := HC9.out
        clear HC9
        by_cases c10 : x37_5 = true
        · subst c10
          have H1 : ((bch_ParseFormat.f kj5 (Go.bits .xor .i64 t255 (Int.tmod (wrap64 (a3)) 32768))).bind fun bt258 => (if bt258.2.2.2 = 0 then (if bt258.1 = a0 then (if bt258.2.1 = a1 then ((barscanlaw08_ones.f kj5 (Int.tmod (wrap64 (a3)) 32768)).bind fun t262 => (if bt258.2.2.1 = t262 then (barscanlaw08_BchInformation.j1 kj5 a2 a3) else (some false))) else (some false)) else (some false)) else (some false))) = some r := by rw [if_pos rfl] at H; exact H
          clear H
          have H := H1
          clear H1
          replace H := Option.bind_eq_some_iff.mp H
          obtain ⟨⟨t258, t259, t260, t261⟩, A110, H⟩ := H
          replace H : (if t261 = 0 then (if t258 = a0 then (if t259 = a1 then ((barscanlaw08_ones.f kj5 (Int.tmod (wrap64 (a3)) 32768)).bind fun t262 => (if t260 = t262 then (barscanlaw08_BchInformation.j1 kj5 a2 a3) else (some false))) else (some false)) else (some false)) else (some false)) = some r := H
          have A11 := Aside0.mk A110
          clear A110
          by_cases c12 : t261 = 0
          · rw [if_pos c12] at H
            have c12b0 : (t261 == 0) = true := beq_iff_eq.mpr c12
            have c12b1 : (t261 != 0) = false := bne_eq_false_iff_eq.mpr c12
            clear c12
            (first | rw [c12b0] | (simp only [i64_w, i32_w]; rw [c12b0]) | skip)
            by_cases c13 : t258 = a0
            · rw [if_pos c13] at H
              have c13b0 : (t258 == a0) = true := beq_iff_eq.mpr c13
              have c13b1 : (t258 != a0) = false := bne_eq_false_iff_eq.mpr c13
              clear c13
              by_cases c14 : t259 = a1
              · rw [if_pos c14] at H
                have c14b0 : (t259 == a1) = true := beq_iff_eq.mpr c14
                have c14b1 : (t259 != a1) = false := bne_eq_false_iff_eq.mpr c14
                clear c14
                replace H := Option.bind_eq_some_iff.mp H
                obtain ⟨t262, A150, H⟩ := H
                replace H : (if t260 = t262 then (barscanlaw08_BchInformation.j1 kj5 a2 a3) else (some false)) = some r := H
                have A15 := Aside0.mk A150
                clear A150
                by_cases c16 : t260 = t262
                · rw [if_pos c16] at H
                  have c16b0 : (t260 == t262) = true := beq_iff_eq.mpr c16
                  have c16b1 : (t260 != t262) = false := bne_eq_false_iff_eq.mpr c16
                  clear c16
                  have H' := Aside0.mk H
                  clear H
                  go_wp2_with (first | ((with_reducible refine gate_callee (f := 22) rfl ?_); refine goesL_ (some 42) rfl rfl Try.func22 (by kernel_rfl) rfl #[.int .i64 (Go.bits .xor .i64 t255 (Int.tmod (wrap64 (a3)) 32768))] rfl (by (try simp only [List.map_toArray, List.map_cons, List.map_nil]); first | done | rfl | (simp only [List.length_drop, List.length_take]; rfl)) ?_; (with_reducible refine (bch_ParseFormat.calls kj5 (Go.bits .xor .i64 t255 (Int.tmod (wrap64 (a3)) 32768)) t258 t259 t260 t261 _ A11.out).mono ?_); rintro e w17 ⟨rfl, hb⟩; refine ⟨_, rfl, ?_⟩; have n0_ := Aside0.mk (below_step (by repeat (first | (with_reducible first | exact HB.out | apply below_alloc | apply pw_below_drewN | apply below_drew1) | exact HB.out)) hb); clear HB; have HB := n0_; clear n0_; (try clear hb); (try clear hb2); (try clear hk); (try clear hi)) | (go_at_call 19; (with_reducible refine (barscanlaw08_ones.calls kj5 (Int.tmod (wrap64 (a3)) 32768) t262 _ A15.out).mono ?_); rintro e w' ⟨rfl, ⟨nd, rfl⟩⟩))
                  go_meet
                  case rel => exact ⟨_, H', ⟨by have := HJ5.out; first | omega | exact Nat.le_refl _⟩, ⟨by repeat (first | (with_reducible first | exact HB.out | apply below_alloc | apply pw_below_drewN | apply below_drew1) | exact HB.out)⟩⟩
                · rw [if_neg c16] at H
                  have c16b0 : (t260 == t262) = false := beq_eq_false_iff_ne.mpr c16
                  have c16b1 : (t260 != t262) = true := bne_iff_ne.mpr c16
                  obtain rfl := Option.some.inj H
                  go_wp2_with (first | ((with_reducible refine gate_callee (f := 22) rfl ?_); refine goesL_ (some 42) rfl rfl Try.func22 (by kernel_rfl) rfl #[.int .i64 (Go.bits .xor .i64 t255 (Int.tmod (wrap64 (a3)) 32768))] rfl (by (try simp only [List.map_toArray, List.map_cons, List.map_nil]); first | done | rfl | (simp only [List.length_drop, List.length_take]; rfl)) ?_; (with_reducible refine (bch_ParseFormat.calls kj5 (Go.bits .xor .i64 t255 (Int.tmod (wrap64 (a3)) 32768)) t258 t259 t260 t261 _ A11.out).mono ?_); rintro e w18 ⟨rfl, hb⟩; refine ⟨_, rfl, ?_⟩; have n0_ := Aside0.mk (below_step (by repeat (first | (with_reducible first | exact HB.out | apply below_alloc | apply pw_below_drewN | apply below_drew1) | exact HB.out)) hb); clear HB; have HB := n0_; clear n0_; (try clear hb); (try clear hb2); (try clear hk); (try clear hi)) | (go_at_call 19; (with_reducible refine (barscanlaw08_ones.calls kj5 (Int.tmod (wrap64 (a3)) 32768) t262 _ A15.out).mono ?_); rintro e w' ⟨rfl, ⟨nd, rfl⟩⟩))
                  go_ret
                  exact ⟨by first | rfl | (simp [errW_none, errW_some] <;> rfl) | (simp [*, errW_none, errW_some] <;> rfl), by repeat (first | (with_reducible first | exact HB.out | apply below_alloc | apply pw_below_drewN | apply below_drew1) | exact HB.out)⟩
              · rw [if_neg c14] at H
                have c14b0 : (t259 == a1) = false := beq_eq_false_iff_ne.mpr c14
                have c14b1 : (t259 != a1) = true := bne_iff_ne.mpr c14
                obtain rfl := Option.some.inj H
                go_wp2_with (first | ((with_reducible refine gate_callee (f := 22) rfl ?_); refine goesL_ (some 42) rfl rfl Try.func22 (by kernel_rfl) rfl #[.int .i64 (Go.bits .xor .i64 t255 (Int.tmod (wrap64 (a3)) 32768))] rfl (by (try simp only [List.map_toArray, List.map_cons, List.map_nil]); first | done | rfl | (simp only [List.length_drop, List.length_take]; rfl)) ?_; (with_reducible refine (bch_ParseFormat.calls kj5 (Go.bits .xor .i64 t255 (Int.tmod (wrap64 (a3)) 32768)) t258 t259 t260 t261 _ A11.out).mono ?_); rintro e w19 ⟨rfl, hb⟩; refine ⟨_, rfl, ?_⟩; have n0_ := Aside0.mk (below_step (by repeat (first | (with_reducible first | exact HB.out | apply below_alloc | apply pw_below_drewN | apply below_drew1) | exact HB.out)) hb); clear HB; have HB := n0_; clear n0_; (try clear hb); (try clear hb2); (try clear hk); (try clear hi)))
                go_ret
                exact ⟨by first | rfl | (simp [errW_none, errW_some] <;> rfl) | (simp [*, errW_none, errW_some] <;> rfl), by repeat (first | (with_reducible first | exact HB.out | apply below_alloc | apply pw_below_drewN | apply below_drew1) | exact HB.out)⟩
            · rw [if_neg c13] at H
              have c13b0 : (t258 == a0) = false := beq_eq_false_iff_ne.mpr c13
              have c13b1 : (t258 != a0) = true := bne_iff_ne.mpr c13
              obtain rfl := Option.some.inj H
              go_wp2_with (first | ((with_reducible refine gate_callee (f := 22) rfl ?_); refine goesL_ (some 42) rfl rfl Try.func22 (by kernel_rfl) rfl #[.int .i64 (Go.bits .xor .i64 t255 (Int.tmod (wrap64 (a3)) 32768))] rfl (by (try simp only [List.map_toArray, List.map_cons, List.map_nil]); first | done | rfl | (simp only [List.length_drop, List.length_take]; rfl)) ?_; (with_reducible refine (bch_ParseFormat.calls kj5 (Go.bits .xor .i64 t255 (Int.tmod (wrap64 (a3)) 32768)) t258 t259 t260 t261 _ A11.out).mono ?_); rintro e w20 ⟨rfl, hb⟩; refine ⟨_, rfl, ?_⟩; have n0_ := Aside0.mk (below_step (by repeat (first | (with_reducible first | exact HB.out | apply below_alloc | apply pw_below_drewN | apply below_drew1) | exact HB.out)) hb); clear HB; have HB := n0_; clear n0_; (try clear hb); (try clear hb2); (try clear hk); (try clear hi)))
              go_ret
              exact ⟨by first | rfl | (simp [errW_none, errW_some] <;> rfl) | (simp [*, errW_none, errW_some] <;> rfl), by repeat (first | (with_reducible first | exact HB.out | apply below_alloc | apply pw_below_drewN | apply below_drew1) | exact HB.out)⟩
          · rw [if_neg c12] at H
            have c12b0 : (t261 == 0) = false := beq_eq_false_iff_ne.mpr c12
            have c12b1 : (t261 != 0) = true := bne_iff_ne.mpr c12
            (first | rw [c12b0] | (simp only [i64_w, i32_w]; rw [c12b0]) | skip)
            obtain rfl := Option.some.inj H
            go_wp2_with (first | ((with_reducible refine gate_callee (f := 22) rfl ?_); refine goesL_ (some 42) rfl rfl Try.func22 (by kernel_rfl) rfl #[.int .i64 (Go.bits .xor .i64 t255 (Int.tmod (wrap64 (a3)) 32768))] rfl (by (try simp only [List.map_toArray, List.map_cons, List.map_nil]); first | done | rfl | (simp only [List.length_drop, List.length_take]; rfl)) ?_; (with_reducible refine (bch_ParseFormat.calls kj5 (Go.bits .xor .i64 t255 (Int.tmod (wrap64 (a3)) 32768)) t258 t259 t260 t261 _ A11.out).mono ?_); rintro e w21 ⟨rfl, hb⟩; refine ⟨_, rfl, ?_⟩; have n0_ := Aside0.mk (below_step (by repeat (first | (with_reducible first | exact HB.out | apply below_alloc | apply pw_below_drewN | apply below_drew1) | exact HB.out)) hb); clear HB; have HB := n0_; clear n0_; (try clear hb); (try clear hb2); (try clear hk); (try clear hi)))
            go_ret
            exact ⟨by first | rfl | (simp [errW_none, errW_some] <;> rfl) | (simp [*, errW_none, errW_some] <;> rfl), by repeat (first | (with_reducible first | exact HB.out | apply below_alloc | apply pw_below_drewN | apply below_drew1) | exact HB.out)⟩
        · replace c10 := Bool.eq_false_iff.mpr c10
          subst c10
          have H1 : (barscanlaw08_BchInformation.j1 kj5 a2 a3) = some r := by rw [if_neg (show ¬ (false = true) by decide)] at H; exact H
          clear H
          have H := H1
          clear H1
          have H' := Aside0.mk H
          clear H
          go_wp2
          go_meet
          case rel => exact ⟨_, H', ⟨by have := HJ5.out; first | omega | exact Nat.le_refl _⟩, ⟨by repeat (first | (with_reducible first | exact HB.out | apply below_alloc | apply pw_below_drewN | apply below_drew1) | exact HB.out)⟩⟩
      case rest =>
        clear HC9
        try clear c1
        try clear c2
        try clear p2
        try clear p6
        try clear c7
        try clear c7b0
        try clear c7b1
        try clear c10
        try clear c12
        try clear c12b0
        try clear c12b1
        try clear c13
        try clear c13b0
        try clear c13b1
        try clear c14
        try clear c14b0
        try clear c14b1
        try clear c16
        try clear c16b0
        try clear c16b1
        try clear c20
        try clear p2
        try clear p6
        obtain ⟨kq, HA, HJ8, HB⟩ := hcut
        cases kq with
        | zero => exact absurd HA.out (by simp [barscanlaw08_BchInformation.j1])
        | succ kj8 =>
          have H := HA.out
          clear HA
          simp only [barscanlaw08_BchInformation.j1] at H
          replace H := Option.bind_eq_some_iff.mp H
          obtain ⟨⟨t263, t264⟩, A220, H⟩ := H
          replace H : (if t264 = 0 then ((barscanlaw08_ones.f kj8 (Int.tmod (wrap64 (a3)) 262144)).bind fun t265 => (barscanlaw08_BchInformation.j2 kj8 a2 t263 (Int.tmod (wrap64 (a3)) 262144) (decide (t265 ≤ 3)))) else (barscanlaw08_BchInformation.j2 kj8 a2 t263 (Int.tmod (wrap64 (a3)) 262144) false)) = some r := H
          have A22 := Aside0.mk A220
          clear A220
          have HC23 := Aside0.mk H
          clear H
          go_upto_region 9 with (first | ((with_reducible refine gate_callee (f := 24) rfl ?_); refine goesL_ (some 67) rfl rfl Try.func24 (by kernel_rfl) rfl #[.int .i64 a2] rfl (by (try simp only [List.map_toArray, List.map_cons, List.map_nil]); first | done | rfl | (simp only [List.length_drop, List.length_take]; rfl)) ?_; (with_reducible refine (bch_Version.calls kj8 a2 t263 t264 _ A22.out).mono ?_); rintro e w' ⟨rfl, ⟨nd, rfl⟩⟩; refine ⟨_, rfl, ?_⟩))
          (try simp only [Act.put, List.setIfInBounds_toArray, List.set_cons_zero, List.set_cons_succ])
          go_cut [79] (fun v79 wc => ∃ (kq : Nat) (x79_22 : Bool), v79 = .bool x79_22 ∧ Aside0 (barscanlaw08_BchInformation.j2 kq a2 t263 (Int.tmod (wrap64 (a3)) 262144) x79_22 = some r) ∧ Aside0 (kq ≤ kj8) ∧ Aside0 (Below w.heap.size w wc))
          case first =>
            have H := HC23.out
            clear HC23
            by_cases c24 : t264 = 0
            · rw [if_pos c24] at H
              have c24b0 : (t264 == 0) = true := beq_iff_eq.mpr c24
              have c24b1 : (t264 != 0) = false := bne_eq_false_iff_eq.mpr c24
              clear c24
              (first | rw [c24b0] | (simp only [i64_w, i32_w]; rw [c24b0]) | skip)
              replace H := Option.bind_eq_some_iff.mp H
              obtain ⟨t265, A250, H⟩ := H
              replace H : (barscanlaw08_BchInformation.j2 kj8 a2 t263 (Int.tmod (wrap64 (a3)) 262144) (decide (t265 ≤ 3))) = some r := H
              have A25 := Aside0.mk A250
              clear A250
              have H' := Aside0.mk H
              clear H
              go_wp2_with (first | (go_at_call 19; (with_reducible refine (barscanlaw08_ones.calls kj8 (Int.tmod (wrap64 (a3)) 262144) t265 _ A25.out).mono ?_); rintro e w' ⟨rfl, ⟨nd, rfl⟩⟩))
              go_meet
              case rel => exact ⟨_, (decide (t265 ≤ 3)), (by first | rfl | (simp; done) | (simp [*]; done)), H', ⟨by have := HJ5.out; have := HJ8.out; first | omega | exact Nat.le_refl _⟩, ⟨by repeat (first | (with_reducible first | exact HB.out | apply below_alloc | apply pw_below_drewN | apply below_drew1) | exact HB.out)⟩⟩
            · rw [if_neg c24] at H
              have c24b0 : (t264 == 0) = false := beq_eq_false_iff_ne.mpr c24
              have c24b1 : (t264 != 0) = true := bne_iff_ne.mpr c24
              (first | rw [c24b0] | (simp only [i64_w, i32_w]; rw [c24b0]) | skip)
              have H' := Aside0.mk H
              clear H
              go_wp2
              go_meet
              case rel => exact ⟨_, (false), (by first | rfl | (simp; done) | (simp [*]; done)), H', ⟨by have := HJ5.out; have := HJ8.out; first | omega | exact Nat.le_refl _⟩, ⟨by repeat (first | (with_reducible first | exact HB.out | apply below_alloc | apply pw_below_drewN | apply below_drew1) | exact HB.out)⟩⟩
          case rest =>
            clear HC23
            try clear c1
            try clear c2
            try clear p2
            try clear p6
            try clear c7
            try clear c7b0
            try clear c7b1
            try clear c10
            try clear c12
            try clear c12b0
            try clear c12b1
            try clear c13
            try clear c13b0
            try clear c13b1
            try clear c14
            try clear c14b0
            try clear c14b1
            try clear c16
            try clear c16b0
            try clear c16b1
            try clear c20
            try clear c22
            try clear c24
            try clear c24b0
            try clear c24b1
            try clear p2
            try clear p6
            obtain ⟨kq, x79_22, rfl, HA, HJ22, HB⟩ := hcut
            cases kq with
            | zero => exact absurd HA.out (by simp [barscanlaw08_BchInformation.j2])
            | succ kj22 =>
              have H := HA.out
              clear HA
              simp only [barscanlaw08_BchInformation.j2] at H
              by_cases c26 : x79_22 = true
              · subst c26
                have H1 : ((bch_ParseVersion.f kj22 (Go.bits .xor .i64 t263 (Int.tmod (wrap64 (a3)) 262144))).bind fun bt266 => (if bt266.2.2 = 0 then (if bt266.1 = a2 then ((barscanlaw08_ones.f kj22 (Int.tmod (wrap64 (a3)) 262144)).bind fun t269 => (if bt266.2.1 = t269 then ((barscanlaw08_examples.f kj22).bind fun t270 => (some t270)) else (some false))) else (some false)) else (some false))) = some r := by rw [if_pos rfl] at H; exact H
                clear H
                have H := H1
                clear H1
                replace H := Option.bind_eq_some_iff.mp H
                obtain ⟨⟨t266, t267, t268⟩, A270, H⟩ := H
                replace H : (if t268 = 0 then (if t266 = a2 then ((barscanlaw08_ones.f kj22 (Int.tmod (wrap64 (a3)) 262144)).bind fun t269 => (if t267 = t269 then ((barscanlaw08_examples.f kj22).bind fun t270 => (some t270)) else (some false))) else (some false)) else (some false)) = some r := H
                have A27 := Aside0.mk A270
                clear A270
                by_cases c28 : t268 = 0
                · rw [if_pos c28] at H
                  have c28b0 : (t268 == 0) = true := beq_iff_eq.mpr c28
                  have c28b1 : (t268 != 0) = false := bne_eq_false_iff_eq.mpr c28
                  clear c28
                  by_cases c29 : t266 = a2
                  · rw [if_pos c29] at H
                    have c29b0 : (t266 == a2) = true := beq_iff_eq.mpr c29
                    have c29b1 : (t266 != a2) = false := bne_eq_false_iff_eq.mpr c29
                    clear c29
                    replace H := Option.bind_eq_some_iff.mp H
                    obtain ⟨t269, A300, H⟩ := H
                    replace H : (if t267 = t269 then ((barscanlaw08_examples.f kj22).bind fun t270 => (some t270)) else (some false)) = some r := H
                    have A30 := Aside0.mk A300
                    clear A300
                    by_cases c31 : t267 = t269
                    · rw [if_pos c31] at H
                      have c31b0 : (t267 == t269) = true := beq_iff_eq.mpr c31
                      have c31b1 : (t267 != t269) = false := bne_eq_false_iff_eq.mpr c31
                      clear c31
                      replace H := Option.bind_eq_some_iff.mp H
                      obtain ⟨t270, A320, H⟩ := H
                      replace H : (some t270) = some r := H
                      have A32 := Aside0.mk A320
                      clear A320
                      obtain rfl := Option.some.inj H
                      go_wp2_with (first | ((with_reducible refine gate_callee (f := 26) rfl ?_); refine goesL_ (some 84) rfl rfl Try.func26 (by kernel_rfl) rfl #[.int .i64 (Go.bits .xor .i64 t263 (Int.tmod (wrap64 (a3)) 262144))] rfl (by (try simp only [List.map_toArray, List.map_cons, List.map_nil]); first | done | rfl | (simp only [List.length_drop, List.length_take]; rfl)) ?_; (with_reducible refine (bch_ParseVersion.calls kj22 (Go.bits .xor .i64 t263 (Int.tmod (wrap64 (a3)) 262144)) t266 t267 t268 _ A27.out).mono ?_); rintro e w' ⟨rfl, ⟨nd, rfl⟩⟩; refine ⟨_, rfl, ?_⟩) | (go_at_call 19; (with_reducible refine (barscanlaw08_ones.calls kj22 (Int.tmod (wrap64 (a3)) 262144) t269 _ A30.out).mono ?_); rintro e w' ⟨rfl, ⟨nd, rfl⟩⟩) | ((with_reducible refine gate_callee (f := 15) rfl ?_); refine goesL_ (some 101) rfl rfl Try.func15 (by kernel_rfl) rfl #[] rfl (by (try simp only [List.map_toArray, List.map_cons, List.map_nil]); first | done | rfl | (simp only [List.length_drop, List.length_take]; rfl)) ?_; (with_reducible refine (barscanlaw08_examples.calls kj22  t270 _ A32.out).mono ?_); rintro e w33 ⟨rfl, hb⟩; refine ⟨_, rfl, ?_⟩; have n0_ := Aside0.mk (below_step (by repeat (first | (with_reducible first | exact HB.out | apply below_alloc | apply pw_below_drewN | apply below_drew1) | exact HB.out)) hb); clear HB; have HB := n0_; clear n0_; (try clear hb); (try clear hb2); (try clear hk); (try clear hi)))
                      go_ret
                      exact ⟨by first | rfl | (simp [errW_none, errW_some] <;> rfl) | (simp [*, errW_none, errW_some] <;> rfl), by repeat (first | (with_reducible first | exact HB.out | apply below_alloc | apply pw_below_drewN | apply below_drew1) | exact HB.out)⟩
                    · rw [if_neg c31] at H
                      have c31b0 : (t267 == t269) = false := beq_eq_false_iff_ne.mpr c31
                      have c31b1 : (t267 != t269) = true := bne_iff_ne.mpr c31
                      obtain rfl := Option.some.inj H
                      go_wp2_with (first | ((with_reducible refine gate_callee (f := 26) rfl ?_); refine goesL_ (some 84) rfl rfl Try.func26 (by kernel_rfl) rfl #[.int .i64 (Go.bits .xor .i64 t263 (Int.tmod (wrap64 (a3)) 262144))] rfl (by (try simp only [List.map_toArray, List.map_cons, List.map_nil]); first | done | rfl | (simp only [List.length_drop, List.length_take]; rfl)) ?_; (with_reducible refine (bch_ParseVersion.calls kj22 (Go.bits .xor .i64 t263 (Int.tmod (wrap64 (a3)) 262144)) t266 t267 t268 _ A27.out).mono ?_); rintro e w' ⟨rfl, ⟨nd, rfl⟩⟩; refine ⟨_, rfl, ?_⟩) | (go_at_call 19; (with_reducible refine (barscanlaw08_ones.calls kj22 (Int.tmod (wrap64 (a3)) 262144) t269 _ A30.out).mono ?_); rintro e w' ⟨rfl, ⟨nd, rfl⟩⟩))
                      go_ret
                      exact ⟨by first | rfl | (simp [errW_none, errW_some] <;> rfl) | (simp [*, errW_none, errW_some] <;> rfl), by repeat (first | (with_reducible first | exact HB.out | apply below_alloc | apply pw_below_drewN | apply below_drew1) | exact HB.out)⟩
                  · rw [if_neg c29] at H
                    have c29b0 : (t266 == a2) = false := beq_eq_false_iff_ne.mpr c29
                    have c29b1 : (t266 != a2) = true := bne_iff_ne.mpr c29
                    obtain rfl := Option.some.inj H
                    go_wp2_with (first | ((with_reducible refine gate_callee (f := 26) rfl ?_); refine goesL_ (some 84) rfl rfl Try.func26 (by kernel_rfl) rfl #[.int .i64 (Go.bits .xor .i64 t263 (Int.tmod (wrap64 (a3)) 262144))] rfl (by (try simp only [List.map_toArray, List.map_cons, List.map_nil]); first | done | rfl | (simp only [List.length_drop, List.length_take]; rfl)) ?_; (with_reducible refine (bch_ParseVersion.calls kj22 (Go.bits .xor .i64 t263 (Int.tmod (wrap64 (a3)) 262144)) t266 t267 t268 _ A27.out).mono ?_); rintro e w' ⟨rfl, ⟨nd, rfl⟩⟩; refine ⟨_, rfl, ?_⟩))
                    go_ret
                    exact ⟨by first | rfl | (simp [errW_none, errW_some] <;> rfl) | (simp [*, errW_none, errW_some] <;> rfl), by repeat (first | (with_reducible first | exact HB.out | apply below_alloc | apply pw_below_drewN | apply below_drew1) | exact HB.out)⟩
                · rw [if_neg c28] at H
                  have c28b0 : (t268 == 0) = false := beq_eq_false_iff_ne.mpr c28
                  have c28b1 : (t268 != 0) = true := bne_iff_ne.mpr c28
                  obtain rfl := Option.some.inj H
                  go_wp2_with (first | ((with_reducible refine gate_callee (f := 26) rfl ?_); refine goesL_ (some 84) rfl rfl Try.func26 (by kernel_rfl) rfl #[.int .i64 (Go.bits .xor .i64 t263 (Int.tmod (wrap64 (a3)) 262144))] rfl (by (try simp only [List.map_toArray, List.map_cons, List.map_nil]); first | done | rfl | (simp only [List.length_drop, List.length_take]; rfl)) ?_; (with_reducible refine (bch_ParseVersion.calls kj22 (Go.bits .xor .i64 t263 (Int.tmod (wrap64 (a3)) 262144)) t266 t267 t268 _ A27.out).mono ?_); rintro e w' ⟨rfl, ⟨nd, rfl⟩⟩; refine ⟨_, rfl, ?_⟩))
                  go_ret
                  exact ⟨by first | rfl | (simp [errW_none, errW_some] <;> rfl) | (simp [*, errW_none, errW_some] <;> rfl), by repeat (first | (with_reducible first | exact HB.out | apply below_alloc | apply pw_below_drewN | apply below_drew1) | exact HB.out)⟩
              · replace c26 := Bool.eq_false_iff.mpr c26
                subst c26
                have H1 : ((barscanlaw08_examples.f kj22).bind fun t271 => (some t271)) = some r := by rw [if_neg (show ¬ (false = true) by decide)] at H; exact H
                clear H
                have H := H1
                clear H1
                replace H := Option.bind_eq_some_iff.mp H
                obtain ⟨t271, A340, H⟩ := H
                replace H : (some t271) = some r := H
                have A34 := Aside0.mk A340
                clear A340
                obtain rfl := Option.some.inj H
                go_wp2_with (first | ((with_reducible refine gate_callee (f := 15) rfl ?_); refine goesL_ (some 101) rfl rfl Try.func15 (by kernel_rfl) rfl #[] rfl (by (try simp only [List.map_toArray, List.map_cons, List.map_nil]); first | done | rfl | (simp only [List.length_drop, List.length_take]; rfl)) ?_; (with_reducible refine (barscanlaw08_examples.calls kj22  t271 _ A34.out).mono ?_); rintro e w35 ⟨rfl, hb⟩; refine ⟨_, rfl, ?_⟩; have n0_ := Aside0.mk (below_step (by repeat (first | (with_reducible first | exact HB.out | apply below_alloc | apply pw_below_drewN | apply below_drew1) | exact HB.out)) hb); clear HB; have HB := n0_; clear n0_; (try clear hb); (try clear hb2); (try clear hk); (try clear hi)))
                go_ret
                exact ⟨by first | rfl | (simp [errW_none, errW_some] <;> rfl) | (simp [*, errW_none, errW_some] <;> rfl), by repeat (first | (with_reducible first | exact HB.out | apply below_alloc | apply pw_below_drewN | apply below_drew1) | exact HB.out)⟩

/-- THE ONE PURE STATEMENT of barscanlaw08_BchInformation: yours. -/
def barscanlaw08_BchInformation.Pure : Prop := ∀ (a0 : Int) (a1 : Int) (a2 : Int) (a3 : Int), (Lit.int .i64 a0).wf = true → (Lit.int .i64 a1).wf = true → (Lit.int .i64 a2).wf = true → (Lit.int .u32 a3).wf = true → ∃ k, barscanlaw08_BchInformation.f k a0 a1 a2 a3 = some true
theorem barscanlaw08_BchInformation.walk (P : barscanlaw08_BchInformation.Pure) (a0 : Int) (a1 : Int) (a2 : Int) (a3 : Int) (w : World) (w0 : (Lit.int .i64 a0).wf = true) (w1 : (Lit.int .i64 a1).wf = true) (w2 : (Lit.int .i64 a2).wf = true) (w3 : (Lit.int .u32 a3).wf = true) :
    Calls Try.prog 10 #[.int .i64 a0, .int .i64 a1, .int .i64 a2, .int .u32 a3] w fun e w' => e = .returned (.bool true) ∧ Below w.heap.size w w' := by
  obtain ⟨k, h⟩ := P a0 a1 a2 a3 w0 w1 w2 w3
  refine (barscanlaw08_BchInformation.calls k a0 a1 a2 a3 true w h).mono ?_
  rintro e w' ⟨rfl, hd⟩
  exact ⟨rfl, hd⟩

end Go.Proofs.Ythhdekfnalioiaa.B
