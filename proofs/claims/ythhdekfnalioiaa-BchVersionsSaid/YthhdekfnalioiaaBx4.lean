-- Written by a program of this session out of the kit's print of the loaded functions (see wip/).
import Derived.Test.YthhdekfnalioiaaBx0
import Derived.Test.YthhdekfnalioiaaBx1
import Derived.Test.YthhdekfnalioiaaBx2
import Derived.Test.YthhdekfnalioiaaBx3
namespace Go.Proofs.Ythhdekfnalioiaa.B
open Go.RowKit Go.Proofs.YthhdekfnalioiaaW.PrintWords Go.Proofs.YthhdekfnalioiaaW.PrintLast Go.Proofs.YthhdekfnalioiaaW.PrintMore
attribute [local go_sem] max2_int min2_int max_two min_two max_three min_three max_four min_four   -- for this text's walks alone
set_option linter.unusedVariables false
set_option linter.unusedSimpArgs false

/-! ### barscanlaw08_BchDecodes: function 4 -/
def barscanlaw08_BchDecodes.f (k : Nat) (a0 : Int) (a1 : Int) (a2 : Int) : Option (Bool) := (bch_Decode.f k a0 a1 a2).bind fun bt171 => ((barscanref08_Decode.f k a0 a1 a2).bind fun bt174 => (if bt171.1 = bt174.1 then (if bt171.2.1 = bt174.2.1 then (if bt171.2.2 = bt174.2.2 then ((barscanlaw08_examples.f k).bind fun t177 => (some t177)) else (some false)) else (some false)) else (some false)))
theorem barscanlaw08_BchDecodes.mono : ∀ a0 a1 a2 k, LeO (barscanlaw08_BchDecodes.f k a0 a1 a2) (barscanlaw08_BchDecodes.f (k + 1) a0 a1 a2) := by
  intro a0 a1 a2 k
  unfold barscanlaw08_BchDecodes.f
  repeat' first
      | (with_reducible exact barscanlaw08_examples.mono _)
      | (with_reducible exact barscanref08_Decode.mono _ _ _ _)
      | (with_reducible exact bch_Decode.mono _ _ _ _)
      | (with_reducible exact LeO.refl _)
      | (with_reducible exact LeO.none _)
      | (with_reducible refine LeO.ite ?_ ?_)
      | (with_reducible refine LeO.bind ?_ (fun _ => ?_))
      | exact barscanlaw08_examples.mono _
      | exact barscanref08_Decode.mono _ _ _ _
      | exact bch_Decode.mono _ _ _ _
      | exact LeO.none _
      | refine LeO.ite ?_ ?_
      | refine LeO.bind ?_ (fun _ => ?_)
set_option maxHeartbeats 8000000 in
set_option maxRecDepth 100000 in
theorem barscanlaw08_BchDecodes.calls (k : Nat) (a0 : Int) (a1 : Int) (a2 : Int) (r : Bool) (w : World) (h : barscanlaw08_BchDecodes.f k a0 a1 a2 = some r) :
    Calls Try.prog 4 #[.int .i64 a0, .int .i64 a1, .int .i64 a2] w fun e w' => e = .returned (.bool r) ∧ Below w.heap.size w w' := by
  have HB := Aside0.mk (Below.refl w.heap.size w)
  have H : ((bch_Decode.f k a0 a1 a2).bind fun bt171 => ((barscanref08_Decode.f k a0 a1 a2).bind fun bt174 => (if bt171.1 = bt174.1 then (if bt171.2.1 = bt174.2.1 then (if bt171.2.2 = bt174.2.2 then ((barscanlaw08_examples.f k).bind fun t177 => (some t177)) else (some false)) else (some false)) else (some false)))) = some r := h
  clear h
  replace H := Option.bind_eq_some_iff.mp H
  obtain ⟨⟨t171, t172, t173⟩, A40, H⟩ := H
  replace H : ((barscanref08_Decode.f k a0 a1 a2).bind fun bt174 => (if t171 = bt174.1 then (if t172 = bt174.2.1 then (if t173 = bt174.2.2 then ((barscanlaw08_examples.f k).bind fun t177 => (some t177)) else (some false)) else (some false)) else (some false))) = some r := H
  have A4 := Aside0.mk A40
  clear A40
  replace H := Option.bind_eq_some_iff.mp H
  obtain ⟨⟨t174, t175, t176⟩, A50, H⟩ := H
  replace H : (if t171 = t174 then (if t172 = t175 then (if t173 = t176 then ((barscanlaw08_examples.f k).bind fun t177 => (some t177)) else (some false)) else (some false)) else (some false)) = some r := H
  have A5 := Aside0.mk A50
  clear A50
  by_cases c6 : t171 = t174
  · rw [if_pos c6] at H
    have c6b0 : (t171 == t174) = true := beq_iff_eq.mpr c6
    have c6b1 : (t171 != t174) = false := bne_eq_false_iff_eq.mpr c6
    clear c6
    by_cases c7 : t172 = t175
    · rw [if_pos c7] at H
      have c7b0 : (t172 == t175) = true := beq_iff_eq.mpr c7
      have c7b1 : (t172 != t175) = false := bne_eq_false_iff_eq.mpr c7
      clear c7
      by_cases c8 : t173 = t176
      · rw [if_pos c8] at H
        have c8b0 : (t173 == t176) = true := beq_iff_eq.mpr c8
        have c8b1 : (t173 != t176) = false := bne_eq_false_iff_eq.mpr c8
        clear c8
        replace H := Option.bind_eq_some_iff.mp H
        obtain ⟨t177, A90, H⟩ := H
        replace H : (some t177) = some r := H
        have A9 := Aside0.mk A90
        clear A90
        obtain rfl := Option.some.inj H
        go_enter Try.func4, Try.ntmps4
        go_wp2_with (first | ((with_reducible refine gate_callee (f := 16) rfl ?_); refine goesL_ (some 17) rfl rfl Try.func16 (by kernel_rfl) rfl #[.int .i64 a0, .int .i64 a1, .int .i64 a2] rfl (by (try simp only [List.map_toArray, List.map_cons, List.map_nil]); first | done | rfl | (simp only [List.length_drop, List.length_take]; rfl)) ?_; (with_reducible refine (bch_Decode.calls k a0 a1 a2 t171 t172 t173 _ A4.out).mono ?_); rintro e w10 ⟨rfl, hb⟩; refine ⟨_, rfl, ?_⟩; have n0_ := Aside0.mk (below_step (by repeat (first | (with_reducible first | exact HB.out | apply below_alloc | apply pw_below_drewN | apply below_drew1) | exact HB.out)) hb); clear HB; have HB := n0_; clear n0_; (try clear hb); (try clear hb2); (try clear hk); (try clear hi)) | ((with_reducible refine gate_callee (f := 17) rfl ?_); refine goesL_ (some 25) rfl rfl Try.func17 (by kernel_rfl) rfl #[.int .i64 a0, .int .i64 a1, .int .i64 a2] rfl (by (try simp only [List.map_toArray, List.map_cons, List.map_nil]); first | done | rfl | (simp only [List.length_drop, List.length_take]; rfl)) ?_; (with_reducible refine (barscanref08_Decode.calls k a0 a1 a2 t174 t175 t176 _ A5.out).mono ?_); rintro e w11 ⟨rfl, hb⟩; refine ⟨_, rfl, ?_⟩; have n0_ := Aside0.mk (below_step (by repeat (first | (with_reducible first | exact HB.out | apply below_alloc | apply pw_below_drewN | apply below_drew1) | exact HB.out)) hb); clear HB; have HB := n0_; clear n0_; (try clear hb); (try clear hb2); (try clear hk); (try clear hi)) | (go_at_call 15; (with_reducible refine (barscanlaw08_examples.calls k  t177 _ A9.out).mono ?_); rintro e w12 ⟨rfl, hb⟩; have n0_ := Aside0.mk (below_step (by repeat (first | (with_reducible first | exact HB.out | apply below_alloc | apply pw_below_drewN | apply below_drew1) | exact HB.out)) hb); clear HB; have HB := n0_; clear n0_; (try clear hb); (try clear hb2); (try clear hk); (try clear hi)))
        go_ret
        exact ⟨by first | rfl | (simp [errW_none, errW_some] <;> rfl) | (simp [*, errW_none, errW_some] <;> rfl), by repeat (first | (with_reducible first | exact HB.out | apply below_alloc | apply pw_below_drewN | apply below_drew1) | exact HB.out)⟩
      · rw [if_neg c8] at H
        have c8b0 : (t173 == t176) = false := beq_eq_false_iff_ne.mpr c8
        have c8b1 : (t173 != t176) = true := bne_iff_ne.mpr c8
        obtain rfl := Option.some.inj H
        go_enter Try.func4, Try.ntmps4
        go_wp2_with (first | ((with_reducible refine gate_callee (f := 16) rfl ?_); refine goesL_ (some 17) rfl rfl Try.func16 (by kernel_rfl) rfl #[.int .i64 a0, .int .i64 a1, .int .i64 a2] rfl (by (try simp only [List.map_toArray, List.map_cons, List.map_nil]); first | done | rfl | (simp only [List.length_drop, List.length_take]; rfl)) ?_; (with_reducible refine (bch_Decode.calls k a0 a1 a2 t171 t172 t173 _ A4.out).mono ?_); rintro e w13 ⟨rfl, hb⟩; refine ⟨_, rfl, ?_⟩; have n0_ := Aside0.mk (below_step (by repeat (first | (with_reducible first | exact HB.out | apply below_alloc | apply pw_below_drewN | apply below_drew1) | exact HB.out)) hb); clear HB; have HB := n0_; clear n0_; (try clear hb); (try clear hb2); (try clear hk); (try clear hi)) | ((with_reducible refine gate_callee (f := 17) rfl ?_); refine goesL_ (some 25) rfl rfl Try.func17 (by kernel_rfl) rfl #[.int .i64 a0, .int .i64 a1, .int .i64 a2] rfl (by (try simp only [List.map_toArray, List.map_cons, List.map_nil]); first | done | rfl | (simp only [List.length_drop, List.length_take]; rfl)) ?_; (with_reducible refine (barscanref08_Decode.calls k a0 a1 a2 t174 t175 t176 _ A5.out).mono ?_); rintro e w14 ⟨rfl, hb⟩; refine ⟨_, rfl, ?_⟩; have n0_ := Aside0.mk (below_step (by repeat (first | (with_reducible first | exact HB.out | apply below_alloc | apply pw_below_drewN | apply below_drew1) | exact HB.out)) hb); clear HB; have HB := n0_; clear n0_; (try clear hb); (try clear hb2); (try clear hk); (try clear hi)))
        go_ret
        exact ⟨by first | rfl | (simp [errW_none, errW_some] <;> rfl) | (simp [*, errW_none, errW_some] <;> rfl), by repeat (first | (with_reducible first | exact HB.out | apply below_alloc | apply pw_below_drewN | apply below_drew1) | exact HB.out)⟩
    · rw [if_neg c7] at H
      have c7b0 : (t172 == t175) = false := beq_eq_false_iff_ne.mpr c7
      have c7b1 : (t172 != t175) = true := bne_iff_ne.mpr c7
      obtain rfl := Option.some.inj H
      go_enter Try.func4, Try.ntmps4
      go_wp2_with (first | ((with_reducible refine gate_callee (f := 16) rfl ?_); refine goesL_ (some 17) rfl rfl Try.func16 (by kernel_rfl) rfl #[.int .i64 a0, .int .i64 a1, .int .i64 a2] rfl (by (try simp only [List.map_toArray, List.map_cons, List.map_nil]); first | done | rfl | (simp only [List.length_drop, List.length_take]; rfl)) ?_; (with_reducible refine (bch_Decode.calls k a0 a1 a2 t171 t172 t173 _ A4.out).mono ?_); rintro e w15 ⟨rfl, hb⟩; refine ⟨_, rfl, ?_⟩; have n0_ := Aside0.mk (below_step (by repeat (first | (with_reducible first | exact HB.out | apply below_alloc | apply pw_below_drewN | apply below_drew1) | exact HB.out)) hb); clear HB; have HB := n0_; clear n0_; (try clear hb); (try clear hb2); (try clear hk); (try clear hi)) | ((with_reducible refine gate_callee (f := 17) rfl ?_); refine goesL_ (some 25) rfl rfl Try.func17 (by kernel_rfl) rfl #[.int .i64 a0, .int .i64 a1, .int .i64 a2] rfl (by (try simp only [List.map_toArray, List.map_cons, List.map_nil]); first | done | rfl | (simp only [List.length_drop, List.length_take]; rfl)) ?_; (with_reducible refine (barscanref08_Decode.calls k a0 a1 a2 t174 t175 t176 _ A5.out).mono ?_); rintro e w16 ⟨rfl, hb⟩; refine ⟨_, rfl, ?_⟩; have n0_ := Aside0.mk (below_step (by repeat (first | (with_reducible first | exact HB.out | apply below_alloc | apply pw_below_drewN | apply below_drew1) | exact HB.out)) hb); clear HB; have HB := n0_; clear n0_; (try clear hb); (try clear hb2); (try clear hk); (try clear hi)))
      go_ret
      exact ⟨by first | rfl | (simp [errW_none, errW_some] <;> rfl) | (simp [*, errW_none, errW_some] <;> rfl), by repeat (first | (with_reducible first | exact HB.out | apply below_alloc | apply pw_below_drewN | apply below_drew1) | exact HB.out)⟩
  · rw [if_neg c6] at H
    have c6b0 : (t171 == t174) = false := beq_eq_false_iff_ne.mpr c6
    have c6b1 : (t171 != t174) = true := bne_iff_ne.mpr c6
    obtain rfl := Option.some.inj H
    go_enter Try.func4, Try.ntmps4
    go_wp2_with (first | ((with_reducible refine gate_callee (f := 16) rfl ?_); refine goesL_ (some 17) rfl rfl Try.func16 (by kernel_rfl) rfl #[.int .i64 a0, .int .i64 a1, .int .i64 a2] rfl (by (try simp only [List.map_toArray, List.map_cons, List.map_nil]); first | done | rfl | (simp only [List.length_drop, List.length_take]; rfl)) ?_; (with_reducible refine (bch_Decode.calls k a0 a1 a2 t171 t172 t173 _ A4.out).mono ?_); rintro e w17 ⟨rfl, hb⟩; refine ⟨_, rfl, ?_⟩; have n0_ := Aside0.mk (below_step (by repeat (first | (with_reducible first | exact HB.out | apply below_alloc | apply pw_below_drewN | apply below_drew1) | exact HB.out)) hb); clear HB; have HB := n0_; clear n0_; (try clear hb); (try clear hb2); (try clear hk); (try clear hi)) | ((with_reducible refine gate_callee (f := 17) rfl ?_); refine goesL_ (some 25) rfl rfl Try.func17 (by kernel_rfl) rfl #[.int .i64 a0, .int .i64 a1, .int .i64 a2] rfl (by (try simp only [List.map_toArray, List.map_cons, List.map_nil]); first | done | rfl | (simp only [List.length_drop, List.length_take]; rfl)) ?_; (with_reducible refine (barscanref08_Decode.calls k a0 a1 a2 t174 t175 t176 _ A5.out).mono ?_); rintro e w18 ⟨rfl, hb⟩; refine ⟨_, rfl, ?_⟩; have n0_ := Aside0.mk (below_step (by repeat (first | (with_reducible first | exact HB.out | apply below_alloc | apply pw_below_drewN | apply below_drew1) | exact HB.out)) hb); clear HB; have HB := n0_; clear n0_; (try clear hb); (try clear hb2); (try clear hk); (try clear hi)))
    go_ret
    exact ⟨by first | rfl | (simp [errW_none, errW_some] <;> rfl) | (simp [*, errW_none, errW_some] <;> rfl), by repeat (first | (with_reducible first | exact HB.out | apply below_alloc | apply pw_below_drewN | apply below_drew1) | exact HB.out)⟩

/-- THE ONE PURE STATEMENT of barscanlaw08_BchDecodes: yours. -/
def barscanlaw08_BchDecodes.Pure : Prop := ∀ (a0 : Int) (a1 : Int) (a2 : Int), (Lit.int .i64 a0).wf = true → (Lit.int .i64 a1).wf = true → (Lit.int .i64 a2).wf = true → ∃ k, barscanlaw08_BchDecodes.f k a0 a1 a2 = some true
theorem barscanlaw08_BchDecodes.walk (P : barscanlaw08_BchDecodes.Pure) (a0 : Int) (a1 : Int) (a2 : Int) (w : World) (w0 : (Lit.int .i64 a0).wf = true) (w1 : (Lit.int .i64 a1).wf = true) (w2 : (Lit.int .i64 a2).wf = true) :
    Calls Try.prog 4 #[.int .i64 a0, .int .i64 a1, .int .i64 a2] w fun e w' => e = .returned (.bool true) ∧ Below w.heap.size w w' := by
  obtain ⟨k, h⟩ := P a0 a1 a2 w0 w1 w2
  refine (barscanlaw08_BchDecodes.calls k a0 a1 a2 true w h).mono ?_
  rintro e w' ⟨rfl, hd⟩
  exact ⟨rfl, hd⟩

/-! ### barscanlaw08_degree: function 18 -/
def barscanlaw08_degree.l0 : Nat → Int → Int → Option (Int)
  | 0, _, _ => none
  | k + 1, x0, x3 => if x0 > 1 then (barscanlaw08_degree.l0 k (wrap64 (Int.tdiv x0 2)) (wrap64 (x3 + 1))) else (some x3)
def barscanlaw08_degree.f (k : Nat) (a0 : Int) : Option (Int) := barscanlaw08_degree.l0 k a0 0
theorem barscanlaw08_degree.mono_l : ∀ k, (∀ y0 y1, LeO (barscanlaw08_degree.l0 k y0 y1) (barscanlaw08_degree.l0 (k + 1) y0 y1))
  | 0 => fun _ _ r h => by simp [barscanlaw08_degree.l0] at h
  | k + 1 => by
    have ih0 := barscanlaw08_degree.mono_l k
    · intro y0 y1
      unfold barscanlaw08_degree.l0
      repeat' first
      | (with_reducible exact ih0 _ _)
      | (with_reducible exact LeO.refl _)
      | (with_reducible exact LeO.none _)
      | (with_reducible refine LeO.ite ?_ ?_)
      | (with_reducible refine LeO.bind ?_ (fun _ => ?_))
      | exact ih0 _ _
      | exact LeO.none _
      | refine LeO.ite ?_ ?_
      | refine LeO.bind ?_ (fun _ => ?_)
theorem barscanlaw08_degree.mono : ∀ a0 k, LeO (barscanlaw08_degree.f k a0) (barscanlaw08_degree.f (k + 1) a0) := by
  intro a0 k
  have ih0 := barscanlaw08_degree.mono_l k
  unfold barscanlaw08_degree.f
  repeat' first
      | (with_reducible exact ih0 _ _)
      | (with_reducible exact LeO.refl _)
      | (with_reducible exact LeO.none _)
      | (with_reducible refine LeO.ite ?_ ?_)
      | (with_reducible refine LeO.bind ?_ (fun _ => ?_))
      | exact ih0 _ _
      | exact LeO.none _
      | refine LeO.ite ?_ ?_
      | refine LeO.bind ?_ (fun _ => ?_)
set_option maxHeartbeats 8000000 in
set_option maxRecDepth 100000 in
theorem barscanlaw08_degree.calls (k : Nat) (a0 : Int) (r : Int) (w : World) (h : barscanlaw08_degree.f k a0 = some r) :
    Calls Try.prog 18 #[.int .i64 a0] w fun e w' => e = .returned (.int .i64 r) ∧ Drawn0 w w' := by
  have H : (barscanlaw08_degree.l0 k a0 0) = some r := h
  clear h
  have H' := Aside0.mk H
  clear H
  go_enter Try.func18, Try.ntmps18
  go_wp2
  go_loopg [0, 3] k (fun kq v0 v3 w' => ∃ (x0_1 : Int) (x3_1 : Int), v0 = .int .i64 x0_1 ∧ v3 = .int .i64 x3_1 ∧ Aside0 (barscanlaw08_degree.l0 kq x0_1 x3_1 = some r) ∧ Aside0 (kq ≤ k) ∧ Drawn0 w w')
  case atStart => exact ⟨(a0), (0), (by first | rfl | (simp; done) | (simp [*]; done)), (by first | rfl | (simp; done) | (simp [*]; done)), H', ⟨Nat.le_refl _⟩, by repeat (first | exact Drawn0.refl _ | apply Drawn0.step)⟩
  case round =>
    clear H'
    try clear c1
    obtain ⟨x0_1, x3_1, rfl, rfl, HA, HK1, ⟨m1, rfl⟩⟩ := hrel
    cases gk with
    | zero => exact absurd HA.out (by simp [barscanlaw08_degree.l0])
    | succ k1 =>
      have H := HA.out
      clear HA
      simp only [barscanlaw08_degree.l0] at H
      by_cases c2 : x0_1 > 1
      · rw [if_pos c2] at H
        have c2b0 : decide (1 < x0_1) = true := decide_eq_true c2
        clear c2
        have H' := Aside0.mk H
        clear H
        go_wp2
        go_roundg k1
        case measure => have := HK1.out; omega
        case rel => exact ⟨(wrap64 (Int.tdiv x0_1 2)), (wrap64 (x3_1 + 1)), (by first | rfl | (simp; done) | (simp [*]; done)), (by first | rfl | (simp; done) | (simp [*]; done)), H', ⟨by have := HK1.out; omega⟩, by repeat (first | exact Drawn0.refl _ | apply Drawn0.step)⟩
      · rw [if_neg c2] at H
        have c2b0 : decide (1 < x0_1) = false := decide_eq_false c2
        clear c2
        obtain rfl := Option.some.inj H
        go_wp2
        go_ret
        exact ⟨by first | rfl | (simp; done) | (simp [*]; done), by repeat (first | exact Drawn0.refl _ | apply Drawn0.step)⟩

/-! ### barscanlaw08_BchLinear: function 5 -/
def barscanlaw08_BchLinear.j0 : Nat → Int → Int → Int → Int → Bool → Option (Bool)
  | 0, _, _, _, _, _ => none
  | k + 1, x0, x1, x2, x3, x25 => if x25 = true then ((bch_Encode.f k 0 x2 x3).bind fun bt178 => (if bt178.2 = 1 then ((barscanlaw08_examples.f k).bind fun t180 => (some t180)) else (some false))) else (if 0 ≤ (IntKind.u64.wrap (x2)) then (if (shl .i64 1 (IntKind.u64.wrap (x2))) = 0 then (none) else ((bch_Encode.f k (Int.tmod (wrap64 (x0)) (shl .i64 1 (IntKind.u64.wrap (x2)))) x2 x3).bind fun bt181 => ((bch_Encode.f k (Int.tmod (wrap64 (x1)) (shl .i64 1 (IntKind.u64.wrap (x2)))) x2 x3).bind fun bt183 => ((bch_Encode.f k (Go.bits .xor .i64 (Int.tmod (wrap64 (x0)) (shl .i64 1 (IntKind.u64.wrap (x2)))) (Int.tmod (wrap64 (x1)) (shl .i64 1 (IntKind.u64.wrap (x2))))) x2 x3).bind fun bt185 => (if bt181.2 = 0 then ((barscanlaw08_degree.f k x3).bind fun t187 => (if bt183.2 = 0 then (if bt185.2 = 0 then (if bt185.1 = (Go.bits .xor .i64 bt181.1 bt183.1) then (if 0 ≤ (IntKind.u64.wrap (t187)) then (if (shr .i64 bt181.1 (IntKind.u64.wrap (t187))) = (Int.tmod (wrap64 (x0)) (shl .i64 1 (IntKind.u64.wrap (x2)))) then (if bt181.1 ≥ 0 then ((barscanlaw08_examples.f k).bind fun t188 => (some t188)) else (some false)) else (some false)) else (none)) else (some false)) else (some false)) else (some false))) else (if bt181.2 = 1 then (if bt183.2 = bt181.2 then (if bt185.2 = bt181.2 then ((barscanlaw08_examples.f k).bind fun t189 => (some t189)) else (some false)) else (some false)) else (some false))))))) else (none))
def barscanlaw08_BchLinear.f (k : Nat) (a0 : Int) (a1 : Int) (a2 : Int) (a3 : Int) : Option (Bool) := if a2 < 1 then (barscanlaw08_BchLinear.j0 k a0 a1 a2 a3 true) else (barscanlaw08_BchLinear.j0 k a0 a1 a2 a3 (decide (a2 > 12)))
theorem barscanlaw08_BchLinear.mono_l : ∀ k, (∀ y0 y1 y2 y3 y4, LeO (barscanlaw08_BchLinear.j0 k y0 y1 y2 y3 y4) (barscanlaw08_BchLinear.j0 (k + 1) y0 y1 y2 y3 y4))
  | 0 => fun _ _ _ _ _ r h => by simp [barscanlaw08_BchLinear.j0] at h
  | k + 1 => by
    have ih0 := barscanlaw08_BchLinear.mono_l k
    · intro y0 y1 y2 y3 y4
      unfold barscanlaw08_BchLinear.j0
      repeat' first
      | (with_reducible exact ih0 _ _ _ _ _)
      | (with_reducible exact barscanlaw08_degree.mono _ _)
      | (with_reducible exact barscanlaw08_examples.mono _)
      | (with_reducible exact bch_Encode.mono _ _ _ _)
      | (with_reducible exact LeO.refl _)
      | (with_reducible exact LeO.none _)
      | (with_reducible refine LeO.ite ?_ ?_)
      | (with_reducible refine LeO.bind ?_ (fun _ => ?_))
      | exact ih0 _ _ _ _ _
      | exact barscanlaw08_degree.mono _ _
      | exact barscanlaw08_examples.mono _
      | exact bch_Encode.mono _ _ _ _
      | exact LeO.none _
      | refine LeO.ite ?_ ?_
      | refine LeO.bind ?_ (fun _ => ?_)
theorem barscanlaw08_BchLinear.mono : ∀ a0 a1 a2 a3 k, LeO (barscanlaw08_BchLinear.f k a0 a1 a2 a3) (barscanlaw08_BchLinear.f (k + 1) a0 a1 a2 a3) := by
  intro a0 a1 a2 a3 k
  have ih0 := barscanlaw08_BchLinear.mono_l k
  unfold barscanlaw08_BchLinear.f
  repeat' first
      | (with_reducible exact ih0 _ _ _ _ _)
      | (with_reducible exact barscanlaw08_degree.mono _ _)
      | (with_reducible exact barscanlaw08_examples.mono _)
      | (with_reducible exact bch_Encode.mono _ _ _ _)
      | (with_reducible exact LeO.refl _)
      | (with_reducible exact LeO.none _)
      | (with_reducible refine LeO.ite ?_ ?_)
      | (with_reducible refine LeO.bind ?_ (fun _ => ?_))
      | exact ih0 _ _ _ _ _
      | exact barscanlaw08_degree.mono _ _
      | exact barscanlaw08_examples.mono _
      | exact bch_Encode.mono _ _ _ _
      | exact LeO.none _
      | refine LeO.ite ?_ ?_
      | refine LeO.bind ?_ (fun _ => ?_)
set_option maxHeartbeats 8000000 in
set_option maxRecDepth 100000 in
theorem barscanlaw08_BchLinear.calls (k : Nat) (a0 : Int) (a1 : Int) (a2 : Int) (a3 : Int) (r : Bool) (w : World) (h : barscanlaw08_BchLinear.f k a0 a1 a2 a3 = some r) :
    Calls Try.prog 5 #[.int .u16 a0, .int .u16 a1, .int .i64 a2, .int .i64 a3] w fun e w' => e = .returned (.bool r) ∧ Below w.heap.size w w' := by
  have HB := Aside0.mk (Below.refl w.heap.size w)
  have H : (if a2 < 1 then (barscanlaw08_BchLinear.j0 k a0 a1 a2 a3 true) else (barscanlaw08_BchLinear.j0 k a0 a1 a2 a3 (decide (a2 > 12)))) = some r := h
  clear h
  have HC5 := Aside0.mk H
  clear H
  go_enter Try.func5, Try.ntmps5
  go_upto_region 1 with (fail)
  go_cut [25] (fun v25 wc => ∃ (kq : Nat) (x25_4 : Bool), v25 = .bool x25_4 ∧ Aside0 (barscanlaw08_BchLinear.j0 kq a0 a1 a2 a3 x25_4 = some r) ∧ Aside0 (kq ≤ k) ∧ Aside0 (Below w.heap.size w wc))
  case first =>
    have H := HC5.out
    clear HC5
    by_cases c6 : a2 < 1
    · rw [if_pos c6] at H
      have c6b0 : decide (a2 < 1) = true := decide_eq_true c6
      clear c6
      (first | rw [c6b0] | (simp only [i64_w, i32_w]; rw [c6b0]) | skip)
      have H' := Aside0.mk H
      clear H
      go_wp2
      go_meet
      case rel => exact ⟨_, (true), (by first | rfl | (simp; done) | (simp [*]; done)), H', ⟨by first | omega | exact Nat.le_refl _⟩, ⟨by repeat (first | (with_reducible first | exact HB.out | apply below_alloc | apply pw_below_drewN | apply below_drew1) | exact HB.out)⟩⟩
    · rw [if_neg c6] at H
      have c6b0 : decide (a2 < 1) = false := decide_eq_false c6
      clear c6
      (first | rw [c6b0] | (simp only [i64_w, i32_w]; rw [c6b0]) | skip)
      have H' := Aside0.mk H
      clear H
      go_wp2
      go_meet
      case rel => exact ⟨_, (decide (a2 > 12)), (by first | rfl | (simp; done) | (simp [*]; done)), H', ⟨by first | omega | exact Nat.le_refl _⟩, ⟨by repeat (first | (with_reducible first | exact HB.out | apply below_alloc | apply pw_below_drewN | apply below_drew1) | exact HB.out)⟩⟩
  case rest =>
    clear HC5
    try clear p2
    try clear c5
    try clear c6
    try clear c6b0
    obtain ⟨kq, x25_4, rfl, HA, HJ4, HB⟩ := hcut
    cases kq with
    | zero => exact absurd HA.out (by simp [barscanlaw08_BchLinear.j0])
    | succ kj4 =>
      have H := HA.out
      clear HA
      simp only [barscanlaw08_BchLinear.j0] at H
      by_cases c7 : x25_4 = true
      · subst c7
        have H1 : ((bch_Encode.f kj4 0 a2 a3).bind fun bt178 => (if bt178.2 = 1 then ((barscanlaw08_examples.f kj4).bind fun t180 => (some t180)) else (some false))) = some r := by rw [if_pos rfl] at H; exact H
        clear H
        have H := H1
        clear H1
        replace H := Option.bind_eq_some_iff.mp H
        obtain ⟨⟨t178, t179⟩, A80, H⟩ := H
        replace H : (if t179 = 1 then ((barscanlaw08_examples.f kj4).bind fun t180 => (some t180)) else (some false)) = some r := H
        have A8 := Aside0.mk A80
        clear A80
        by_cases c9 : t179 = 1
        · rw [if_pos c9] at H
          have c9b0 : (t179 == 1) = true := beq_iff_eq.mpr c9
          have c9b1 : (t179 != 1) = false := bne_eq_false_iff_eq.mpr c9
          clear c9
          replace H := Option.bind_eq_some_iff.mp H
          obtain ⟨t180, A100, H⟩ := H
          replace H : (some t180) = some r := H
          have A10 := Aside0.mk A100
          clear A100
          obtain rfl := Option.some.inj H
          go_wp2_with (first | ((with_reducible refine gate_callee (f := 11) rfl ?_); refine goesL_ (some 29) rfl rfl Try.func11 (by kernel_rfl) rfl #[.int .i64 0, .int .i64 a2, .int .i64 a3] rfl (by (try simp only [List.map_toArray, List.map_cons, List.map_nil]); first | done | rfl | (simp only [List.length_drop, List.length_take]; rfl)) ?_; (with_reducible refine (bch_Encode.calls kj4 0 a2 a3 t178 t179 _ A8.out).mono ?_); rintro e w' ⟨rfl, ⟨nd, rfl⟩⟩; refine ⟨_, rfl, ?_⟩) | (go_at_call 15; (with_reducible refine (barscanlaw08_examples.calls kj4  t180 _ A10.out).mono ?_); rintro e w11 ⟨rfl, hb⟩; have n0_ := Aside0.mk (below_step (by repeat (first | (with_reducible first | exact HB.out | apply below_alloc | apply pw_below_drewN | apply below_drew1) | exact HB.out)) hb); clear HB; have HB := n0_; clear n0_; (try clear hb); (try clear hb2); (try clear hk); (try clear hi)))
          go_ret
          exact ⟨by first | rfl | (simp [errW_none, errW_some] <;> rfl) | (simp [*, errW_none, errW_some] <;> rfl), by repeat (first | (with_reducible first | exact HB.out | apply below_alloc | apply pw_below_drewN | apply below_drew1) | exact HB.out)⟩
        · rw [if_neg c9] at H
          have c9b0 : (t179 == 1) = false := beq_eq_false_iff_ne.mpr c9
          have c9b1 : (t179 != 1) = true := bne_iff_ne.mpr c9
          obtain rfl := Option.some.inj H
          go_wp2_with (first | ((with_reducible refine gate_callee (f := 11) rfl ?_); refine goesL_ (some 29) rfl rfl Try.func11 (by kernel_rfl) rfl #[.int .i64 0, .int .i64 a2, .int .i64 a3] rfl (by (try simp only [List.map_toArray, List.map_cons, List.map_nil]); first | done | rfl | (simp only [List.length_drop, List.length_take]; rfl)) ?_; (with_reducible refine (bch_Encode.calls kj4 0 a2 a3 t178 t179 _ A8.out).mono ?_); rintro e w' ⟨rfl, ⟨nd, rfl⟩⟩; refine ⟨_, rfl, ?_⟩))
          go_ret
          exact ⟨by first | rfl | (simp [errW_none, errW_some] <;> rfl) | (simp [*, errW_none, errW_some] <;> rfl), by repeat (first | (with_reducible first | exact HB.out | apply below_alloc | apply pw_below_drewN | apply below_drew1) | exact HB.out)⟩
      · replace c7 := Bool.eq_false_iff.mpr c7
        subst c7
        have H1 : (if 0 ≤ (IntKind.u64.wrap (a2)) then (if (shl .i64 1 (IntKind.u64.wrap (a2))) = 0 then (none) else ((bch_Encode.f kj4 (Int.tmod (wrap64 (a0)) (shl .i64 1 (IntKind.u64.wrap (a2)))) a2 a3).bind fun bt181 => ((bch_Encode.f kj4 (Int.tmod (wrap64 (a1)) (shl .i64 1 (IntKind.u64.wrap (a2)))) a2 a3).bind fun bt183 => ((bch_Encode.f kj4 (Go.bits .xor .i64 (Int.tmod (wrap64 (a0)) (shl .i64 1 (IntKind.u64.wrap (a2)))) (Int.tmod (wrap64 (a1)) (shl .i64 1 (IntKind.u64.wrap (a2))))) a2 a3).bind fun bt185 => (if bt181.2 = 0 then ((barscanlaw08_degree.f kj4 a3).bind fun t187 => (if bt183.2 = 0 then (if bt185.2 = 0 then (if bt185.1 = (Go.bits .xor .i64 bt181.1 bt183.1) then (if 0 ≤ (IntKind.u64.wrap (t187)) then (if (shr .i64 bt181.1 (IntKind.u64.wrap (t187))) = (Int.tmod (wrap64 (a0)) (shl .i64 1 (IntKind.u64.wrap (a2)))) then (if bt181.1 ≥ 0 then ((barscanlaw08_examples.f kj4).bind fun t188 => (some t188)) else (some false)) else (some false)) else (none)) else (some false)) else (some false)) else (some false))) else (if bt181.2 = 1 then (if bt183.2 = bt181.2 then (if bt185.2 = bt181.2 then ((barscanlaw08_examples.f kj4).bind fun t189 => (some t189)) else (some false)) else (some false)) else (some false))))))) else (none)) = some r := by rw [if_neg (show ¬ (false = true) by decide)] at H; exact H
        clear H
        have H := H1
        clear H1
        obtain ⟨ji12, hji12⟩ : ∃ j_ : Int, (IntKind.u64.wrap (a2)) = j_ := ⟨_, rfl⟩
        replace H : (if 0 ≤ (ji12) then (if (shl .i64 1 (ji12)) = 0 then (none) else ((bch_Encode.f kj4 (Int.tmod (wrap64 (a0)) (shl .i64 1 (ji12))) a2 a3).bind fun bt181 => ((bch_Encode.f kj4 (Int.tmod (wrap64 (a1)) (shl .i64 1 (ji12))) a2 a3).bind fun bt183 => ((bch_Encode.f kj4 (Go.bits .xor .i64 (Int.tmod (wrap64 (a0)) (shl .i64 1 (ji12))) (Int.tmod (wrap64 (a1)) (shl .i64 1 (ji12)))) a2 a3).bind fun bt185 => (if bt181.2 = 0 then ((barscanlaw08_degree.f kj4 a3).bind fun t187 => (if bt183.2 = 0 then (if bt185.2 = 0 then (if bt185.1 = (Go.bits .xor .i64 bt181.1 bt183.1) then (if 0 ≤ (IntKind.u64.wrap (t187)) then (if (shr .i64 bt181.1 (IntKind.u64.wrap (t187))) = (Int.tmod (wrap64 (a0)) (shl .i64 1 (ji12))) then (if bt181.1 ≥ 0 then ((barscanlaw08_examples.f kj4).bind fun t188 => (some t188)) else (some false)) else (some false)) else (none)) else (some false)) else (some false)) else (some false))) else (if bt181.2 = 1 then (if bt183.2 = bt181.2 then (if bt185.2 = bt181.2 then ((barscanlaw08_examples.f kj4).bind fun t189 => (some t189)) else (some false)) else (some false)) else (some false))))))) else (none)) = some r := by first | (rw [hji12] at H; exact H) | (simp only [hji12] at H ⊢; exact H)
        by_cases c13 : 0 ≤ (ji12)
        · rw [if_pos c13] at H
          have c13b0 := eq_true c13
          have c13b1 : decide (0 ≤ (ji12)) = true := decide_eq_true c13
          clear c13
          obtain ⟨ji14, hji14⟩ : ∃ j_ : Int, (shl .i64 1 (ji12)) = j_ := ⟨_, rfl⟩
          replace H : (if (ji14) = 0 then (none) else ((bch_Encode.f kj4 (Int.tmod (wrap64 (a0)) (ji14)) a2 a3).bind fun bt181 => ((bch_Encode.f kj4 (Int.tmod (wrap64 (a1)) (ji14)) a2 a3).bind fun bt183 => ((bch_Encode.f kj4 (Go.bits .xor .i64 (Int.tmod (wrap64 (a0)) (ji14)) (Int.tmod (wrap64 (a1)) (ji14))) a2 a3).bind fun bt185 => (if bt181.2 = 0 then ((barscanlaw08_degree.f kj4 a3).bind fun t187 => (if bt183.2 = 0 then (if bt185.2 = 0 then (if bt185.1 = (Go.bits .xor .i64 bt181.1 bt183.1) then (if 0 ≤ (IntKind.u64.wrap (t187)) then (if (shr .i64 bt181.1 (IntKind.u64.wrap (t187))) = (Int.tmod (wrap64 (a0)) (ji14)) then (if bt181.1 ≥ 0 then ((barscanlaw08_examples.f kj4).bind fun t188 => (some t188)) else (some false)) else (some false)) else (none)) else (some false)) else (some false)) else (some false))) else (if bt181.2 = 1 then (if bt183.2 = bt181.2 then (if bt185.2 = bt181.2 then ((barscanlaw08_examples.f kj4).bind fun t189 => (some t189)) else (some false)) else (some false)) else (some false))))))) = some r := by first | (rw [hji14] at H; exact H) | (simp only [hji14] at H ⊢; exact H)
          have hji14_ : (IntKind.i64.wrap (1 * 2 ^ min (ji12).toNat 64)) = ji14 := hji14
          have hji14z : (ji12) ≤ 64 → (IntKind.i64.wrap (1 * 2 ^ (ji12).toNat)) = ji14 := shl_small hji14
          have hji14u : (IntKind.i64.wrap (2 ^ min (ji12).toNat 64)) = ji14 := by have h_ := hji14_; rw [Int.one_mul] at h_; exact h_
          have hji14v : (ji12) ≤ 64 → (IntKind.i64.wrap (2 ^ (ji12).toNat)) = ji14 := fun hle_ => by have h_ := hji14z hle_; rw [Int.one_mul] at h_; exact h_
          have hji14y : (wrap64 (1 * 2 ^ min (ji12).toNat 64)) = ji14 := (i64_w _).symm.trans hji14_
          have hji14x : (ji12) ≤ 64 → (wrap64 (1 * 2 ^ (ji12).toNat)) = ji14 := fun h_ => (i64_w _).symm.trans (hji14z h_)
          by_cases c15 : (ji14) = 0
          · rw [if_pos c15] at H
            exact absurd H (by simp)
          · rw [if_neg c15] at H
            have c15b0 : ((ji14) == 0) = false := beq_eq_false_iff_ne.mpr c15
            have c15b1 : ((ji14) != 0) = true := bne_iff_ne.mpr c15
            have c16b0 := eq_true (of_decide_eq_true (by first | (with_reducible assumption) | assumption) : 0 ≤ (ji12))
            replace H := Option.bind_eq_some_iff.mp H
            obtain ⟨⟨t181, t182⟩, A180, H⟩ := H
            replace H : ((bch_Encode.f kj4 (Int.tmod (wrap64 (a1)) (ji14)) a2 a3).bind fun bt183 => ((bch_Encode.f kj4 (Go.bits .xor .i64 (Int.tmod (wrap64 (a0)) (ji14)) (Int.tmod (wrap64 (a1)) (ji14))) a2 a3).bind fun bt185 => (if t182 = 0 then ((barscanlaw08_degree.f kj4 a3).bind fun t187 => (if bt183.2 = 0 then (if bt185.2 = 0 then (if bt185.1 = (Go.bits .xor .i64 t181 bt183.1) then (if 0 ≤ (IntKind.u64.wrap (t187)) then (if (shr .i64 t181 (IntKind.u64.wrap (t187))) = (Int.tmod (wrap64 (a0)) (ji14)) then (if t181 ≥ 0 then ((barscanlaw08_examples.f kj4).bind fun t188 => (some t188)) else (some false)) else (some false)) else (none)) else (some false)) else (some false)) else (some false))) else (if t182 = 1 then (if bt183.2 = t182 then (if bt185.2 = t182 then ((barscanlaw08_examples.f kj4).bind fun t189 => (some t189)) else (some false)) else (some false)) else (some false))))) = some r := H
            have A18 := Aside0.mk A180
            clear A180
            replace H := Option.bind_eq_some_iff.mp H
            obtain ⟨⟨t183, t184⟩, A190, H⟩ := H
            replace H : ((bch_Encode.f kj4 (Go.bits .xor .i64 (Int.tmod (wrap64 (a0)) (ji14)) (Int.tmod (wrap64 (a1)) (ji14))) a2 a3).bind fun bt185 => (if t182 = 0 then ((barscanlaw08_degree.f kj4 a3).bind fun t187 => (if t184 = 0 then (if bt185.2 = 0 then (if bt185.1 = (Go.bits .xor .i64 t181 t183) then (if 0 ≤ (IntKind.u64.wrap (t187)) then (if (shr .i64 t181 (IntKind.u64.wrap (t187))) = (Int.tmod (wrap64 (a0)) (ji14)) then (if t181 ≥ 0 then ((barscanlaw08_examples.f kj4).bind fun t188 => (some t188)) else (some false)) else (some false)) else (none)) else (some false)) else (some false)) else (some false))) else (if t182 = 1 then (if t184 = t182 then (if bt185.2 = t182 then ((barscanlaw08_examples.f kj4).bind fun t189 => (some t189)) else (some false)) else (some false)) else (some false)))) = some r := H
            have A19 := Aside0.mk A190
            clear A190
            replace H := Option.bind_eq_some_iff.mp H
            obtain ⟨⟨t185, t186⟩, A200, H⟩ := H
            replace H : (if t182 = 0 then ((barscanlaw08_degree.f kj4 a3).bind fun t187 => (if t184 = 0 then (if t186 = 0 then (if t185 = (Go.bits .xor .i64 t181 t183) then (if 0 ≤ (IntKind.u64.wrap (t187)) then (if (shr .i64 t181 (IntKind.u64.wrap (t187))) = (Int.tmod (wrap64 (a0)) (ji14)) then (if t181 ≥ 0 then ((barscanlaw08_examples.f kj4).bind fun t188 => (some t188)) else (some false)) else (some false)) else (none)) else (some false)) else (some false)) else (some false))) else (if t182 = 1 then (if t184 = t182 then (if t186 = t182 then ((barscanlaw08_examples.f kj4).bind fun t189 => (some t189)) else (some false)) else (some false)) else (some false))) = some r := H
            have A20 := Aside0.mk A200
            clear A200
            by_cases c21 : t182 = 0
            · rw [if_pos c21] at H
              have c21b0 : (t182 == 0) = true := beq_iff_eq.mpr c21
              have c21b1 : (t182 != 0) = false := bne_eq_false_iff_eq.mpr c21
              clear c21
              replace H := Option.bind_eq_some_iff.mp H
              obtain ⟨t187, A220, H⟩ := H
              replace H : (if t184 = 0 then (if t186 = 0 then (if t185 = (Go.bits .xor .i64 t181 t183) then (if 0 ≤ (IntKind.u64.wrap (t187)) then (if (shr .i64 t181 (IntKind.u64.wrap (t187))) = (Int.tmod (wrap64 (a0)) (ji14)) then (if t181 ≥ 0 then ((barscanlaw08_examples.f kj4).bind fun t188 => (some t188)) else (some false)) else (some false)) else (none)) else (some false)) else (some false)) else (some false)) = some r := H
              have A22 := Aside0.mk A220
              clear A220
              by_cases c23 : t184 = 0
              · rw [if_pos c23] at H
                have c23b0 : (t184 == 0) = true := beq_iff_eq.mpr c23
                have c23b1 : (t184 != 0) = false := bne_eq_false_iff_eq.mpr c23
                clear c23
                by_cases c24 : t186 = 0
                · rw [if_pos c24] at H
                  have c24b0 : (t186 == 0) = true := beq_iff_eq.mpr c24
                  have c24b1 : (t186 != 0) = false := bne_eq_false_iff_eq.mpr c24
                  clear c24
                  by_cases c25 : t185 = (Go.bits .xor .i64 t181 t183)
                  · rw [if_pos c25] at H
                    have c25b0 : (t185 == (Go.bits .xor .i64 t181 t183)) = true := beq_iff_eq.mpr c25
                    have c25b1 : (t185 != (Go.bits .xor .i64 t181 t183)) = false := bne_eq_false_iff_eq.mpr c25
                    clear c25
                    obtain ⟨ji26, hji26⟩ : ∃ j_ : Int, (IntKind.u64.wrap (t187)) = j_ := ⟨_, rfl⟩
                    replace H : (if 0 ≤ (ji26) then (if (shr .i64 t181 (ji26)) = (Int.tmod (wrap64 (a0)) (ji14)) then (if t181 ≥ 0 then ((barscanlaw08_examples.f kj4).bind fun t188 => (some t188)) else (some false)) else (some false)) else (none)) = some r := by first | (rw [hji26] at H; exact H) | (simp only [hji26] at H ⊢; exact H)
                    (try rw [hji26] at A18)
                    (try rw [hji26] at A19)
                    (try rw [hji26] at A20)
                    (try rw [hji26] at A22)
                    by_cases c27 : 0 ≤ (ji26)
                    · rw [if_pos c27] at H
                      have c27b0 := eq_true c27
                      have c27b1 : decide (0 ≤ (ji26)) = true := decide_eq_true c27
                      clear c27
                      obtain ⟨ji28, hji28⟩ : ∃ j_ : Int, (shr .i64 t181 (ji26)) = j_ := ⟨_, rfl⟩
                      replace H : (if (ji28) = (Int.tmod (wrap64 (a0)) (ji14)) then (if t181 ≥ 0 then ((barscanlaw08_examples.f kj4).bind fun t188 => (some t188)) else (some false)) else (some false)) = some r := by first | (rw [hji28] at H; exact H) | (simp only [hji28] at H ⊢; exact H)
                      (try rw [hji28] at A18)
                      (try rw [hji28] at A19)
                      (try rw [hji28] at A20)
                      (try rw [hji28] at A22)
                      have hji28_ : (t181 / 2 ^ min (ji26).toNat 64) = ji28 := hji28
                      have hji28z : (ji26) ≤ 64 → (t181 / 2 ^ (ji26).toNat) = ji28 := shr_small hji28
                      by_cases c29 : (ji28) = (Int.tmod (wrap64 (a0)) (ji14))
                      · rw [if_pos c29] at H
                        have c29b0 : ((ji28) == (Int.tmod (wrap64 (a0)) (ji14))) = true := beq_iff_eq.mpr c29
                        have c29b1 : ((ji28) != (Int.tmod (wrap64 (a0)) (ji14))) = false := bne_eq_false_iff_eq.mpr c29
                        clear c29
                        by_cases c30 : t181 ≥ 0
                        · rw [if_pos c30] at H
                          have c30b0 : decide (0 ≤ t181) = true := decide_eq_true c30
                          clear c30
                          replace H := Option.bind_eq_some_iff.mp H
                          obtain ⟨t188, A310, H⟩ := H
                          replace H : (some t188) = some r := H
                          have A31 := Aside0.mk A310
                          clear A310
                          obtain rfl := Option.some.inj H
                          go_wp2_with (first | ((with_reducible refine gate_callee (f := 11) rfl ?_); refine goesL_ (some 53) rfl rfl Try.func11 (by kernel_rfl) rfl #[.int .i64 (Int.tmod (wrap64 (a0)) (ji14)), .int .i64 a2, .int .i64 a3] rfl (by (try simp only [List.map_toArray, List.map_cons, List.map_nil]); first | done | (simp only [hji14]; rfl) | rfl | (simp only [List.length_drop, List.length_take]; rfl)) ?_; (with_reducible refine (bch_Encode.calls kj4 (Int.tmod (wrap64 (a0)) (ji14)) a2 a3 t181 t182 _ A18.out).mono ?_); rintro e w' ⟨rfl, ⟨nd, rfl⟩⟩; refine ⟨_, rfl, ?_⟩) | ((with_reducible refine gate_callee (f := 11) rfl ?_); refine goesL_ (some 60) rfl rfl Try.func11 (by kernel_rfl) rfl #[.int .i64 (Int.tmod (wrap64 (a1)) (ji14)), .int .i64 a2, .int .i64 a3] rfl (by (try simp only [List.map_toArray, List.map_cons, List.map_nil]); first | done | (simp only [hji14]; rfl) | rfl | (simp only [List.length_drop, List.length_take]; rfl)) ?_; (with_reducible refine (bch_Encode.calls kj4 (Int.tmod (wrap64 (a1)) (ji14)) a2 a3 t183 t184 _ A19.out).mono ?_); rintro e w' ⟨rfl, ⟨nd, rfl⟩⟩; refine ⟨_, rfl, ?_⟩) | ((with_reducible refine gate_callee (f := 11) rfl ?_); refine goesL_ (some 69) rfl rfl Try.func11 (by kernel_rfl) rfl #[.int .i64 (Go.bits .xor .i64 (Int.tmod (wrap64 (a0)) (ji14)) (Int.tmod (wrap64 (a1)) (ji14))), .int .i64 a2, .int .i64 a3] rfl (by (try simp only [List.map_toArray, List.map_cons, List.map_nil]); first | done | (simp only [hji14]; rfl) | rfl | (simp only [List.length_drop, List.length_take]; rfl)) ?_; (with_reducible refine (bch_Encode.calls kj4 (Go.bits .xor .i64 (Int.tmod (wrap64 (a0)) (ji14)) (Int.tmod (wrap64 (a1)) (ji14))) a2 a3 t185 t186 _ A20.out).mono ?_); rintro e w' ⟨rfl, ⟨nd, rfl⟩⟩; refine ⟨_, rfl, ?_⟩) | ((with_reducible refine gate_callee (f := 18) rfl ?_); refine goesL_ (some 90) rfl rfl Try.func18 (by kernel_rfl) rfl #[.int .i64 a3] rfl (by (try simp only [List.map_toArray, List.map_cons, List.map_nil]); first | done | rfl | (simp only [List.length_drop, List.length_take]; rfl)) ?_; (with_reducible refine (barscanlaw08_degree.calls kj4 a3 t187 _ A22.out).mono ?_); rintro e w' ⟨rfl, ⟨nd, rfl⟩⟩; refine ⟨_, rfl, ?_⟩) | (go_at_call 15; (with_reducible refine (barscanlaw08_examples.calls kj4  t188 _ A31.out).mono ?_); rintro e w32 ⟨rfl, hb⟩; have n0_ := Aside0.mk (below_step (by repeat (first | (with_reducible first | exact HB.out | apply below_alloc | apply pw_below_drewN | apply below_drew1) | exact HB.out)) hb); clear HB; have HB := n0_; clear n0_; (try clear hb); (try clear hb2); (try clear hk); (try clear hi)))
                          go_ret
                          exact ⟨by first | rfl | (simp [errW_none, errW_some] <;> rfl) | (simp only [← hji12, ← hji14, ← hji26, ← hji28]; first | rfl | (simp [errW_none, errW_some] <;> rfl)) | (simp [*, errW_none, errW_some] <;> rfl), by repeat (first | (with_reducible first | exact HB.out | apply below_alloc | apply pw_below_drewN | apply below_drew1) | exact HB.out)⟩
                        · rw [if_neg c30] at H
                          have c30b0 : decide (0 ≤ t181) = false := decide_eq_false c30
                          clear c30
                          obtain rfl := Option.some.inj H
                          go_wp2_with (first | ((with_reducible refine gate_callee (f := 11) rfl ?_); refine goesL_ (some 53) rfl rfl Try.func11 (by kernel_rfl) rfl #[.int .i64 (Int.tmod (wrap64 (a0)) (ji14)), .int .i64 a2, .int .i64 a3] rfl (by (try simp only [List.map_toArray, List.map_cons, List.map_nil]); first | done | (simp only [hji14]; rfl) | rfl | (simp only [List.length_drop, List.length_take]; rfl)) ?_; (with_reducible refine (bch_Encode.calls kj4 (Int.tmod (wrap64 (a0)) (ji14)) a2 a3 t181 t182 _ A18.out).mono ?_); rintro e w' ⟨rfl, ⟨nd, rfl⟩⟩; refine ⟨_, rfl, ?_⟩) | ((with_reducible refine gate_callee (f := 11) rfl ?_); refine goesL_ (some 60) rfl rfl Try.func11 (by kernel_rfl) rfl #[.int .i64 (Int.tmod (wrap64 (a1)) (ji14)), .int .i64 a2, .int .i64 a3] rfl (by (try simp only [List.map_toArray, List.map_cons, List.map_nil]); first | done | (simp only [hji14]; rfl) | rfl | (simp only [List.length_drop, List.length_take]; rfl)) ?_; (with_reducible refine (bch_Encode.calls kj4 (Int.tmod (wrap64 (a1)) (ji14)) a2 a3 t183 t184 _ A19.out).mono ?_); rintro e w' ⟨rfl, ⟨nd, rfl⟩⟩; refine ⟨_, rfl, ?_⟩) | ((with_reducible refine gate_callee (f := 11) rfl ?_); refine goesL_ (some 69) rfl rfl Try.func11 (by kernel_rfl) rfl #[.int .i64 (Go.bits .xor .i64 (Int.tmod (wrap64 (a0)) (ji14)) (Int.tmod (wrap64 (a1)) (ji14))), .int .i64 a2, .int .i64 a3] rfl (by (try simp only [List.map_toArray, List.map_cons, List.map_nil]); first | done | (simp only [hji14]; rfl) | rfl | (simp only [List.length_drop, List.length_take]; rfl)) ?_; (with_reducible refine (bch_Encode.calls kj4 (Go.bits .xor .i64 (Int.tmod (wrap64 (a0)) (ji14)) (Int.tmod (wrap64 (a1)) (ji14))) a2 a3 t185 t186 _ A20.out).mono ?_); rintro e w' ⟨rfl, ⟨nd, rfl⟩⟩; refine ⟨_, rfl, ?_⟩) | ((with_reducible refine gate_callee (f := 18) rfl ?_); refine goesL_ (some 90) rfl rfl Try.func18 (by kernel_rfl) rfl #[.int .i64 a3] rfl (by (try simp only [List.map_toArray, List.map_cons, List.map_nil]); first | done | rfl | (simp only [List.length_drop, List.length_take]; rfl)) ?_; (with_reducible refine (barscanlaw08_degree.calls kj4 a3 t187 _ A22.out).mono ?_); rintro e w' ⟨rfl, ⟨nd, rfl⟩⟩; refine ⟨_, rfl, ?_⟩))
                          go_ret
                          exact ⟨by first | rfl | (simp [errW_none, errW_some] <;> rfl) | (simp only [← hji12, ← hji14, ← hji26, ← hji28]; first | rfl | (simp [errW_none, errW_some] <;> rfl)) | (simp [*, errW_none, errW_some] <;> rfl), by repeat (first | (with_reducible first | exact HB.out | apply below_alloc | apply pw_below_drewN | apply below_drew1) | exact HB.out)⟩
                      · rw [if_neg c29] at H
                        have c29b0 : ((ji28) == (Int.tmod (wrap64 (a0)) (ji14))) = false := beq_eq_false_iff_ne.mpr c29
                        have c29b1 : ((ji28) != (Int.tmod (wrap64 (a0)) (ji14))) = true := bne_iff_ne.mpr c29
                        obtain rfl := Option.some.inj H
                        go_wp2_with (first | ((with_reducible refine gate_callee (f := 11) rfl ?_); refine goesL_ (some 53) rfl rfl Try.func11 (by kernel_rfl) rfl #[.int .i64 (Int.tmod (wrap64 (a0)) (ji14)), .int .i64 a2, .int .i64 a3] rfl (by (try simp only [List.map_toArray, List.map_cons, List.map_nil]); first | done | (simp only [hji14]; rfl) | rfl | (simp only [List.length_drop, List.length_take]; rfl)) ?_; (with_reducible refine (bch_Encode.calls kj4 (Int.tmod (wrap64 (a0)) (ji14)) a2 a3 t181 t182 _ A18.out).mono ?_); rintro e w' ⟨rfl, ⟨nd, rfl⟩⟩; refine ⟨_, rfl, ?_⟩) | ((with_reducible refine gate_callee (f := 11) rfl ?_); refine goesL_ (some 60) rfl rfl Try.func11 (by kernel_rfl) rfl #[.int .i64 (Int.tmod (wrap64 (a1)) (ji14)), .int .i64 a2, .int .i64 a3] rfl (by (try simp only [List.map_toArray, List.map_cons, List.map_nil]); first | done | (simp only [hji14]; rfl) | rfl | (simp only [List.length_drop, List.length_take]; rfl)) ?_; (with_reducible refine (bch_Encode.calls kj4 (Int.tmod (wrap64 (a1)) (ji14)) a2 a3 t183 t184 _ A19.out).mono ?_); rintro e w' ⟨rfl, ⟨nd, rfl⟩⟩; refine ⟨_, rfl, ?_⟩) | ((with_reducible refine gate_callee (f := 11) rfl ?_); refine goesL_ (some 69) rfl rfl Try.func11 (by kernel_rfl) rfl #[.int .i64 (Go.bits .xor .i64 (Int.tmod (wrap64 (a0)) (ji14)) (Int.tmod (wrap64 (a1)) (ji14))), .int .i64 a2, .int .i64 a3] rfl (by (try simp only [List.map_toArray, List.map_cons, List.map_nil]); first | done | (simp only [hji14]; rfl) | rfl | (simp only [List.length_drop, List.length_take]; rfl)) ?_; (with_reducible refine (bch_Encode.calls kj4 (Go.bits .xor .i64 (Int.tmod (wrap64 (a0)) (ji14)) (Int.tmod (wrap64 (a1)) (ji14))) a2 a3 t185 t186 _ A20.out).mono ?_); rintro e w' ⟨rfl, ⟨nd, rfl⟩⟩; refine ⟨_, rfl, ?_⟩) | ((with_reducible refine gate_callee (f := 18) rfl ?_); refine goesL_ (some 90) rfl rfl Try.func18 (by kernel_rfl) rfl #[.int .i64 a3] rfl (by (try simp only [List.map_toArray, List.map_cons, List.map_nil]); first | done | rfl | (simp only [List.length_drop, List.length_take]; rfl)) ?_; (with_reducible refine (barscanlaw08_degree.calls kj4 a3 t187 _ A22.out).mono ?_); rintro e w' ⟨rfl, ⟨nd, rfl⟩⟩; refine ⟨_, rfl, ?_⟩))
                        go_ret
                        exact ⟨by first | rfl | (simp [errW_none, errW_some] <;> rfl) | (simp only [← hji12, ← hji14, ← hji26, ← hji28]; first | rfl | (simp [errW_none, errW_some] <;> rfl)) | (simp [*, errW_none, errW_some] <;> rfl), by repeat (first | (with_reducible first | exact HB.out | apply below_alloc | apply pw_below_drewN | apply below_drew1) | exact HB.out)⟩
                    · rw [if_neg c27] at H
                      exact absurd H (by simp)
                  · rw [if_neg c25] at H
                    have c25b0 : (t185 == (Go.bits .xor .i64 t181 t183)) = false := beq_eq_false_iff_ne.mpr c25
                    have c25b1 : (t185 != (Go.bits .xor .i64 t181 t183)) = true := bne_iff_ne.mpr c25
                    obtain rfl := Option.some.inj H
                    go_wp2_with (first | ((with_reducible refine gate_callee (f := 11) rfl ?_); refine goesL_ (some 53) rfl rfl Try.func11 (by kernel_rfl) rfl #[.int .i64 (Int.tmod (wrap64 (a0)) (ji14)), .int .i64 a2, .int .i64 a3] rfl (by (try simp only [List.map_toArray, List.map_cons, List.map_nil]); first | done | (simp only [hji14]; rfl) | rfl | (simp only [List.length_drop, List.length_take]; rfl)) ?_; (with_reducible refine (bch_Encode.calls kj4 (Int.tmod (wrap64 (a0)) (ji14)) a2 a3 t181 t182 _ A18.out).mono ?_); rintro e w' ⟨rfl, ⟨nd, rfl⟩⟩; refine ⟨_, rfl, ?_⟩) | ((with_reducible refine gate_callee (f := 11) rfl ?_); refine goesL_ (some 60) rfl rfl Try.func11 (by kernel_rfl) rfl #[.int .i64 (Int.tmod (wrap64 (a1)) (ji14)), .int .i64 a2, .int .i64 a3] rfl (by (try simp only [List.map_toArray, List.map_cons, List.map_nil]); first | done | (simp only [hji14]; rfl) | rfl | (simp only [List.length_drop, List.length_take]; rfl)) ?_; (with_reducible refine (bch_Encode.calls kj4 (Int.tmod (wrap64 (a1)) (ji14)) a2 a3 t183 t184 _ A19.out).mono ?_); rintro e w' ⟨rfl, ⟨nd, rfl⟩⟩; refine ⟨_, rfl, ?_⟩) | ((with_reducible refine gate_callee (f := 11) rfl ?_); refine goesL_ (some 69) rfl rfl Try.func11 (by kernel_rfl) rfl #[.int .i64 (Go.bits .xor .i64 (Int.tmod (wrap64 (a0)) (ji14)) (Int.tmod (wrap64 (a1)) (ji14))), .int .i64 a2, .int .i64 a3] rfl (by (try simp only [List.map_toArray, List.map_cons, List.map_nil]); first | done | (simp only [hji14]; rfl) | rfl | (simp only [List.length_drop, List.length_take]; rfl)) ?_; (with_reducible refine (bch_Encode.calls kj4 (Go.bits .xor .i64 (Int.tmod (wrap64 (a0)) (ji14)) (Int.tmod (wrap64 (a1)) (ji14))) a2 a3 t185 t186 _ A20.out).mono ?_); rintro e w' ⟨rfl, ⟨nd, rfl⟩⟩; refine ⟨_, rfl, ?_⟩) | ((with_reducible refine gate_callee (f := 18) rfl ?_); refine goesL_ (some 90) rfl rfl Try.func18 (by kernel_rfl) rfl #[.int .i64 a3] rfl (by (try simp only [List.map_toArray, List.map_cons, List.map_nil]); first | done | rfl | (simp only [List.length_drop, List.length_take]; rfl)) ?_; (with_reducible refine (barscanlaw08_degree.calls kj4 a3 t187 _ A22.out).mono ?_); rintro e w' ⟨rfl, ⟨nd, rfl⟩⟩; refine ⟨_, rfl, ?_⟩))
                    go_ret
                    exact ⟨by first | rfl | (simp [errW_none, errW_some] <;> rfl) | (simp only [← hji12, ← hji14]; first | rfl | (simp [errW_none, errW_some] <;> rfl)) | (simp [*, errW_none, errW_some] <;> rfl), by repeat (first | (with_reducible first | exact HB.out | apply below_alloc | apply pw_below_drewN | apply below_drew1) | exact HB.out)⟩
                · rw [if_neg c24] at H
                  have c24b0 : (t186 == 0) = false := beq_eq_false_iff_ne.mpr c24
                  have c24b1 : (t186 != 0) = true := bne_iff_ne.mpr c24
                  obtain rfl := Option.some.inj H
                  go_wp2_with (first | ((with_reducible refine gate_callee (f := 11) rfl ?_); refine goesL_ (some 53) rfl rfl Try.func11 (by kernel_rfl) rfl #[.int .i64 (Int.tmod (wrap64 (a0)) (ji14)), .int .i64 a2, .int .i64 a3] rfl (by (try simp only [List.map_toArray, List.map_cons, List.map_nil]); first | done | (simp only [hji14]; rfl) | rfl | (simp only [List.length_drop, List.length_take]; rfl)) ?_; (with_reducible refine (bch_Encode.calls kj4 (Int.tmod (wrap64 (a0)) (ji14)) a2 a3 t181 t182 _ A18.out).mono ?_); rintro e w' ⟨rfl, ⟨nd, rfl⟩⟩; refine ⟨_, rfl, ?_⟩) | ((with_reducible refine gate_callee (f := 11) rfl ?_); refine goesL_ (some 60) rfl rfl Try.func11 (by kernel_rfl) rfl #[.int .i64 (Int.tmod (wrap64 (a1)) (ji14)), .int .i64 a2, .int .i64 a3] rfl (by (try simp only [List.map_toArray, List.map_cons, List.map_nil]); first | done | (simp only [hji14]; rfl) | rfl | (simp only [List.length_drop, List.length_take]; rfl)) ?_; (with_reducible refine (bch_Encode.calls kj4 (Int.tmod (wrap64 (a1)) (ji14)) a2 a3 t183 t184 _ A19.out).mono ?_); rintro e w' ⟨rfl, ⟨nd, rfl⟩⟩; refine ⟨_, rfl, ?_⟩) | ((with_reducible refine gate_callee (f := 11) rfl ?_); refine goesL_ (some 69) rfl rfl Try.func11 (by kernel_rfl) rfl #[.int .i64 (Go.bits .xor .i64 (Int.tmod (wrap64 (a0)) (ji14)) (Int.tmod (wrap64 (a1)) (ji14))), .int .i64 a2, .int .i64 a3] rfl (by (try simp only [List.map_toArray, List.map_cons, List.map_nil]); first | done | (simp only [hji14]; rfl) | rfl | (simp only [List.length_drop, List.length_take]; rfl)) ?_; (with_reducible refine (bch_Encode.calls kj4 (Go.bits .xor .i64 (Int.tmod (wrap64 (a0)) (ji14)) (Int.tmod (wrap64 (a1)) (ji14))) a2 a3 t185 t186 _ A20.out).mono ?_); rintro e w' ⟨rfl, ⟨nd, rfl⟩⟩; refine ⟨_, rfl, ?_⟩) | ((with_reducible refine gate_callee (f := 18) rfl ?_); refine goesL_ (some 90) rfl rfl Try.func18 (by kernel_rfl) rfl #[.int .i64 a3] rfl (by (try simp only [List.map_toArray, List.map_cons, List.map_nil]); first | done | rfl | (simp only [List.length_drop, List.length_take]; rfl)) ?_; (with_reducible refine (barscanlaw08_degree.calls kj4 a3 t187 _ A22.out).mono ?_); rintro e w' ⟨rfl, ⟨nd, rfl⟩⟩; refine ⟨_, rfl, ?_⟩))
                  go_ret
                  exact ⟨by first | rfl | (simp [errW_none, errW_some] <;> rfl) | (simp only [← hji12, ← hji14]; first | rfl | (simp [errW_none, errW_some] <;> rfl)) | (simp [*, errW_none, errW_some] <;> rfl), by repeat (first | (with_reducible first | exact HB.out | apply below_alloc | apply pw_below_drewN | apply below_drew1) | exact HB.out)⟩
              · rw [if_neg c23] at H
                have c23b0 : (t184 == 0) = false := beq_eq_false_iff_ne.mpr c23
                have c23b1 : (t184 != 0) = true := bne_iff_ne.mpr c23
                obtain rfl := Option.some.inj H
                go_wp2_with (first | ((with_reducible refine gate_callee (f := 11) rfl ?_); refine goesL_ (some 53) rfl rfl Try.func11 (by kernel_rfl) rfl #[.int .i64 (Int.tmod (wrap64 (a0)) (ji14)), .int .i64 a2, .int .i64 a3] rfl (by (try simp only [List.map_toArray, List.map_cons, List.map_nil]); first | done | (simp only [hji14]; rfl) | rfl | (simp only [List.length_drop, List.length_take]; rfl)) ?_; (with_reducible refine (bch_Encode.calls kj4 (Int.tmod (wrap64 (a0)) (ji14)) a2 a3 t181 t182 _ A18.out).mono ?_); rintro e w' ⟨rfl, ⟨nd, rfl⟩⟩; refine ⟨_, rfl, ?_⟩) | ((with_reducible refine gate_callee (f := 11) rfl ?_); refine goesL_ (some 60) rfl rfl Try.func11 (by kernel_rfl) rfl #[.int .i64 (Int.tmod (wrap64 (a1)) (ji14)), .int .i64 a2, .int .i64 a3] rfl (by (try simp only [List.map_toArray, List.map_cons, List.map_nil]); first | done | (simp only [hji14]; rfl) | rfl | (simp only [List.length_drop, List.length_take]; rfl)) ?_; (with_reducible refine (bch_Encode.calls kj4 (Int.tmod (wrap64 (a1)) (ji14)) a2 a3 t183 t184 _ A19.out).mono ?_); rintro e w' ⟨rfl, ⟨nd, rfl⟩⟩; refine ⟨_, rfl, ?_⟩) | ((with_reducible refine gate_callee (f := 11) rfl ?_); refine goesL_ (some 69) rfl rfl Try.func11 (by kernel_rfl) rfl #[.int .i64 (Go.bits .xor .i64 (Int.tmod (wrap64 (a0)) (ji14)) (Int.tmod (wrap64 (a1)) (ji14))), .int .i64 a2, .int .i64 a3] rfl (by (try simp only [List.map_toArray, List.map_cons, List.map_nil]); first | done | (simp only [hji14]; rfl) | rfl | (simp only [List.length_drop, List.length_take]; rfl)) ?_; (with_reducible refine (bch_Encode.calls kj4 (Go.bits .xor .i64 (Int.tmod (wrap64 (a0)) (ji14)) (Int.tmod (wrap64 (a1)) (ji14))) a2 a3 t185 t186 _ A20.out).mono ?_); rintro e w' ⟨rfl, ⟨nd, rfl⟩⟩; refine ⟨_, rfl, ?_⟩) | ((with_reducible refine gate_callee (f := 18) rfl ?_); refine goesL_ (some 90) rfl rfl Try.func18 (by kernel_rfl) rfl #[.int .i64 a3] rfl (by (try simp only [List.map_toArray, List.map_cons, List.map_nil]); first | done | rfl | (simp only [List.length_drop, List.length_take]; rfl)) ?_; (with_reducible refine (barscanlaw08_degree.calls kj4 a3 t187 _ A22.out).mono ?_); rintro e w' ⟨rfl, ⟨nd, rfl⟩⟩; refine ⟨_, rfl, ?_⟩))
                go_ret
                exact ⟨by first | rfl | (simp [errW_none, errW_some] <;> rfl) | (simp only [← hji12, ← hji14]; first | rfl | (simp [errW_none, errW_some] <;> rfl)) | (simp [*, errW_none, errW_some] <;> rfl), by repeat (first | (with_reducible first | exact HB.out | apply below_alloc | apply pw_below_drewN | apply below_drew1) | exact HB.out)⟩
            · rw [if_neg c21] at H
              have c21b0 : (t182 == 0) = false := beq_eq_false_iff_ne.mpr c21
              have c21b1 : (t182 != 0) = true := bne_iff_ne.mpr c21
              by_cases c33 : t182 = 1
              · rw [if_pos c33] at H
                have c33b0 : (t182 == 1) = true := beq_iff_eq.mpr c33
                have c33b1 : (t182 != 1) = false := bne_eq_false_iff_eq.mpr c33
                clear c33
                by_cases c34 : t184 = t182
                · rw [if_pos c34] at H
                  have c34b0 : (t184 == t182) = true := beq_iff_eq.mpr c34
                  have c34b1 : (t184 != t182) = false := bne_eq_false_iff_eq.mpr c34
                  clear c34
                  by_cases c35 : t186 = t182
                  · rw [if_pos c35] at H
                    have c35b0 : (t186 == t182) = true := beq_iff_eq.mpr c35
                    have c35b1 : (t186 != t182) = false := bne_eq_false_iff_eq.mpr c35
                    clear c35
                    replace H := Option.bind_eq_some_iff.mp H
                    obtain ⟨t189, A360, H⟩ := H
                    replace H : (some t189) = some r := H
                    have A36 := Aside0.mk A360
                    clear A360
                    obtain rfl := Option.some.inj H
                    go_wp2_with (first | ((with_reducible refine gate_callee (f := 11) rfl ?_); refine goesL_ (some 53) rfl rfl Try.func11 (by kernel_rfl) rfl #[.int .i64 (Int.tmod (wrap64 (a0)) (ji14)), .int .i64 a2, .int .i64 a3] rfl (by (try simp only [List.map_toArray, List.map_cons, List.map_nil]); first | done | (simp only [hji14]; rfl) | rfl | (simp only [List.length_drop, List.length_take]; rfl)) ?_; (with_reducible refine (bch_Encode.calls kj4 (Int.tmod (wrap64 (a0)) (ji14)) a2 a3 t181 t182 _ A18.out).mono ?_); rintro e w' ⟨rfl, ⟨nd, rfl⟩⟩; refine ⟨_, rfl, ?_⟩) | ((with_reducible refine gate_callee (f := 11) rfl ?_); refine goesL_ (some 60) rfl rfl Try.func11 (by kernel_rfl) rfl #[.int .i64 (Int.tmod (wrap64 (a1)) (ji14)), .int .i64 a2, .int .i64 a3] rfl (by (try simp only [List.map_toArray, List.map_cons, List.map_nil]); first | done | (simp only [hji14]; rfl) | rfl | (simp only [List.length_drop, List.length_take]; rfl)) ?_; (with_reducible refine (bch_Encode.calls kj4 (Int.tmod (wrap64 (a1)) (ji14)) a2 a3 t183 t184 _ A19.out).mono ?_); rintro e w' ⟨rfl, ⟨nd, rfl⟩⟩; refine ⟨_, rfl, ?_⟩) | ((with_reducible refine gate_callee (f := 11) rfl ?_); refine goesL_ (some 69) rfl rfl Try.func11 (by kernel_rfl) rfl #[.int .i64 (Go.bits .xor .i64 (Int.tmod (wrap64 (a0)) (ji14)) (Int.tmod (wrap64 (a1)) (ji14))), .int .i64 a2, .int .i64 a3] rfl (by (try simp only [List.map_toArray, List.map_cons, List.map_nil]); first | done | (simp only [hji14]; rfl) | rfl | (simp only [List.length_drop, List.length_take]; rfl)) ?_; (with_reducible refine (bch_Encode.calls kj4 (Go.bits .xor .i64 (Int.tmod (wrap64 (a0)) (ji14)) (Int.tmod (wrap64 (a1)) (ji14))) a2 a3 t185 t186 _ A20.out).mono ?_); rintro e w' ⟨rfl, ⟨nd, rfl⟩⟩; refine ⟨_, rfl, ?_⟩) | (go_at_call 15; (with_reducible refine (barscanlaw08_examples.calls kj4  t189 _ A36.out).mono ?_); rintro e w37 ⟨rfl, hb⟩; have n0_ := Aside0.mk (below_step (by repeat (first | (with_reducible first | exact HB.out | apply below_alloc | apply pw_below_drewN | apply below_drew1) | exact HB.out)) hb); clear HB; have HB := n0_; clear n0_; (try clear hb); (try clear hb2); (try clear hk); (try clear hi)))
                    go_ret
                    exact ⟨by first | rfl | (simp [errW_none, errW_some] <;> rfl) | (simp only [← hji12, ← hji14]; first | rfl | (simp [errW_none, errW_some] <;> rfl)) | (simp [*, errW_none, errW_some] <;> rfl), by repeat (first | (with_reducible first | exact HB.out | apply below_alloc | apply pw_below_drewN | apply below_drew1) | exact HB.out)⟩
                  · rw [if_neg c35] at H
                    have c35b0 : (t186 == t182) = false := beq_eq_false_iff_ne.mpr c35
                    have c35b1 : (t186 != t182) = true := bne_iff_ne.mpr c35
                    obtain rfl := Option.some.inj H
                    go_wp2_with (first | ((with_reducible refine gate_callee (f := 11) rfl ?_); refine goesL_ (some 53) rfl rfl Try.func11 (by kernel_rfl) rfl #[.int .i64 (Int.tmod (wrap64 (a0)) (ji14)), .int .i64 a2, .int .i64 a3] rfl (by (try simp only [List.map_toArray, List.map_cons, List.map_nil]); first | done | (simp only [hji14]; rfl) | rfl | (simp only [List.length_drop, List.length_take]; rfl)) ?_; (with_reducible refine (bch_Encode.calls kj4 (Int.tmod (wrap64 (a0)) (ji14)) a2 a3 t181 t182 _ A18.out).mono ?_); rintro e w' ⟨rfl, ⟨nd, rfl⟩⟩; refine ⟨_, rfl, ?_⟩) | ((with_reducible refine gate_callee (f := 11) rfl ?_); refine goesL_ (some 60) rfl rfl Try.func11 (by kernel_rfl) rfl #[.int .i64 (Int.tmod (wrap64 (a1)) (ji14)), .int .i64 a2, .int .i64 a3] rfl (by (try simp only [List.map_toArray, List.map_cons, List.map_nil]); first | done | (simp only [hji14]; rfl) | rfl | (simp only [List.length_drop, List.length_take]; rfl)) ?_; (with_reducible refine (bch_Encode.calls kj4 (Int.tmod (wrap64 (a1)) (ji14)) a2 a3 t183 t184 _ A19.out).mono ?_); rintro e w' ⟨rfl, ⟨nd, rfl⟩⟩; refine ⟨_, rfl, ?_⟩) | ((with_reducible refine gate_callee (f := 11) rfl ?_); refine goesL_ (some 69) rfl rfl Try.func11 (by kernel_rfl) rfl #[.int .i64 (Go.bits .xor .i64 (Int.tmod (wrap64 (a0)) (ji14)) (Int.tmod (wrap64 (a1)) (ji14))), .int .i64 a2, .int .i64 a3] rfl (by (try simp only [List.map_toArray, List.map_cons, List.map_nil]); first | done | (simp only [hji14]; rfl) | rfl | (simp only [List.length_drop, List.length_take]; rfl)) ?_; (with_reducible refine (bch_Encode.calls kj4 (Go.bits .xor .i64 (Int.tmod (wrap64 (a0)) (ji14)) (Int.tmod (wrap64 (a1)) (ji14))) a2 a3 t185 t186 _ A20.out).mono ?_); rintro e w' ⟨rfl, ⟨nd, rfl⟩⟩; refine ⟨_, rfl, ?_⟩))
                    go_ret
                    exact ⟨by first | rfl | (simp [errW_none, errW_some] <;> rfl) | (simp only [← hji12, ← hji14]; first | rfl | (simp [errW_none, errW_some] <;> rfl)) | (simp [*, errW_none, errW_some] <;> rfl), by repeat (first | (with_reducible first | exact HB.out | apply below_alloc | apply pw_below_drewN | apply below_drew1) | exact HB.out)⟩
                · rw [if_neg c34] at H
                  have c34b0 : (t184 == t182) = false := beq_eq_false_iff_ne.mpr c34
                  have c34b1 : (t184 != t182) = true := bne_iff_ne.mpr c34
                  obtain rfl := Option.some.inj H
                  go_wp2_with (first | ((with_reducible refine gate_callee (f := 11) rfl ?_); refine goesL_ (some 53) rfl rfl Try.func11 (by kernel_rfl) rfl #[.int .i64 (Int.tmod (wrap64 (a0)) (ji14)), .int .i64 a2, .int .i64 a3] rfl (by (try simp only [List.map_toArray, List.map_cons, List.map_nil]); first | done | (simp only [hji14]; rfl) | rfl | (simp only [List.length_drop, List.length_take]; rfl)) ?_; (with_reducible refine (bch_Encode.calls kj4 (Int.tmod (wrap64 (a0)) (ji14)) a2 a3 t181 t182 _ A18.out).mono ?_); rintro e w' ⟨rfl, ⟨nd, rfl⟩⟩; refine ⟨_, rfl, ?_⟩) | ((with_reducible refine gate_callee (f := 11) rfl ?_); refine goesL_ (some 60) rfl rfl Try.func11 (by kernel_rfl) rfl #[.int .i64 (Int.tmod (wrap64 (a1)) (ji14)), .int .i64 a2, .int .i64 a3] rfl (by (try simp only [List.map_toArray, List.map_cons, List.map_nil]); first | done | (simp only [hji14]; rfl) | rfl | (simp only [List.length_drop, List.length_take]; rfl)) ?_; (with_reducible refine (bch_Encode.calls kj4 (Int.tmod (wrap64 (a1)) (ji14)) a2 a3 t183 t184 _ A19.out).mono ?_); rintro e w' ⟨rfl, ⟨nd, rfl⟩⟩; refine ⟨_, rfl, ?_⟩) | ((with_reducible refine gate_callee (f := 11) rfl ?_); refine goesL_ (some 69) rfl rfl Try.func11 (by kernel_rfl) rfl #[.int .i64 (Go.bits .xor .i64 (Int.tmod (wrap64 (a0)) (ji14)) (Int.tmod (wrap64 (a1)) (ji14))), .int .i64 a2, .int .i64 a3] rfl (by (try simp only [List.map_toArray, List.map_cons, List.map_nil]); first | done | (simp only [hji14]; rfl) | rfl | (simp only [List.length_drop, List.length_take]; rfl)) ?_; (with_reducible refine (bch_Encode.calls kj4 (Go.bits .xor .i64 (Int.tmod (wrap64 (a0)) (ji14)) (Int.tmod (wrap64 (a1)) (ji14))) a2 a3 t185 t186 _ A20.out).mono ?_); rintro e w' ⟨rfl, ⟨nd, rfl⟩⟩; refine ⟨_, rfl, ?_⟩))
                  go_ret
                  exact ⟨by first | rfl | (simp [errW_none, errW_some] <;> rfl) | (simp only [← hji12, ← hji14]; first | rfl | (simp [errW_none, errW_some] <;> rfl)) | (simp [*, errW_none, errW_some] <;> rfl), by repeat (first | (with_reducible first | exact HB.out | apply below_alloc | apply pw_below_drewN | apply below_drew1) | exact HB.out)⟩
              · rw [if_neg c33] at H
                have c33b0 : (t182 == 1) = false := beq_eq_false_iff_ne.mpr c33
                have c33b1 : (t182 != 1) = true := bne_iff_ne.mpr c33
                obtain rfl := Option.some.inj H
                go_wp2_with (first | ((with_reducible refine gate_callee (f := 11) rfl ?_); refine goesL_ (some 53) rfl rfl Try.func11 (by kernel_rfl) rfl #[.int .i64 (Int.tmod (wrap64 (a0)) (ji14)), .int .i64 a2, .int .i64 a3] rfl (by (try simp only [List.map_toArray, List.map_cons, List.map_nil]); first | done | (simp only [hji14]; rfl) | rfl | (simp only [List.length_drop, List.length_take]; rfl)) ?_; (with_reducible refine (bch_Encode.calls kj4 (Int.tmod (wrap64 (a0)) (ji14)) a2 a3 t181 t182 _ A18.out).mono ?_); rintro e w' ⟨rfl, ⟨nd, rfl⟩⟩; refine ⟨_, rfl, ?_⟩) | ((with_reducible refine gate_callee (f := 11) rfl ?_); refine goesL_ (some 60) rfl rfl Try.func11 (by kernel_rfl) rfl #[.int .i64 (Int.tmod (wrap64 (a1)) (ji14)), .int .i64 a2, .int .i64 a3] rfl (by (try simp only [List.map_toArray, List.map_cons, List.map_nil]); first | done | (simp only [hji14]; rfl) | rfl | (simp only [List.length_drop, List.length_take]; rfl)) ?_; (with_reducible refine (bch_Encode.calls kj4 (Int.tmod (wrap64 (a1)) (ji14)) a2 a3 t183 t184 _ A19.out).mono ?_); rintro e w' ⟨rfl, ⟨nd, rfl⟩⟩; refine ⟨_, rfl, ?_⟩) | ((with_reducible refine gate_callee (f := 11) rfl ?_); refine goesL_ (some 69) rfl rfl Try.func11 (by kernel_rfl) rfl #[.int .i64 (Go.bits .xor .i64 (Int.tmod (wrap64 (a0)) (ji14)) (Int.tmod (wrap64 (a1)) (ji14))), .int .i64 a2, .int .i64 a3] rfl (by (try simp only [List.map_toArray, List.map_cons, List.map_nil]); first | done | (simp only [hji14]; rfl) | rfl | (simp only [List.length_drop, List.length_take]; rfl)) ?_; (with_reducible refine (bch_Encode.calls kj4 (Go.bits .xor .i64 (Int.tmod (wrap64 (a0)) (ji14)) (Int.tmod (wrap64 (a1)) (ji14))) a2 a3 t185 t186 _ A20.out).mono ?_); rintro e w' ⟨rfl, ⟨nd, rfl⟩⟩; refine ⟨_, rfl, ?_⟩))
                go_ret
                exact ⟨by first | rfl | (simp [errW_none, errW_some] <;> rfl) | (simp only [← hji12, ← hji14]; first | rfl | (simp [errW_none, errW_some] <;> rfl)) | (simp [*, errW_none, errW_some] <;> rfl), by repeat (first | (with_reducible first | exact HB.out | apply below_alloc | apply pw_below_drewN | apply below_drew1) | exact HB.out)⟩
        · rw [if_neg c13] at H
          exact absurd H (by simp)

/-- THE ONE PURE STATEMENT of barscanlaw08_BchLinear: yours. -/
def barscanlaw08_BchLinear.Pure : Prop := ∀ (a0 : Int) (a1 : Int) (a2 : Int) (a3 : Int), (Lit.int .u16 a0).wf = true → (Lit.int .u16 a1).wf = true → (Lit.int .i64 a2).wf = true → (Lit.int .i64 a3).wf = true → ∃ k, barscanlaw08_BchLinear.f k a0 a1 a2 a3 = some true
theorem barscanlaw08_BchLinear.walk (P : barscanlaw08_BchLinear.Pure) (a0 : Int) (a1 : Int) (a2 : Int) (a3 : Int) (w : World) (w0 : (Lit.int .u16 a0).wf = true) (w1 : (Lit.int .u16 a1).wf = true) (w2 : (Lit.int .i64 a2).wf = true) (w3 : (Lit.int .i64 a3).wf = true) :
    Calls Try.prog 5 #[.int .u16 a0, .int .u16 a1, .int .i64 a2, .int .i64 a3] w fun e w' => e = .returned (.bool true) ∧ Below w.heap.size w w' := by
  obtain ⟨k, h⟩ := P a0 a1 a2 a3 w0 w1 w2 w3
  refine (barscanlaw08_BchLinear.calls k a0 a1 a2 a3 true w h).mono ?_
  rintro e w' ⟨rfl, hd⟩
  exact ⟨rfl, hd⟩

/-! ### barscanlaw08_ones: function 19 -/
def barscanlaw08_ones.l0 : Nat → Int → Int → Option (Int)
  | 0, _, _ => none
  | k + 1, x0, x3 => if x0 > 0 then (barscanlaw08_ones.l0 k (wrap64 (Int.tdiv x0 2)) (wrap64 (x3 + (Int.tmod x0 2)))) else (some x3)
def barscanlaw08_ones.f (k : Nat) (a0 : Int) : Option (Int) := barscanlaw08_ones.l0 k a0 0
theorem barscanlaw08_ones.mono_l : ∀ k, (∀ y0 y1, LeO (barscanlaw08_ones.l0 k y0 y1) (barscanlaw08_ones.l0 (k + 1) y0 y1))
  | 0 => fun _ _ r h => by simp [barscanlaw08_ones.l0] at h
  | k + 1 => by
    have ih0 := barscanlaw08_ones.mono_l k
    · intro y0 y1
      unfold barscanlaw08_ones.l0
      repeat' first
      | (with_reducible exact ih0 _ _)
      | (with_reducible exact LeO.refl _)
      | (with_reducible exact LeO.none _)
      | (with_reducible refine LeO.ite ?_ ?_)
      | (with_reducible refine LeO.bind ?_ (fun _ => ?_))
      | exact ih0 _ _
      | exact LeO.none _
      | refine LeO.ite ?_ ?_
      | refine LeO.bind ?_ (fun _ => ?_)
theorem barscanlaw08_ones.mono : ∀ a0 k, LeO (barscanlaw08_ones.f k a0) (barscanlaw08_ones.f (k + 1) a0) := by
  intro a0 k
  have ih0 := barscanlaw08_ones.mono_l k
  unfold barscanlaw08_ones.f
  repeat' first
      | (with_reducible exact ih0 _ _)
      | (with_reducible exact LeO.refl _)
      | (with_reducible exact LeO.none _)
      | (with_reducible refine LeO.ite ?_ ?_)
      | (with_reducible refine LeO.bind ?_ (fun _ => ?_))
      | exact ih0 _ _
      | exact LeO.none _
      | refine LeO.ite ?_ ?_
      | refine LeO.bind ?_ (fun _ => ?_)
set_option maxHeartbeats 8000000 in
set_option maxRecDepth 100000 in
theorem barscanlaw08_ones.calls (k : Nat) (a0 : Int) (r : Int) (w : World) (h : barscanlaw08_ones.f k a0 = some r) :
    Calls Try.prog 19 #[.int .i64 a0] w fun e w' => e = .returned (.int .i64 r) ∧ Drawn0 w w' := by
  have H : (barscanlaw08_ones.l0 k a0 0) = some r := h
  clear h
  have H' := Aside0.mk H
  clear H
  go_enter Try.func19, Try.ntmps19
  go_wp2
  go_loopg [0, 3] k (fun kq v0 v3 w' => ∃ (x0_1 : Int) (x3_1 : Int), v0 = .int .i64 x0_1 ∧ v3 = .int .i64 x3_1 ∧ Aside0 (barscanlaw08_ones.l0 kq x0_1 x3_1 = some r) ∧ Aside0 (kq ≤ k) ∧ Drawn0 w w')
  case atStart => exact ⟨(a0), (0), (by first | rfl | (simp; done) | (simp [*]; done)), (by first | rfl | (simp; done) | (simp [*]; done)), H', ⟨Nat.le_refl _⟩, by repeat (first | exact Drawn0.refl _ | apply Drawn0.step)⟩
  case round =>
    clear H'
    try clear c1
    obtain ⟨x0_1, x3_1, rfl, rfl, HA, HK1, ⟨m1, rfl⟩⟩ := hrel
    cases gk with
    | zero => exact absurd HA.out (by simp [barscanlaw08_ones.l0])
    | succ k1 =>
      have H := HA.out
      clear HA
      simp only [barscanlaw08_ones.l0] at H
      by_cases c2 : x0_1 > 0
      · rw [if_pos c2] at H
        have c2b0 : decide (0 < x0_1) = true := decide_eq_true c2
        clear c2
        have H' := Aside0.mk H
        clear H
        go_wp2
        go_roundg k1
        case measure => have := HK1.out; omega
        case rel => exact ⟨(wrap64 (Int.tdiv x0_1 2)), (wrap64 (x3_1 + (Int.tmod x0_1 2))), (by first | rfl | (simp; done) | (simp [*]; done)), (by first | rfl | (simp; done) | (simp [*]; done)), H', ⟨by have := HK1.out; omega⟩, by repeat (first | exact Drawn0.refl _ | apply Drawn0.step)⟩
      · rw [if_neg c2] at H
        have c2b0 : decide (0 < x0_1) = false := decide_eq_false c2
        clear c2
        obtain rfl := Option.some.inj H
        go_wp2
        go_ret
        exact ⟨by first | rfl | (simp; done) | (simp [*]; done), by repeat (first | exact Drawn0.refl _ | apply Drawn0.step)⟩

end Go.Proofs.Ythhdekfnalioiaa.B
