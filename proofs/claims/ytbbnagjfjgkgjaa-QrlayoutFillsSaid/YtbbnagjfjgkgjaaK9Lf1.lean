-- Written by a program of this session out of the kit's print of the loaded functions (see wip/).
import Derived.Test.YtbbnagjfjgkgjaaK9Lx0
import Derived.Test.YtbbnagjfjgkgjaaK9Lx2
import Derived.Test.YtbbnagjfjgkgjaaK9Lx12
import Derived.Test.YtbbnagjfjgkgjaaK9Lx14
import Derived.Test.YtbbnagjfjgkgjaaK9Lx15
import Derived.Test.YtbbnagjfjgkgjaaK9Lx16
import Derived.Test.YtbbnagjfjgkgjaaK9Lv0
import Derived.Test.YtbbnagjfjgkgjaaK9Lf0
namespace Go.Proofs.Ytbbnagjfjgkgjaa.L
open Go.RowKit Go.Proofs.YtbbnagjfjgkgjaaW.PrintWords Go.Proofs.YtbbnagjfjgkgjaaW.PrintLast Go.Proofs.YtbbnagjfjgkgjaaW.PrintMore
attribute [local go_sem] max2_int min2_int max_two min_two max_three min_three max_four min_four   -- for this text's walks alone
set_option linter.unusedVariables false
set_option linter.unusedSimpArgs false

def barscanref20_Fill.l0 : Nat → List Bool → List (S45) → Int → Int → Int → List Bool → Int → Int → List Bool → Option (Int × Int × List Bool × Int)
 | 0, _, _, _, _, _, _, _, _, _ => none
 | k + 1, x11, x14, x16, x236000, x236001, x236002, x252000, x252001, x252002 => if x16 < (x14.length : Int) then (if 0 ≤ x16 then (if x16 < (x11.length : Int) then (if 0 ≤ (wrap64 ((wrap64 (((rd_T45 x14 x16).f1) * x236000)) + ((rd_T45 x14 x16).f0))) then (if (wrap64 ((wrap64 (((rd_T45 x14 x16).f1) * x236000)) + ((rd_T45 x14 x16).f0))) < (x252002.length : Int) then (barscanref20_Fill.l0 k x11 x14 (wrap64 (x16 + 1)) x236000 x236001 x236002 x252000 x252001 (x252002.set ((wrap64 ((wrap64 (((rd_T45 x14 x16).f1) * x236000)) + ((rd_T45 x14 x16).f0))) : Int).toNat (rdOf false x11 x16))) else (none)) else (none)) else (if 0 ≤ (wrap64 ((wrap64 (((rd_T45 x14 x16).f1) * x236000)) + ((rd_T45 x14 x16).f0))) then (if (wrap64 ((wrap64 (((rd_T45 x14 x16).f1) * x236000)) + ((rd_T45 x14 x16).f0))) < (x252002.length : Int) then (barscanref20_Fill.l0 k x11 x14 (wrap64 (x16 + 1)) x236000 x236001 x236002 x252000 x252001 (x252002.set ((wrap64 ((wrap64 (((rd_T45 x14 x16).f1) * x236000)) + ((rd_T45 x14 x16).f0))) : Int).toNat false)) else (none)) else (none))) else (none)) else (some (x252000, x252001, x252002, 0))
def barscanref20_Fill.f (k : Nat) (a0_0 : Int) (a0_1 : Int) (l0_2 : List Bool) (l1 : List Int) : Option (Int × Int × List Bool × Int) := (barscanref20_Version.f a0_0 a0_1 l0_2).bind fun bt237 => (if bt237.2 = 0 then ((barscanref17_Codewords.f k bt237.1).bind fun bt239 => (if (l1.length : Int) = bt239.1 then ((barscanref01_FromWords.f k l1 8).bind fun bt242 => (if bt242.2 = 0 then ((barscanref20_Copy.f a0_0 a0_1 l0_2).bind fun bt246 => ((barscanref20_Path.f k bt237.1).bind fun bt252 => (barscanref20_Fill.l0 k bt242.1 bt252.1 0 a0_0 a0_1 l0_2 bt246.1 bt246.2.1 bt246.2.2))) else (some (0, 0, ([] : List Bool), bt242.2)))) else (some (0, 0, ([] : List Bool), 7)))) else (some (0, 0, ([] : List Bool), bt237.2)))
def barscanref20_Fill.T15 : Bool × List (List Nat × List Nat) := (true, [([], []), ([0], [0]), ([], []), ([], []), ([2, 3], [2, 3]), ([4], [4]), ([5], [5]), ([], []), ([7], [7]), ([6, 8], [6, 8]), ([], []), ([], []), ([10, 11], [10, 11]), ([12], [12]), ([13], [13]), ([9, 14], [9, 14]), ([], []), ([], []), ([17], [17]), ([16, 18], [16, 18]), ([19], [19]), ([20], [20]), ([20], [20]), ([21, 22, 20], [20, 21, 22]), ([23, 20], [20, 23]), ([20, 24], [20, 24]), ([1, 15, 0, 1, 2, 3, 4, 5, 6, 7, 8, 9, 10, 11, 12, 13, 14, 15, 16, 17, 18, 19, 20, 21, 22, 23, 24, 25], [1, 15]), ([26, 25, 20, 0, 1, 2, 3, 4, 5, 6, 7, 8, 9, 10, 11, 12, 13, 14, 15, 16, 17, 18, 19, 20, 21, 22, 23, 24, 25], [25, 26])])
def barscanref20_Fill.B15 : List Nat := [0, 1, 0, 0, 12, 28, 60, 0, 128, 508, 0, 0, 3072, 7168, 15360, 32764, 0, 0, 131072, 458752, 983040, 2031616, 2031616, 8323072, 16711680, 33488896, 67108863, 134217727]
theorem barscanref20_Fill.tab15 : rtab .any (opsOf Try.f31 15) = barscanref20_Fill.T15 := by kernel_rfl
theorem barscanref20_Fill.bits15 : waitsOk barscanref20_Fill.T15.2 barscanref20_Fill.B15 = true := by kernel_rfl
set_option maxHeartbeats 8000000 in
set_option maxRecDepth 100000 in
theorem barscanref20_Fill.calls (k : Nat) (a0_0 : Int) (a0_1 : Int) (A0_2 : Option Addr) (c0_2 : Nat) (l0_2 : List Bool) (A1 : Option Addr) (c1 : Nat) (l1 : List Int) (r1 : Int) (r2 : Int) (r3 : List Bool) (r4 : Int) (w : World) (hr0_2 : Kd.C Kd.bool w A0_2 l0_2.length l0_2) (hc0_2 : l0_2.length ≤ c0_2) (hr1 : Kd.C (Kd.int .i64) w A1 l1.length l1) (hc1 : l1.length ≤ c1) (h : barscanref20_Fill.f k a0_0 a0_1 l0_2 l1 = some (r1, r2, r3, r4)) :
  Calls Try.prog 31 #[.agg #[.int .i64 a0_0, .int .i64 a0_1, .slice A0_2 l0_2.length c0_2], .slice A1 l1.length c1] w fun e w' => ∃ v2_ : Value, e = .returned (.tuple #[.agg #[.int .i64 r1, .int .i64 r2, v2_], .int .i64 r4]) ∧ Kd.R Kd.bool 4 w' w.heap.size (fun _ => True) v2_ r3 ∧ Below w.heap.size w w' := by
 have hu24 := Try.underlying24
 have HR0_2 := Aside0.mk hr0_2
 have HC0_2 := Aside0.mk hc0_2
 clear hr0_2 hc0_2
 have HR1 := Aside0.mk hr1
 have HC1 := Aside0.mk hc1
 clear hr1 hc1
 have HB := Aside0.mk (Below.refl w.heap.size w)
 have H : ((barscanref20_Version.f a0_0 a0_1 l0_2).bind fun bt237 => (if bt237.2 = 0 then ((barscanref17_Codewords.f k bt237.1).bind fun bt239 => (if (l1.length : Int) = bt239.1 then ((barscanref01_FromWords.f k l1 8).bind fun bt242 => (if bt242.2 = 0 then ((barscanref20_Copy.f a0_0 a0_1 l0_2).bind fun bt246 => ((barscanref20_Path.f k bt237.1).bind fun bt252 => (barscanref20_Fill.l0 k bt242.1 bt252.1 0 a0_0 a0_1 l0_2 bt246.1 bt246.2.1 bt246.2.2))) else (some (0, 0, ([] : List Bool), bt242.2)))) else (some (0, 0, ([] : List Bool), 7)))) else (some (0, 0, ([] : List Bool), bt237.2)))) = some (r1, r2, r3, r4) := h
 clear h
 replace H := Option.bind_eq_some_iff.mp H
 obtain ⟨⟨t237, t238⟩, A30, H⟩ := H
 replace H : (if t238 = 0 then ((barscanref17_Codewords.f k t237).bind fun bt239 => (if (l1.length : Int) = bt239.1 then ((barscanref01_FromWords.f k l1 8).bind fun bt242 => (if bt242.2 = 0 then ((barscanref20_Copy.f a0_0 a0_1 l0_2).bind fun bt246 => ((barscanref20_Path.f k t237).bind fun bt252 => (barscanref20_Fill.l0 k bt242.1 bt252.1 0 a0_0 a0_1 l0_2 bt246.1 bt246.2.1 bt246.2.2))) else (some (0, 0, ([] : List Bool), bt242.2)))) else (some (0, 0, ([] : List Bool), 7)))) else (some (0, 0, ([] : List Bool), t238))) = some (r1, r2, r3, r4) := H
 have A3 := Aside0.mk A30
 clear A30
 by_cases c4 : t238 = 0
 ·rw [if_pos c4] at H
  have c4b0 : (t238 == 0) = true := beq_iff_eq.mpr c4
  have c4b1 : (t238 != 0) = false := bne_eq_false_iff_eq.mpr c4
  clear c4
  replace H := Option.bind_eq_some_iff.mp H
  obtain ⟨⟨t239, t240, t241⟩, A50, H⟩ := H
  replace H : (if (l1.length : Int) = t239 then ((barscanref01_FromWords.f k l1 8).bind fun bt242 => (if bt242.2 = 0 then ((barscanref20_Copy.f a0_0 a0_1 l0_2).bind fun bt246 => ((barscanref20_Path.f k t237).bind fun bt252 => (barscanref20_Fill.l0 k bt242.1 bt252.1 0 a0_0 a0_1 l0_2 bt246.1 bt246.2.1 bt246.2.2))) else (some (0, 0, ([] : List Bool), bt242.2)))) else (some (0, 0, ([] : List Bool), 7))) = some (r1, r2, r3, r4) := H
  have A5 := Aside0.mk A50
  clear A50
  by_cases c6 : (l1.length : Int) = t239
  ·rw [if_pos c6] at H
   have c6b0 : ((l1.length : Int) == t239) = true := beq_iff_eq.mpr c6
   have c6b1 : ((l1.length : Int) != t239) = false := bne_eq_false_iff_eq.mpr c6
   clear c6
   replace H := Option.bind_eq_some_iff.mp H
   obtain ⟨⟨t242, t243⟩, A70, H⟩ := H
   replace H : (if t243 = 0 then ((barscanref20_Copy.f a0_0 a0_1 l0_2).bind fun bt246 => ((barscanref20_Path.f k t237).bind fun bt252 => (barscanref20_Fill.l0 k t242 bt252.1 0 a0_0 a0_1 l0_2 bt246.1 bt246.2.1 bt246.2.2))) else (some (0, 0, ([] : List Bool), t243))) = some (r1, r2, r3, r4) := H
   have A7 := Aside0.mk A70
   clear A70
   by_cases c8 : t243 = 0
   ·rw [if_pos c8] at H
    have c8b0 : (t243 == 0) = true := beq_iff_eq.mpr c8
    have c8b1 : (t243 != 0) = false := bne_eq_false_iff_eq.mpr c8
    clear c8
    replace H := Option.bind_eq_some_iff.mp H
    obtain ⟨⟨t246, t247, t248⟩, A90, H⟩ := H
    replace H : ((barscanref20_Path.f k t237).bind fun bt252 => (barscanref20_Fill.l0 k t242 bt252.1 0 a0_0 a0_1 l0_2 t246 t247 t248)) = some (r1, r2, r3, r4) := H
    have A9 := Aside0.mk A90
    clear A90
    replace H := Option.bind_eq_some_iff.mp H
    obtain ⟨⟨t252, t253⟩, A100, H⟩ := H
    replace H : (barscanref20_Fill.l0 k t242 t252 0 a0_0 a0_1 l0_2 t246 t247 t248) = some (r1, r2, r3, r4) := H
    have A10 := Aside0.mk A100
    clear A100
    have H' := Aside0.mk H
    clear H
    go_enter Try.func31, Try.ntmps31
    go_wp2_with (first | ((with_reducible refine gate_dst (N := 2) rfl ?_); refine boxE (N := 2) (cs := #[.int .i64 a0_0, .int .i64 a0_1, .slice A0_2 l0_2.length c0_2]) (t := 24) ?_; intro gb235 hg w11 hbox hb; have BK235 := Aside0.mk (hbox); have GW235 := Aside0.mk ((szA hg HB.out : w.heap.size ≤ gb235)); have GE235 := Aside0.mk ((szA hg HB.out : w.heap.size ≤ gb235)); replace HB := Aside0.mk (below_step (belA HB.out) hb); clear hb hbox hg) | ((with_reducible refine gate_dst (N := 4) rfl ?_); refine boxE (N := 4) (cs := #[.int .i64 0, .int .i64 0, .slice none 0 0]) (t := 24) ?_; intro gb236 hg w12 hbox hb; have BK236 := Aside0.mk (hbox); have GW236 := Aside0.mk ((szA hg HB.out : w.heap.size ≤ gb236)); have GE236 := Aside0.mk ((szA hg HB.out : w.heap.size ≤ gb236)); have NB235_236 := Aside0.mk ((neL hg BK235.out : gb235 ≠ gb236)); have NB236_235 := Aside0.mk ((neG hg BK235.out : gb236 ≠ gb235)); replace BK235 := Aside0.mk (blk_below (g := gb235) (o := .cells #[.int .i64 a0_0, .int .i64 a0_1, .slice A0_2 l0_2.length c0_2] 24 (0, 0)) (blkA BK235.out) hb); replace HB := Aside0.mk (below_step (belA HB.out) hb); clear hb hbox hg; have hnb13 := NB235_236.out; have hnc13 := NB236_235.out; obtain ⟨hcz14_0, hcz14_1, hcz14_2, hfz14_0, hfz14_1, hfz14_2⟩ := bk3 BK235.out) | ((with_reducible refine gate_callee (f := 35) rfl ?_); refine goesL_ (some 19) rfl rfl Try.func35 (by kernel_rfl) rfl #[.agg #[.int .i64 a0_0, .int .i64 a0_1, .slice A0_2 l0_2.length c0_2]] rfl argA ?_; (with_reducible refine (barscanref20_Version.calls a0_0 a0_1 _ _ l0_2 t237 t238 _ ?side1 ?side2 A3.out).mono ?_); (case side1 => exact lowA (Kd.C_below HR0_2.out HB.out)); (case side2 => exact HC0_2.out); rintro e w15 ⟨rfl, hb⟩; refine ⟨_, rfl, ?_⟩; replace BK235 := Aside0.mk (blk_below (g := gb235) (o := .cells #[.int .i64 a0_0, .int .i64 a0_1, .slice A0_2 l0_2.length c0_2] 24 (0, 0)) (blkA BK235.out) hb); replace BK236 := Aside0.mk (blk_below (g := gb236) (o := .cells #[.int .i64 0, .int .i64 0, .slice none 0 0] 24 (0, 0)) (blkA BK236.out) hb); replace HB := Aside0.mk (below_step (belA HB.out) hb); (try clear hb); (try clear hb2); (try clear hk); (try clear hi)) | ((with_reducible refine gate_callee (f := 28) rfl ?_); refine goesL_ (some 28) rfl rfl Try.func28 (by kernel_rfl) rfl #[.int .i64 t237] rfl argA ?_; (with_reducible refine (barscanref17_Codewords.calls k t237 t239 t240 t241 _ A5.out).mono ?_); rintro e w16 ⟨rfl, hb⟩; refine ⟨_, rfl, ?_⟩; replace BK235 := Aside0.mk (blk_below (g := gb235) (o := .cells #[.int .i64 a0_0, .int .i64 a0_1, .slice A0_2 l0_2.length c0_2] 24 (0, 0)) (blkA BK235.out) hb); replace BK236 := Aside0.mk (blk_below (g := gb236) (o := .cells #[.int .i64 0, .int .i64 0, .slice none 0 0] 24 (0, 0)) (blkA BK236.out) hb); replace HB := Aside0.mk (below_step (belA HB.out) hb); (try clear hb); (try clear hb2); (try clear hk); (try clear hi)) | ((with_reducible refine gate_callee (f := 65) rfl ?_); refine goesL_ (some 39) rfl rfl Try.func65 (by kernel_rfl) rfl #[.slice A1 l1.length c1, .int .i64 8] rfl argA ?_; (with_reducible refine (barscanref01_FromWords.calls k _ _ l1 8 t242 t243 _ ?side1 ?side2 A7.out).mono ?_); (case side1 => exact lowA (Kd.C_below HR1.out HB.out)); (case side2 => exact HC1.out); rintro e w17 ⟨v244, rfl, ho0, hb⟩; refine ⟨_, rfl, ?_⟩; have HO245 := Aside0.mk (Kd.R_lower ho0 (below_size (belA HB.out))); replace BK235 := Aside0.mk (blk_below (g := gb235) (o := .cells #[.int .i64 a0_0, .int .i64 a0_1, .slice A0_2 l0_2.length c0_2] 24 (0, 0)) (blkA BK235.out) hb); replace BK236 := Aside0.mk (blk_below (g := gb236) (o := .cells #[.int .i64 0, .int .i64 0, .slice none 0 0] 24 (0, 0)) (blkA BK236.out) hb); replace HB := Aside0.mk (below_step (belA HB.out) hb); (try clear hb); (try clear hb2); (try clear hk); (try clear hi); (try clear ho0); obtain ⟨hcz18_0, hcz18_1, hcz18_2, hfz18_0, hfz18_1, hfz18_2⟩ := bk3 BK235.out) | ((with_reducible refine gate_callee (f := 50) rfl ?_); refine goesL_ (some 47) rfl rfl Try.func50 (by kernel_rfl) rfl #[.agg #[.int .i64 a0_0, .int .i64 a0_1, .slice A0_2 l0_2.length c0_2]] rfl argA ?_; (with_reducible refine (barscanref20_Copy.calls a0_0 a0_1 _ _ l0_2 t246 t247 t248 _ ?side1 ?side2 A9.out).mono ?_); (case side1 => exact lowA (Kd.C_below HR0_2.out HB.out)); (case side2 => exact HC0_2.out); rintro e w19 ⟨v249, rfl, ho0, hb⟩; refine ⟨_, rfl, ?_⟩; have HO250 := Aside0.mk (Kd.R_lower (Kd.R_new' ho0 (Kd.R_lt (rowA HO245.out))) (below_size (belA HB.out))); replace HO245 := Aside0.mk (Kd.R_elder' (rowA HO245.out) (Kd.R_base ho0) hb); replace BK235 := Aside0.mk (blk_below (g := gb235) (o := .cells #[.int .i64 a0_0, .int .i64 a0_1, .slice A0_2 l0_2.length c0_2] 24 (0, 0)) (blkA BK235.out) hb); replace BK236 := Aside0.mk (blk_below (g := gb236) (o := .cells #[.int .i64 0, .int .i64 0, .slice none 0 0] 24 (0, 0)) (blkA BK236.out) hb); replace HB := Aside0.mk (below_step (belA HB.out) hb); (try clear hb); (try clear hb2); (try clear hk); (try clear hi); (try clear ho0)) | ((with_reducible refine gate_dst (N := 13) rfl ?_); refine boxE (N := 13) (cs := #[.int .i64 0, .int .i64 0, .slice none 0 0]) (t := 24) ?_; intro gb251 hg w20 hbox hb; have BK251 := Aside0.mk (hbox); have GW251 := Aside0.mk ((szA hg HB.out : w.heap.size ≤ gb251)); have GE251 := Aside0.mk ((szA hg HB.out : w.heap.size ≤ gb251)); have NB235_251 := Aside0.mk ((neL hg BK235.out : gb235 ≠ gb251)); have NB251_235 := Aside0.mk ((neG hg BK235.out : gb251 ≠ gb235)); have NB236_251 := Aside0.mk ((neL hg BK236.out : gb236 ≠ gb251)); have NB251_236 := Aside0.mk ((neG hg BK236.out : gb251 ≠ gb236)); replace HO245 := Aside0.mk (Kd.R_below (rowA HO245.out) hb); replace HO250 := Aside0.mk (Kd.R_below (rowA HO250.out) hb); replace BK235 := Aside0.mk (blk_below (g := gb235) (o := .cells #[.int .i64 a0_0, .int .i64 a0_1, .slice A0_2 l0_2.length c0_2] 24 (0, 0)) (blkA BK235.out) hb); replace BK236 := Aside0.mk (blk_below (g := gb236) (o := .cells #[.int .i64 0, .int .i64 0, .slice none 0 0] 24 (0, 0)) (blkA BK236.out) hb); replace HB := Aside0.mk (below_step (belA HB.out) hb); clear hb hbox hg; have hnb21 := NB251_235.out; have hnc21 := NB235_251.out; have hnb22 := NB251_236.out; have hnc22 := NB236_251.out; obtain ⟨hcz23_0, hcz23_1, hcz23_2, hfz23_0, hfz23_1, hfz23_2⟩ := bk3 BK251.out; obtain ⟨Ao24, co24, eo24⟩ := Kd.R_slice HO250.out; subst eo24) | ((with_reducible refine gate_callee (f := 26) rfl ?_); refine goesL_ (some 50) rfl rfl Try.func26 (by kernel_rfl) rfl #[.int .i64 t237] rfl argA ?_; (with_reducible refine (barscanref20_Path.calls k t237 t252 t253 _ A10.out).mono ?_); rintro e w25 ⟨v254, rfl, ho0, hb⟩; refine ⟨_, rfl, ?_⟩; have HO255 := Aside0.mk (Kd.R_lower ho0 (below_size (belA HB.out))); replace HO245 := Aside0.mk (Kd.R_below (by (with_reducible repeat (first | apply Kd.R_alloc | apply Kd.R_drewN | apply Kd.R_drew)); exact (Kd.R_mono (Kd.R_far (p := ⟨gb251, 2, none⟩) (Kd.R_far (p := ⟨gb251, 1, none⟩) (Kd.R_far (p := ⟨gb251, 0, none⟩) (Kd.R_types HO245.out BK251.out (by decide)) (fun _ hk => hk.2) (.int .i64 t246)) (fun _ hk => hk.2) (.int .i64 t247)) (fun _ hk => hk.2) (.slice Ao24 t248.length co24)) (fun _ h_ => h_.1))) hb); replace HO250 := Aside0.mk (Kd.R_below (by (with_reducible repeat (first | apply Kd.R_alloc | apply Kd.R_drewN | apply Kd.R_drew)); exact (Kd.R_mono (Kd.R_far (p := ⟨gb251, 2, none⟩) (Kd.R_far (p := ⟨gb251, 1, none⟩) (Kd.R_far (p := ⟨gb251, 0, none⟩) (Kd.R_types HO250.out BK251.out (by decide)) (fun _ hk => hk.2) (.int .i64 t246)) (fun _ hk => hk.2) (.int .i64 t247)) (fun _ hk => hk.2) (.slice Ao24 t248.length co24)) (fun _ h_ => h_.1))) hb); replace BK235 := Aside0.mk (blk_below (g := gb235) (o := .cells #[.int .i64 a0_0, .int .i64 a0_1, .slice A0_2 l0_2.length c0_2] 24 (0, 0)) (blkB BK235.out) hb); replace BK236 := Aside0.mk (blk_below (g := gb236) (o := .cells #[.int .i64 0, .int .i64 0, .slice none 0 0] 24 (0, 0)) (blkB BK236.out) hb); replace BK251 := Aside0.mk (blk_below (g := gb251) (o := .cells #[.int .i64 t246, .int .i64 t247, .slice Ao24 t248.length co24] 24 (0, 0)) (blkB BK251.out) hb); replace HB := Aside0.mk (below_step (belA HB.out) hb); (try clear hb); (try clear hb2); (try clear hk); (try clear hi); (try clear ho0)))
    go_loopg [16] k (fun kq v16 w' => ∃ (x11_1 : List Bool) (x16_1 : Int) (x252002_1 : List Bool) (u252002 : Value), v16 = .int .i64 x16_1 ∧ Aside0 (barscanref20_Fill.l0 kq x11_1 t252 x16_1 a0_0 a0_1 l0_2 t246 t247 x252002_1 = some (r1, r2, r3, r4)) ∧ Aside0 (kq ≤ k) ∧ Aside0 (Kd.R Kd.bool 4 w' w.heap.size (fun k_ => some k_ ≠ (u252002 : Value).ownBlock) v244 x11_1) ∧ Aside0 (Kd.R k45 45 w' w.heap.size (fun _ => True) v254 t252) ∧ Aside0 (Kd.R Kd.bool 4 w' w.heap.size (fun k_ => some k_ ≠ (v244 : Value).ownBlock) u252002 x252002_1) ∧ Aside0 (w'.heap[gb235]? = some (.cells #[.int .i64 a0_0, .int .i64 a0_1, (.slice A0_2 l0_2.length c0_2)] 24 (0, 0))) ∧ Aside0 (w'.heap[gb236]? = some (.cells #[.int .i64 0, .int .i64 0, (.slice none 0 0)] 24 (0, 0))) ∧ Aside0 (w'.heap[gb251]? = some (.cells #[.int .i64 t246, .int .i64 t247, u252002] 24 (0, 0))) ∧ Aside0 (Below w.heap.size w w'))
    case atStart => exact ⟨(t242), (0), (t248), (.slice Ao24 t248.length co24), smpA, H', ⟨Nat.le_refl _⟩, ⟨by (with_reducible repeat (first | apply Kd.R_alloc | apply Kd.R_drewN | apply Kd.R_drew)); exact Kd.R_mono HO245.out (fun _ hk => hk.2)⟩, ⟨rowA HO255.out⟩, ⟨by (with_reducible repeat (first | apply Kd.R_alloc | apply Kd.R_drewN | apply Kd.R_drew)); exact Kd.R_mono HO250.out (fun _ hk => hk.2)⟩, ⟨blkA BK235.out⟩, ⟨blkA BK236.out⟩, ⟨blkA BK251.out⟩, ⟨belA HB.out⟩⟩
    case round =>
     clear H'
     try clear c1
     try clear c2
     try clear p2
     try clear c3
     try clear c4
     try clear c4b0
     try clear c4b1
     try clear c5
     try clear c6
     try clear c6b0
     try clear c6b1
     try clear c8
     try clear c8b0
     try clear c8b1
     try clear c13
     try clear c21
     try clear c22
     try clear hcz14_0
     try clear hcz14_1
     try clear hcz14_2
     try clear hcz18_0
     try clear hcz18_1
     try clear hcz18_2
     try clear hcz23_0
     try clear hcz23_1
     try clear hcz23_2
     try clear hfz14_0
     try clear hfz14_1
     try clear hfz14_2
     try clear hfz18_0
     try clear hfz18_1
     try clear hfz18_2
     try clear hfz23_0
     try clear hfz23_1
     try clear hfz23_2
     obtain ⟨x11_1, x16_1, x252002_1, u252002, rfl, HA, HK1, HO_11, HO_14, HO_252002, BK235, BK236, BK251, HB⟩ := hrel
     cases gk with
     | zero => exact absurd HA.out (by simp [barscanref20_Fill.l0])
     | succ k1 =>
      have H := HA.out
      clear HA
      simp only [barscanref20_Fill.l0] at H
      by_cases c26 : x16_1 < (t252.length : Int)
      ·rw [if_pos c26] at H
       have c26b0 : decide (x16_1 < (t252.length : Int)) = true := decide_eq_true c26
       clear c26
       by_cases c27 : 0 ≤ x16_1
       ·rw [if_pos c27] at H
        have c27b0 : decide (0 ≤ x16_1) = true := decide_eq_true c27
        clear c27
        by_cases c28 : x16_1 < (x11_1.length : Int)
        ·rw [if_pos c28] at H
         have c28b0 : decide (x16_1 < (x11_1.length : Int)) = true := decide_eq_true c28
         clear c28
         obtain ⟨ji29, hji29⟩ : ∃ j_ : Int, (wrap64 ((wrap64 (((rd_T45 t252 x16_1).f1) * a0_0)) + ((rd_T45 t252 x16_1).f0))) = j_ := ⟨_, rfl⟩
         replace H : (if 0 ≤ (ji29) then (if (ji29) < (x252002_1.length : Int) then (barscanref20_Fill.l0 k1 x11_1 t252 (wrap64 (x16_1 + 1)) a0_0 a0_1 l0_2 t246 t247 (x252002_1.set ((ji29) : Int).toNat (rdOf false x11_1 x16_1))) else (none)) else (none)) = some (r1, r2, r3, r4) := by first | (rw [hji29] at H; exact H) | (simp only [hji29] at H ⊢; exact H)
         have hji29w : (IntKind.i64.wrap ((wrap64 (((rd_T45 t252 x16_1).f1) * a0_0)) + ((rd_T45 t252 x16_1).f0))) = ji29 := (i64_w _).trans hji29
         by_cases c30 : 0 ≤ (ji29)
         ·rw [if_pos c30] at H
          have c30b0 : decide (0 ≤ (ji29)) = true := decide_eq_true c30
          clear c30
          by_cases c31 : (ji29) < (x252002_1.length : Int)
          ·rw [if_pos c31] at H
           have c31b0 : decide ((ji29) < (x252002_1.length : Int)) = true := decide_eq_true c31
           clear c31
           obtain ⟨y259, hy259⟩ : ∃ y_ : List Bool, y_ = (x252002_1.set ((ji29) : Int).toNat (rdOf false x11_1 x16_1)) := ⟨_, rfl⟩
           replace H : (barscanref20_Fill.l0 k1 x11_1 t252 (wrap64 (x16_1 + 1)) a0_0 a0_1 l0_2 t246 t247 y259) = some (r1, r2, r3, r4) := by first | (rw [hy259]; with_reducible exact H) | (have H2_ := (Option.bind_some _ _).symm.trans H; rw [hy259]; with_reducible exact H2_) | (have H2_ := (Option.bind_some _ _).symm.trans H; with_reducible exact H2_) | with_reducible exact H | (rw [hy259]; exact H) | exact H
           have Ny259 := Aside0.mk hy259
           clear hy259
           have H' := Aside0.mk H
           clear H
           obtain ⟨Ao33, co33, eo33⟩ := Kd.R_slice HO_14.out
           subst eo33
           try go_wp2
           have n0_ := Aside0.mk (Kd.R_drew HO_11.out)
           have n1_ := Aside0.mk (Kd.R_drew HO_14.out)
           have n2_ := Aside0.mk (Kd.R_drew HO_252002.out)
           have n3_ := Aside0.mk (blk_drew BK235.out)
           have n4_ := Aside0.mk (blk_drew BK236.out)
           have n5_ := Aside0.mk (blk_drew BK251.out)
           have n6_ := Aside0.mk (below_drew1 HB.out)
           clear HO_11
           clear HO_14
           clear HO_252002
           clear BK235
           clear BK236
           clear BK251
           clear HB
           have HO_11 := n0_
           have HO_14 := n1_
           have HO_252002 := n2_
           have BK235 := n3_
           have BK236 := n4_
           have BK251 := n5_
           have HB := n6_
           clear n0_ n1_ n2_ n3_ n4_ n5_ n6_
           have p256 : 0 ≤ (x16_1 : Int) := of_decide_eq_true (by first | (with_reducible assumption) | assumption)
           have q256 : x16_1 < (t252.length : Int) := of_decide_eq_true (by first | (with_reducible assumption) | assumption)
           obtain ⟨ad256, e256, hx256_0, hx256_1⟩ := at_T45 (Kd.R_reads' HO_14.out).2.2 x16_1 p256 q256
           cases e256
           replace p256 := eq_true p256
           replace q256 := eq_true q256
           have p257 : 0 ≤ (x16_1 : Int) := of_decide_eq_true (by first | (with_reducible assumption) | assumption)
           have q257 : x16_1 < (t252.length : Int) := of_decide_eq_true (by first | (with_reducible assumption) | assumption)
           obtain ⟨ad257, e257, hx257_0, hx257_1⟩ := at_T45 (Kd.R_reads' HO_14.out).2.2 x16_1 p257 q257
           obtain rfl : ad256 = ad257 := (by injection e257)
           replace p257 := eq_true p257
           replace q257 := eq_true q257
           obtain ⟨Ao35, co35, eo35⟩ := Kd.R_slice HO_11.out
           (first | subst eo35 | (injection eo35 with f1_ f2_ f3_; have f4_ := f1_.symm; have f5_ := f3_.symm; clear f1_ f2_ f3_; subst f4_; subst f5_))
           have p258 : 0 ≤ (x16_1 : Int) := of_decide_eq_true (by first | (with_reducible assumption) | assumption)
           have q258 : x16_1 < (x11_1.length : Int) := of_decide_eq_true (by first | (with_reducible assumption) | assumption)
           obtain ⟨ad258, e258, hx258_0⟩ := Kd.at_bool (Kd.R_reads' HO_11.out).2.2 x16_1 p258 q258
           cases e258
           replace p258 := eq_true p258
           replace q258 := eq_true q258
           have p32 : 0 ≤ ((ji29) : Int) := of_decide_eq_true (by first | (with_reducible assumption) | assumption)
           have q32 : ((ji29) : Int) < ((x252002_1.length : Int) : Int) := of_decide_eq_true (by first | (with_reducible assumption) | assumption)
           obtain ⟨go32, co32, eo32, gb32, gl32, cl32, HG32⟩ := Kd.R_form HO_252002.out (by omega)
           (first | cases eo32 | (injection eo32 with ea_ en_ ec_; (first | subst ea_ | (injection ea_ with ea_; subst ea_)); subst ec_; clear en_))
           have GB32 := Aside0.mk gb32
           have GG32 := Aside0.mk HG32
           clear gb32 gl32 HG32
           obtain ⟨hx32_0, hf32_0⟩ := Kd.R_celln false HO_252002.out ((ji29) : Int) p32 q32
           replace p32 := eq_true p32
           replace q32 := eq_true q32
           have HP36 := Kd.R_putn HO_252002.out ((ji29) : Int) (rdOf false x11_1 x16_1)
           rw [← Ny259.out] at HP36
           have HQ36 := Aside0.mk HP36
           clear HP36
           refine start_ (n := 28) (S := fun w' => w'.cell? ⟨gb251, 0, none⟩ = some (.int .i64 t246) ∧ w'.cell? ⟨gb251, 1, none⟩ = some (.int .i64 t247) ∧ w'.cell? ⟨gb251, 2, none⟩ = some (.slice (some ⟨go32, 0, none⟩) x252002_1.length co32) ∧ w'.cell? ⟨gb235, 0, none⟩ = some (.int .i64 a0_0) ∧ w'.cell? ⟨gb235, 1, none⟩ = some (.int .i64 a0_1) ∧ w'.cell? ⟨gb235, 2, none⟩ = some (.slice A0_2 l0_2.length c0_2) ∧ w'.cell? (ad256.add ((x16_1).toNat * 2)) = some (.int .i64 ((rd_T45 t252 x16_1).f0)) ∧ w'.cell? ⟨(ad256.add ((x16_1).toNat * 2)).block, (ad256.add ((x16_1).toNat * 2)).off + 1, none⟩ = some (.int .i64 ((rd_T45 t252 x16_1).f1)) ∧ w'.cell? (ad256.add ((x16_1).toNat * 2)) = some (.int .i64 ((rd_T45 t252 x16_1).f0)) ∧ w'.cell? ⟨(ad256.add ((x16_1).toNat * 2)).block, (ad256.add ((x16_1).toNat * 2)).off + 1, none⟩ = some (.int .i64 ((rd_T45 t252 x16_1).f1)) ∧ w'.cell? (ad258.add (x16_1).toNat) = some (.bool (rdOf false x11_1 x16_1))) (ds := [27]) #[false, false, false, false, false, false, false, false, false, false, false, false, false, false, false, false, false, false, false, false, false, false, false, false, false, false, false, false] (by kernel_rfl) rfl rfl ⟨(blk_cell BK251.out 0).trans rfl, (blk_cell BK251.out 1).trans rfl, (blk_cell BK251.out 2).trans rfl, (blk_cell BK235.out 0).trans rfl, (blk_cell BK235.out 1).trans rfl, (blk_cell BK235.out 2).trans rfl, hx256_0, hx256_1, hx257_0, hx257_1, hx258_0⟩ (fun hHeld => ?_); refine with_tabW barscanref20_Fill.tab15 barscanref20_Fill.bits15 (fun HT_ HW_ => ?_)
           generalize wr.drew = w34 at HO_11 HO_14 HO_252002 BK235 BK236 BK251 HB GG32 HQ36 hf32_0 hx256_0 hx256_1 hx257_0 hx257_1 hx258_0 hx32_0 hHeld ⊢
           refine pure_ (i := 0) (N := some 59) (v := ?_) (a' := ?_) #[true, false, false, false, false, false, false, false, false, false, false, false, false, false, false, false, false, false, false, false, false, false, false, false, false, false, false, false] rfl rfl (any_of HT_.out (by kernel_rfl)) (fun _ _ _ h => h) (Or.inl ⟨by rfl, ?_⟩) ?_ ?_
           rotate_left
           ·intro w'
            go_simp
            with_reducible rfl
           rotate_left
           ·simp only [Act.put, List.setIfInBounds_toArray, List.set_cons_zero, List.set_cons_succ, i64_w, i32_w]
            rfl
           refine pure_ (i := 2) (N := some 61) (v := ?_) (a' := ?_) #[true, false, true, false, false, false, false, false, false, false, false, false, false, false, false, false, false, false, false, false, false, false, false, false, false, false, false, false] rfl rfl (any_of HT_.out (by kernel_rfl)) (fun _ _ _ h => h) (Or.inl ⟨by rfl, ?_⟩) ?_ ?_
           rotate_left
           ·intro w'
            go_simp
            with_reducible rfl
           rotate_left
           ·simp only [Act.put, List.setIfInBounds_toArray, List.set_cons_zero, List.set_cons_succ, i64_w, i32_w]
            rfl
           refine pure_ (i := 3) (N := some 62) (v := ?_) (a' := ?_) #[true, false, true, true, false, false, false, false, false, false, false, false, false, false, false, false, false, false, false, false, false, false, false, false, false, false, false, false] rfl rfl (any_of HT_.out (by kernel_rfl)) (fun _ _ _ h => h) (Or.inl ⟨by rfl, ?_⟩) ?_ ?_
           rotate_left
           ·intro w'
            go_simp
            with_reducible rfl
           rotate_left
           ·simp only [Act.put, List.setIfInBounds_toArray, List.set_cons_zero, List.set_cons_succ, i64_w, i32_w]
            rfl
           refine pure_ (i := 4) (N := some 63) (v := ?_) (a' := ?_) #[true, false, true, true, true, false, false, false, false, false, false, false, false, false, false, false, false, false, false, false, false, false, false, false, false, false, false, false] rfl rfl (any_of HT_.out (by kernel_rfl)) (fun _ _ _ h => h) (Or.inl ⟨by rfl, ?_⟩) ?_ ?_
           rotate_left
           ·intro w'
            go_simp
            with_reducible rfl
           rotate_left
           ·simp only [Act.put, List.setIfInBounds_toArray, List.set_cons_zero, List.set_cons_succ, i64_w, i32_w]
            rfl
           refine pure_ (i := 5) (N := some 64) (v := ?_) (a' := ?_) #[true, false, true, true, true, true, false, false, false, false, false, false, false, false, false, false, false, false, false, false, false, false, false, false, false, false, false, false] rfl rfl (any_of HT_.out (by kernel_rfl)) (fun _ _ _ h => h) (Or.inl ⟨by rfl, ?_⟩) ?_ ?_
           rotate_left
           ·intro w'
            go_simp
            with_reducible rfl
           rotate_left
           ·simp only [Act.put, List.setIfInBounds_toArray, List.set_cons_zero, List.set_cons_succ, i64_w, i32_w]
            rfl
           refine pure_ (i := 7) (N := some 66) (v := ?_) (a' := ?_) #[true, false, true, true, true, true, false, true, false, false, false, false, false, false, false, false, false, false, false, false, false, false, false, false, false, false, false, false] rfl rfl (any_of HT_.out (by kernel_rfl)) (fun _ _ _ h => h) (Or.inl ⟨by rfl, ?_⟩) ?_ ?_
           rotate_left
           ·intro w'
            go_simp
            with_reducible rfl
           rotate_left
           ·simp only [Act.put, List.setIfInBounds_toArray, List.set_cons_zero, List.set_cons_succ, i64_w, i32_w]
            rfl
           refine pure_ (i := 10) (N := some 69) (v := ?_) (a' := ?_) #[true, false, true, true, true, true, false, true, false, false, true, false, false, false, false, false, false, false, false, false, false, false, false, false, false, false, false, false] rfl rfl (any_of HT_.out (by kernel_rfl)) (fun _ _ _ h => h) (Or.inl ⟨by rfl, ?_⟩) ?_ ?_
           rotate_left
           ·intro w'
            go_simp
            with_reducible rfl
           rotate_left
           ·simp only [Act.put, List.setIfInBounds_toArray, List.set_cons_zero, List.set_cons_succ, i64_w, i32_w]
            rfl
           refine pure_ (i := 11) (N := some 70) (v := ?_) (a' := ?_) #[true, false, true, true, true, true, false, true, false, false, true, true, false, false, false, false, false, false, false, false, false, false, false, false, false, false, false, false] rfl rfl (any_of HT_.out (by kernel_rfl)) (fun _ _ _ h => h) (Or.inl ⟨by rfl, ?_⟩) ?_ ?_
           rotate_left
           ·intro w'
            go_simp
            with_reducible rfl
           rotate_left
           ·simp only [Act.put, List.setIfInBounds_toArray, List.set_cons_zero, List.set_cons_succ, i64_w, i32_w]
            rfl
           refine pure_ (i := 12) (N := some 71) (v := ?_) (a' := ?_) #[true, false, true, true, true, true, false, true, false, false, true, true, true, false, false, false, false, false, false, false, false, false, false, false, false, false, false, false] rfl rfl (any_of HT_.out (by kernel_rfl)) (fun _ _ _ h => h) (Or.inl ⟨by rfl, ?_⟩) ?_ ?_
           rotate_left
           ·intro w'
            go_simp
            with_reducible rfl
           rotate_left
           ·simp only [Act.put, List.setIfInBounds_toArray, List.set_cons_zero, List.set_cons_succ, i64_w, i32_w]
            rfl
           refine pure_ (i := 13) (N := some 72) (v := ?_) (a' := ?_) #[true, false, true, true, true, true, false, true, false, false, true, true, true, true, false, false, false, false, false, false, false, false, false, false, false, false, false, false] rfl rfl (any_of HT_.out (by kernel_rfl)) (fun _ _ _ h => h) (Or.inl ⟨by rfl, ?_⟩) ?_ ?_
           rotate_left
           ·intro w'
            go_simp
            with_reducible rfl
           rotate_left
           ·simp only [Act.put, List.setIfInBounds_toArray, List.set_cons_zero, List.set_cons_succ, i64_w, i32_w]
            rfl
           refine pure_ (i := 16) (N := some 75) (v := ?_) (a' := ?_) #[true, false, true, true, true, true, false, true, false, false, true, true, true, true, false, false, true, false, false, false, false, false, false, false, false, false, false, false] rfl rfl (any_of HT_.out (by kernel_rfl)) (fun _ _ _ h => h) (Or.inl ⟨by rfl, ?_⟩) ?_ ?_
           rotate_left
           ·intro w'
            go_simp
            with_reducible rfl
           rotate_left
           ·simp only [Act.put, List.setIfInBounds_toArray, List.set_cons_zero, List.set_cons_succ, i64_w, i32_w]
            rfl
           refine pure_ (i := 17) (N := some 76) (v := ?_) (a' := ?_) #[true, false, true, true, true, true, false, true, false, false, true, true, true, true, false, false, true, true, false, false, false, false, false, false, false, false, false, false] rfl rfl (any_of HT_.out (by kernel_rfl)) (fun _ _ _ h => h) (Or.inl ⟨by rfl, ?_⟩) ?_ ?_
           rotate_left
           ·intro w'
            go_simp
            with_reducible rfl
           rotate_left
           ·simp only [Act.put, List.setIfInBounds_toArray, List.set_cons_zero, List.set_cons_succ, i64_w, i32_w]
            rfl
           refine pure_ (i := 18) (N := some 77) (v := ?_) (a' := ?_) #[true, false, true, true, true, true, false, true, false, false, true, true, true, true, false, false, true, true, true, false, false, false, false, false, false, false, false, false] rfl rfl (any_of HT_.out (by kernel_rfl)) (fun _ _ _ h => h) (Or.inl ⟨by rfl, ?_⟩) ?_ ?_
           rotate_left
           ·intro w'
            go_simp
            with_reducible rfl
           rotate_left
           ·simp only [Act.put, List.setIfInBounds_toArray, List.set_cons_zero, List.set_cons_succ, i64_w, i32_w]
            rfl
           refine pure_ (i := 19) (N := some 78) (v := ?_) (a' := ?_) #[true, false, true, true, true, true, false, true, false, false, true, true, true, true, false, false, true, true, true, true, false, false, false, false, false, false, false, false] rfl rfl (any_of HT_.out (by kernel_rfl)) (fun _ _ _ h => h) (Or.inl ⟨by rfl, ?_⟩) ?_ ?_
           rotate_left
           ·intro w'
            go_simp
            with_reducible rfl
           rotate_left
           ·simp only [Act.put, List.setIfInBounds_toArray, List.set_cons_zero, List.set_cons_succ, i64_w, i32_w]
            rfl
           refine pure_ (i := 20) (N := some 79) (v := ?_) (a' := ?_) #[true, false, true, true, true, true, false, true, false, false, true, true, true, true, false, false, true, true, true, true, true, false, false, false, false, false, false, false] rfl rfl (any_of HT_.out (by kernel_rfl)) (fun _ _ _ h => h) (Or.inl ⟨by rfl, ?_⟩) ?_ ?_
           rotate_left
           ·intro w'
            go_simp
            with_reducible rfl
           rotate_left
           ·simp only [Act.put, List.setIfInBounds_toArray, List.set_cons_zero, List.set_cons_succ, i64_w, i32_w]
            rfl
           refine pure_ (i := 21) (N := some 80) (v := ?_) (a' := ?_) #[true, false, true, true, true, true, false, true, false, false, true, true, true, true, false, false, true, true, true, true, true, true, false, false, false, false, false, false] rfl rfl (any_of HT_.out (by kernel_rfl)) (fun _ _ _ h => h) (Or.inl ⟨by rfl, ?_⟩) ?_ ?_
           rotate_left
           ·intro w'
            go_simp
            with_reducible rfl
           rotate_left
           ·simp only [Act.put, List.setIfInBounds_toArray, List.set_cons_zero, List.set_cons_succ, i64_w, i32_w]
            rfl
           refine pure_ (i := 22) (N := some 81) (v := ?_) (a' := ?_) #[true, false, true, true, true, true, false, true, false, false, true, true, true, true, false, false, true, true, true, true, true, true, true, false, false, false, false, false] rfl rfl (any_of HT_.out (by kernel_rfl)) (fun _ _ _ h => h) (Or.inl ⟨by rfl, ?_⟩) ?_ ?_
           rotate_left
           ·intro w'
            go_simp
            with_reducible rfl
           rotate_left
           ·simp only [Act.put, List.setIfInBounds_toArray, List.set_cons_zero, List.set_cons_succ, i64_w, i32_w]
            rfl
           refine pure_ (i := 23) (N := some 82) (v := ?_) (a' := ?_) #[true, false, true, true, true, true, false, true, false, false, true, true, true, true, false, false, true, true, true, true, true, true, true, true, false, false, false, false] rfl rfl (any_of HT_.out (by kernel_rfl)) (fun _ _ _ h => h) (Or.inl ⟨by rfl, ?_⟩) ?_ ?_
           rotate_left
           ·intro w'
            go_simp
            with_reducible rfl
           rotate_left
           ·simp only [Act.put, List.setIfInBounds_toArray, List.set_cons_zero, List.set_cons_succ, i64_w, i32_w]
            rfl
           refine take_ (i := 1) (N := some 60) (v := ?_) (a' := ?_) #[true, true, true, true, true, true, false, true, false, false, true, true, true, true, false, false, true, true, true, true, true, true, true, true, false, false, false, false] rfl rfl (take_ofW HT_.out HW_.out (by kernel_rfl)) (fun _ _ _ h => h) (Or.inl ⟨by rfl, ?_⟩) hHeld ?_ ?_
           rotate_left
           ·rintro w' ⟨s0, s1, s2, s3, s4, s5, s6, s7, s8, s9, s10⟩
            go_simp
            with_reducible rfl
           rotate_left
           ·simp only [Act.put, List.setIfInBounds_toArray, List.set_cons_zero, List.set_cons_succ, i64_w, i32_w]
            rfl
           refine take_ (i := 6) (N := some 65) (v := ?_) (a' := ?_) #[true, true, true, true, true, true, true, true, false, false, true, true, true, true, false, false, true, true, true, true, true, true, true, true, false, false, false, false] rfl rfl (take_ofW HT_.out HW_.out (by kernel_rfl)) (fun _ _ _ h => h) (Or.inl ⟨by rfl, ?_⟩) hHeld ?_ ?_
           rotate_left
           ·rintro w' ⟨s0, s1, s2, s3, s4, s5, s6, s7, s8, s9, s10⟩
            go_simp
            with_reducible rfl
           rotate_left
           ·simp only [Act.put, List.setIfInBounds_toArray, List.set_cons_zero, List.set_cons_succ, i64_w, i32_w]
            rfl
           refine take_ (i := 8) (N := some 67) (v := ?_) (a' := ?_) #[true, true, true, true, true, true, true, true, true, false, true, true, true, true, false, false, true, true, true, true, true, true, true, true, false, false, false, false] rfl rfl (take_ofW HT_.out HW_.out (by kernel_rfl)) (fun _ _ _ h => h) (Or.inl ⟨by rfl, ?_⟩) hHeld ?_ ?_
           rotate_left
           ·rintro w' ⟨s0, s1, s2, s3, s4, s5, s6, s7, s8, s9, s10⟩
            go_simp
            with_reducible rfl
           rotate_left
           ·simp only [Act.put, List.setIfInBounds_toArray, List.set_cons_zero, List.set_cons_succ, i64_w, i32_w]
            rfl
           refine pure_ (i := 9) (N := some 68) (v := ?_) (a' := ?_) #[true, true, true, true, true, true, true, true, true, true, true, true, true, true, false, false, true, true, true, true, true, true, true, true, false, false, false, false] rfl rfl (any_of HT_.out (by kernel_rfl)) (fun _ _ _ h => h) (Or.inl ⟨by rfl, ?_⟩) ?_ ?_
           rotate_left
           ·intro w'
            go_simp
            with_reducible rfl
           rotate_left
           ·simp only [Act.put, List.setIfInBounds_toArray, List.set_cons_zero, List.set_cons_succ, i64_w, i32_w]
            rfl
           refine take_ (i := 14) (N := some 73) (v := ?_) (a' := ?_) #[true, true, true, true, true, true, true, true, true, true, true, true, true, true, true, false, true, true, true, true, true, true, true, true, false, false, false, false] rfl rfl (take_ofW HT_.out HW_.out (by kernel_rfl)) (fun _ _ _ h => h) (Or.inl ⟨by rfl, ?_⟩) hHeld ?_ ?_
           rotate_left
           ·rintro w' ⟨s0, s1, s2, s3, s4, s5, s6, s7, s8, s9, s10⟩
            go_simp
            with_reducible rfl
           rotate_left
           ·simp only [Act.put, List.setIfInBounds_toArray, List.set_cons_zero, List.set_cons_succ, i64_w, i32_w]
            rfl
           refine pure_ (i := 15) (N := some 74) (v := ?_) (a' := ?_) #[true, true, true, true, true, true, true, true, true, true, true, true, true, true, true, true, true, true, true, true, true, true, true, true, false, false, false, false] rfl rfl (any_of HT_.out (by kernel_rfl)) (fun _ _ _ h => h) (Or.inl ⟨by rfl, ?_⟩) ?_ ?_
           rotate_left
           ·intro w'
            go_simp
            with_reducible rfl
           rotate_left
           ·simp only [Act.put, List.setIfInBounds_toArray, List.set_cons_zero, List.set_cons_succ, i64_w, i32_w]
            rfl
           refine take_ (i := 24) (N := some 83) (v := ?_) (a' := ?_) #[true, true, true, true, true, true, true, true, true, true, true, true, true, true, true, true, true, true, true, true, true, true, true, true, true, false, false, false] rfl rfl (take_ofW HT_.out HW_.out (by kernel_rfl)) (fun _ _ _ h => h) (Or.inl ⟨by rfl, ?_⟩) hHeld ?_ ?_
           rotate_left
           ·rintro w' ⟨s0, s1, s2, s3, s4, s5, s6, s7, s8, s9, s10⟩
            go_simp
            with_reducible rfl
           rotate_left
           ·simp only [Act.put, List.setIfInBounds_toArray, List.set_cons_zero, List.set_cons_succ, i64_w, i32_w]
            rfl
           refine pure_ (i := 25) (N := some 84) (v := ?_) (a' := ?_) #[true, true, true, true, true, true, true, true, true, true, true, true, true, true, true, true, true, true, true, true, true, true, true, true, true, true, false, false] rfl rfl (any_of HT_.out (by kernel_rfl)) (fun _ _ _ h => h) (Or.inl ⟨by rfl, ?_⟩) ?_ ?_
           rotate_left
           ·intro w'
            go_simp
            with_reducible rfl
           rotate_left
           ·simp only [Act.put, List.setIfInBounds_toArray, List.set_cons_zero, List.set_cons_succ, i64_w, i32_w]
            rfl
           refine pure_ (i := 26) (N := some 85) (v := ?_) (a' := ?_) #[true, true, true, true, true, true, true, true, true, true, true, true, true, true, true, true, true, true, true, true, true, true, true, true, true, true, true, false] rfl rfl (any_of HT_.out (by kernel_rfl)) (fun _ _ _ h => h) (Or.inl ⟨by rfl, ?_⟩) ?_ ?_
           rotate_left
           ·intro w'
            go_simp
            with_reducible rfl
           rotate_left
           ·simp only [Act.put, List.setIfInBounds_toArray, List.set_cons_zero, List.set_cons_succ, i64_w, i32_w]
            rfl
           refine last_ (i := 27) (N := none) #[true, true, true, true, true, true, true, true, true, true, true, true, true, true, true, true, true, true, true, true, true, true, true, true, true, true, true, true] rfl rfl (one_of HT_.out (by kernel_rfl)) (by decide) (fun K hK => ?_)
           refine skip_ (w1 := ?_) (by rfl) rfl ?_ ?_
           rotate_left
           ·go_simp
            rfl
           refine hK.out _ _ ?_
           clear hK K
           refine done_ (done_of HT_.out (by kernel_rfl)) ?_
           try go_wp2
           go_roundg k1
           case measure => have := HK1.out; omega
           case rel => exact ⟨(x11_1), (wrap64 (x16_1 + 1)), (y259), (.slice (some ⟨go32, 0, none⟩) x252002_1.length co32), smpA, H', ⟨by have := HK1.out; omega⟩, ⟨by (with_reducible repeat (first | apply Kd.R_alloc | apply Kd.R_drewN | apply Kd.R_drew)); exact Kd.R_mono (Kd.R_far (p := ⟨go32, ((ji29) : Int).toNat, none⟩) (Kd.R_mono HO_11.out (fun k_ hk => (⟨hk, fun e_ => hk (by rw [e_]; rfl)⟩ : _ ∧ k_ ≠ go32))) (fun _ hk => hk.2) (.bool (rdOf false x11_1 x16_1))) (fun _ hk => hk.1)⟩, ⟨by (with_reducible repeat (first | apply Kd.R_alloc | apply Kd.R_drewN | apply Kd.R_drew)); exact Kd.R_mono (Kd.R_far (p := ⟨go32, ((ji29) : Int).toNat, none⟩) (Kd.R_types HO_14.out GG32.out (by decide)) (fun _ hk => hk.2) (.bool (rdOf false x11_1 x16_1))) (fun _ hk => trivial)⟩, ⟨rowA HQ36.out⟩, ⟨by (with_reducible repeat (first | refine blk_drewN ?_ _ | refine blk_drew ?_ | refine blk_alloc ?_ _)); refine blk_far ?_ (by have h_ := Kd.R_ne HO_252002.out BK235.out (by decide); intro e_; exact h_ (by rw [e_]; rfl)) _; (with_reducible repeat (first | refine blk_drewN ?_ _ | refine blk_drew ?_ | refine blk_alloc ?_ _)); exact BK235.out⟩, ⟨by (with_reducible repeat (first | refine blk_drewN ?_ _ | refine blk_drew ?_ | refine blk_alloc ?_ _)); refine blk_far ?_ (by have h_ := Kd.R_ne HO_252002.out BK236.out (by decide); intro e_; exact h_ (by rw [e_]; rfl)) _; (with_reducible repeat (first | refine blk_drewN ?_ _ | refine blk_drew ?_ | refine blk_alloc ?_ _)); exact BK236.out⟩, ⟨by (with_reducible repeat (first | refine blk_drewN ?_ _ | refine blk_drew ?_ | refine blk_alloc ?_ _)); refine blk_far ?_ (by have h_ := Kd.R_ne HO_252002.out BK251.out (by decide); intro e_; exact h_ (by rw [e_]; rfl)) _; (with_reducible repeat (first | refine blk_drewN ?_ _ | refine blk_drew ?_ | refine blk_alloc ?_ _)); exact BK251.out⟩, ⟨belA HB.out⟩⟩
          ·rw [if_neg c31] at H
           exact absurd H (by simp)
         ·rw [if_neg c30] at H
          exact absurd H (by simp)
        ·rw [if_neg c28] at H
         have c28b0 : decide (x16_1 < (x11_1.length : Int)) = false := decide_eq_false c28
         clear c28
         obtain ⟨ji37, hji37⟩ : ∃ j_ : Int, (wrap64 ((wrap64 (((rd_T45 t252 x16_1).f1) * a0_0)) + ((rd_T45 t252 x16_1).f0))) = j_ := ⟨_, rfl⟩
         replace H : (if 0 ≤ (ji37) then (if (ji37) < (x252002_1.length : Int) then (barscanref20_Fill.l0 k1 x11_1 t252 (wrap64 (x16_1 + 1)) a0_0 a0_1 l0_2 t246 t247 (x252002_1.set ((ji37) : Int).toNat false)) else (none)) else (none)) = some (r1, r2, r3, r4) := by first | (rw [hji37] at H; exact H) | (simp only [hji37] at H ⊢; exact H)
         have hji37w : (IntKind.i64.wrap ((wrap64 (((rd_T45 t252 x16_1).f1) * a0_0)) + ((rd_T45 t252 x16_1).f0))) = ji37 := (i64_w _).trans hji37
         by_cases c38 : 0 ≤ (ji37)
         ·rw [if_pos c38] at H
          have c38b0 : decide (0 ≤ (ji37)) = true := decide_eq_true c38
          clear c38
          by_cases c39 : (ji37) < (x252002_1.length : Int)
          ·rw [if_pos c39] at H
           have c39b0 : decide ((ji37) < (x252002_1.length : Int)) = true := decide_eq_true c39
           clear c39
           obtain ⟨y260, hy260⟩ : ∃ y_ : List Bool, y_ = (x252002_1.set ((ji37) : Int).toNat false) := ⟨_, rfl⟩
           replace H : (barscanref20_Fill.l0 k1 x11_1 t252 (wrap64 (x16_1 + 1)) a0_0 a0_1 l0_2 t246 t247 y260) = some (r1, r2, r3, r4) := by first | (rw [hy260]; with_reducible exact H) | (have H2_ := (Option.bind_some _ _).symm.trans H; rw [hy260]; with_reducible exact H2_) | (have H2_ := (Option.bind_some _ _).symm.trans H; with_reducible exact H2_) | with_reducible exact H | (rw [hy260]; exact H) | exact H
           have Ny260 := Aside0.mk hy260
           clear hy260
           have H' := Aside0.mk H
           clear H
           obtain ⟨Ao41, co41, eo41⟩ := Kd.R_slice HO_14.out
           subst eo41
           try go_wp2
           have n0_ := Aside0.mk (Kd.R_drew HO_11.out)
           have n1_ := Aside0.mk (Kd.R_drew HO_14.out)
           have n2_ := Aside0.mk (Kd.R_drew HO_252002.out)
           have n3_ := Aside0.mk (blk_drew BK235.out)
           have n4_ := Aside0.mk (blk_drew BK236.out)
           have n5_ := Aside0.mk (blk_drew BK251.out)
           have n6_ := Aside0.mk (below_drew1 HB.out)
           clear HO_11
           clear HO_14
           clear HO_252002
           clear BK235
           clear BK236
           clear BK251
           clear HB
           have HO_11 := n0_
           have HO_14 := n1_
           have HO_252002 := n2_
           have BK235 := n3_
           have BK236 := n4_
           have BK251 := n5_
           have HB := n6_
           clear n0_ n1_ n2_ n3_ n4_ n5_ n6_
           have p256 : 0 ≤ (x16_1 : Int) := of_decide_eq_true (by first | (with_reducible assumption) | assumption)
           have q256 : x16_1 < (t252.length : Int) := of_decide_eq_true (by first | (with_reducible assumption) | assumption)
           obtain ⟨ad256, e256, hx256_0, hx256_1⟩ := at_T45 (Kd.R_reads' HO_14.out).2.2 x16_1 p256 q256
           cases e256
           replace p256 := eq_true p256
           replace q256 := eq_true q256
           have p257 : 0 ≤ (x16_1 : Int) := of_decide_eq_true (by first | (with_reducible assumption) | assumption)
           have q257 : x16_1 < (t252.length : Int) := of_decide_eq_true (by first | (with_reducible assumption) | assumption)
           obtain ⟨ad257, e257, hx257_0, hx257_1⟩ := at_T45 (Kd.R_reads' HO_14.out).2.2 x16_1 p257 q257
           obtain rfl : ad256 = ad257 := (by injection e257)
           replace p257 := eq_true p257
           replace q257 := eq_true q257
           obtain ⟨Ao43, co43, eo43⟩ := Kd.R_slice HO_11.out
           (first | subst eo43 | (injection eo43 with f1_ f2_ f3_; have f4_ := f1_.symm; have f5_ := f3_.symm; clear f1_ f2_ f3_; subst f4_; subst f5_))
           have p40 : 0 ≤ ((ji37) : Int) := of_decide_eq_true (by first | (with_reducible assumption) | assumption)
           have q40 : ((ji37) : Int) < ((x252002_1.length : Int) : Int) := of_decide_eq_true (by first | (with_reducible assumption) | assumption)
           obtain ⟨go40, co40, eo40, gb40, gl40, cl40, HG40⟩ := Kd.R_form HO_252002.out (by omega)
           (first | cases eo40 | (injection eo40 with ea_ en_ ec_; (first | subst ea_ | (injection ea_ with ea_; subst ea_)); subst ec_; clear en_))
           have GB40 := Aside0.mk gb40
           have GG40 := Aside0.mk HG40
           clear gb40 gl40 HG40
           obtain ⟨hx40_0, hf40_0⟩ := Kd.R_celln false HO_252002.out ((ji37) : Int) p40 q40
           replace p40 := eq_true p40
           replace q40 := eq_true q40
           have HP44 := Kd.R_putn HO_252002.out ((ji37) : Int) false
           rw [← Ny260.out] at HP44
           have HQ44 := Aside0.mk HP44
           clear HP44
           refine start_ (n := 28) (S := fun w' => w'.cell? ⟨gb251, 0, none⟩ = some (.int .i64 t246) ∧ w'.cell? ⟨gb251, 1, none⟩ = some (.int .i64 t247) ∧ w'.cell? ⟨gb251, 2, none⟩ = some (.slice (some ⟨go40, 0, none⟩) x252002_1.length co40) ∧ w'.cell? ⟨gb235, 0, none⟩ = some (.int .i64 a0_0) ∧ w'.cell? ⟨gb235, 1, none⟩ = some (.int .i64 a0_1) ∧ w'.cell? ⟨gb235, 2, none⟩ = some (.slice A0_2 l0_2.length c0_2) ∧ w'.cell? (ad256.add ((x16_1).toNat * 2)) = some (.int .i64 ((rd_T45 t252 x16_1).f0)) ∧ w'.cell? ⟨(ad256.add ((x16_1).toNat * 2)).block, (ad256.add ((x16_1).toNat * 2)).off + 1, none⟩ = some (.int .i64 ((rd_T45 t252 x16_1).f1)) ∧ w'.cell? (ad256.add ((x16_1).toNat * 2)) = some (.int .i64 ((rd_T45 t252 x16_1).f0)) ∧ w'.cell? ⟨(ad256.add ((x16_1).toNat * 2)).block, (ad256.add ((x16_1).toNat * 2)).off + 1, none⟩ = some (.int .i64 ((rd_T45 t252 x16_1).f1))) (ds := [27]) #[false, false, false, false, false, false, false, false, false, false, false, false, false, false, false, false, false, false, false, false, false, false, false, false, false, false, false, false] (by kernel_rfl) rfl rfl ⟨(blk_cell BK251.out 0).trans rfl, (blk_cell BK251.out 1).trans rfl, (blk_cell BK251.out 2).trans rfl, (blk_cell BK235.out 0).trans rfl, (blk_cell BK235.out 1).trans rfl, (blk_cell BK235.out 2).trans rfl, hx256_0, hx256_1, hx257_0, hx257_1⟩ (fun hHeld => ?_); refine with_tabW barscanref20_Fill.tab15 barscanref20_Fill.bits15 (fun HT_ HW_ => ?_)
           generalize wr.drew = w42 at HO_11 HO_14 HO_252002 BK235 BK236 BK251 HB GG40 HQ44 hf40_0 hx256_0 hx256_1 hx257_0 hx257_1 hx40_0 hHeld ⊢
           refine pure_ (i := 0) (N := some 59) (v := ?_) (a' := ?_) #[true, false, false, false, false, false, false, false, false, false, false, false, false, false, false, false, false, false, false, false, false, false, false, false, false, false, false, false] rfl rfl (any_of HT_.out (by kernel_rfl)) (fun _ _ _ h => h) (Or.inl ⟨by rfl, ?_⟩) ?_ ?_
           rotate_left
           ·intro w'
            go_simp
            with_reducible rfl
           rotate_left
           ·simp only [Act.put, List.setIfInBounds_toArray, List.set_cons_zero, List.set_cons_succ, i64_w, i32_w]
            rfl
           refine pure_ (i := 2) (N := some 61) (v := ?_) (a' := ?_) #[true, false, true, false, false, false, false, false, false, false, false, false, false, false, false, false, false, false, false, false, false, false, false, false, false, false, false, false] rfl rfl (any_of HT_.out (by kernel_rfl)) (fun _ _ _ h => h) (Or.inl ⟨by rfl, ?_⟩) ?_ ?_
           rotate_left
           ·intro w'
            go_simp
            with_reducible rfl
           rotate_left
           ·simp only [Act.put, List.setIfInBounds_toArray, List.set_cons_zero, List.set_cons_succ, i64_w, i32_w]
            rfl
           refine pure_ (i := 3) (N := some 62) (v := ?_) (a' := ?_) #[true, false, true, true, false, false, false, false, false, false, false, false, false, false, false, false, false, false, false, false, false, false, false, false, false, false, false, false] rfl rfl (any_of HT_.out (by kernel_rfl)) (fun _ _ _ h => h) (Or.inl ⟨by rfl, ?_⟩) ?_ ?_
           rotate_left
           ·intro w'
            go_simp
            with_reducible rfl
           rotate_left
           ·simp only [Act.put, List.setIfInBounds_toArray, List.set_cons_zero, List.set_cons_succ, i64_w, i32_w]
            rfl
           refine pure_ (i := 4) (N := some 63) (v := ?_) (a' := ?_) #[true, false, true, true, true, false, false, false, false, false, false, false, false, false, false, false, false, false, false, false, false, false, false, false, false, false, false, false] rfl rfl (any_of HT_.out (by kernel_rfl)) (fun _ _ _ h => h) (Or.inl ⟨by rfl, ?_⟩) ?_ ?_
           rotate_left
           ·intro w'
            go_simp
            with_reducible rfl
           rotate_left
           ·simp only [Act.put, List.setIfInBounds_toArray, List.set_cons_zero, List.set_cons_succ, i64_w, i32_w]
            rfl
           refine pure_ (i := 5) (N := some 64) (v := ?_) (a' := ?_) #[true, false, true, true, true, true, false, false, false, false, false, false, false, false, false, false, false, false, false, false, false, false, false, false, false, false, false, false] rfl rfl (any_of HT_.out (by kernel_rfl)) (fun _ _ _ h => h) (Or.inl ⟨by rfl, ?_⟩) ?_ ?_
           rotate_left
           ·intro w'
            go_simp
            with_reducible rfl
           rotate_left
           ·simp only [Act.put, List.setIfInBounds_toArray, List.set_cons_zero, List.set_cons_succ, i64_w, i32_w]
            rfl
           refine pure_ (i := 7) (N := some 66) (v := ?_) (a' := ?_) #[true, false, true, true, true, true, false, true, false, false, false, false, false, false, false, false, false, false, false, false, false, false, false, false, false, false, false, false] rfl rfl (any_of HT_.out (by kernel_rfl)) (fun _ _ _ h => h) (Or.inl ⟨by rfl, ?_⟩) ?_ ?_
           rotate_left
           ·intro w'
            go_simp
            with_reducible rfl
           rotate_left
           ·simp only [Act.put, List.setIfInBounds_toArray, List.set_cons_zero, List.set_cons_succ, i64_w, i32_w]
            rfl
           refine pure_ (i := 10) (N := some 69) (v := ?_) (a' := ?_) #[true, false, true, true, true, true, false, true, false, false, true, false, false, false, false, false, false, false, false, false, false, false, false, false, false, false, false, false] rfl rfl (any_of HT_.out (by kernel_rfl)) (fun _ _ _ h => h) (Or.inl ⟨by rfl, ?_⟩) ?_ ?_
           rotate_left
           ·intro w'
            go_simp
            with_reducible rfl
           rotate_left
           ·simp only [Act.put, List.setIfInBounds_toArray, List.set_cons_zero, List.set_cons_succ, i64_w, i32_w]
            rfl
           refine pure_ (i := 11) (N := some 70) (v := ?_) (a' := ?_) #[true, false, true, true, true, true, false, true, false, false, true, true, false, false, false, false, false, false, false, false, false, false, false, false, false, false, false, false] rfl rfl (any_of HT_.out (by kernel_rfl)) (fun _ _ _ h => h) (Or.inl ⟨by rfl, ?_⟩) ?_ ?_
           rotate_left
           ·intro w'
            go_simp
            with_reducible rfl
           rotate_left
           ·simp only [Act.put, List.setIfInBounds_toArray, List.set_cons_zero, List.set_cons_succ, i64_w, i32_w]
            rfl
           refine pure_ (i := 12) (N := some 71) (v := ?_) (a' := ?_) #[true, false, true, true, true, true, false, true, false, false, true, true, true, false, false, false, false, false, false, false, false, false, false, false, false, false, false, false] rfl rfl (any_of HT_.out (by kernel_rfl)) (fun _ _ _ h => h) (Or.inl ⟨by rfl, ?_⟩) ?_ ?_
           rotate_left
           ·intro w'
            go_simp
            with_reducible rfl
           rotate_left
           ·simp only [Act.put, List.setIfInBounds_toArray, List.set_cons_zero, List.set_cons_succ, i64_w, i32_w]
            rfl
           refine pure_ (i := 13) (N := some 72) (v := ?_) (a' := ?_) #[true, false, true, true, true, true, false, true, false, false, true, true, true, true, false, false, false, false, false, false, false, false, false, false, false, false, false, false] rfl rfl (any_of HT_.out (by kernel_rfl)) (fun _ _ _ h => h) (Or.inl ⟨by rfl, ?_⟩) ?_ ?_
           rotate_left
           ·intro w'
            go_simp
            with_reducible rfl
           rotate_left
           ·simp only [Act.put, List.setIfInBounds_toArray, List.set_cons_zero, List.set_cons_succ, i64_w, i32_w]
            rfl
           refine pure_ (i := 16) (N := some 75) (v := ?_) (a' := ?_) #[true, false, true, true, true, true, false, true, false, false, true, true, true, true, false, false, true, false, false, false, false, false, false, false, false, false, false, false] rfl rfl (any_of HT_.out (by kernel_rfl)) (fun _ _ _ h => h) (Or.inl ⟨by rfl, ?_⟩) ?_ ?_
           rotate_left
           ·intro w'
            go_simp
            with_reducible rfl
           rotate_left
           ·simp only [Act.put, List.setIfInBounds_toArray, List.set_cons_zero, List.set_cons_succ, i64_w, i32_w]
            rfl
           refine pure_ (i := 17) (N := some 76) (v := ?_) (a' := ?_) #[true, false, true, true, true, true, false, true, false, false, true, true, true, true, false, false, true, true, false, false, false, false, false, false, false, false, false, false] rfl rfl (any_of HT_.out (by kernel_rfl)) (fun _ _ _ h => h) (Or.inl ⟨by rfl, ?_⟩) ?_ ?_
           rotate_left
           ·intro w'
            go_simp
            with_reducible rfl
           rotate_left
           ·simp only [Act.put, List.setIfInBounds_toArray, List.set_cons_zero, List.set_cons_succ, i64_w, i32_w]
            rfl
           refine pure_ (i := 18) (N := some 77) (v := ?_) (a' := ?_) #[true, false, true, true, true, true, false, true, false, false, true, true, true, true, false, false, true, true, true, false, false, false, false, false, false, false, false, false] rfl rfl (any_of HT_.out (by kernel_rfl)) (fun _ _ _ h => h) (Or.inl ⟨by rfl, ?_⟩) ?_ ?_
           rotate_left
           ·intro w'
            go_simp
            with_reducible rfl
           rotate_left
           ·simp only [Act.put, List.setIfInBounds_toArray, List.set_cons_zero, List.set_cons_succ, i64_w, i32_w]
            rfl
           refine pure_ (i := 19) (N := some 78) (v := ?_) (a' := ?_) #[true, false, true, true, true, true, false, true, false, false, true, true, true, true, false, false, true, true, true, true, false, false, false, false, false, false, false, false] rfl rfl (any_of HT_.out (by kernel_rfl)) (fun _ _ _ h => h) (Or.inl ⟨by rfl, ?_⟩) ?_ ?_
           rotate_left
           ·intro w'
            go_simp
            with_reducible rfl
           rotate_left
           ·simp only [Act.put, List.setIfInBounds_toArray, List.set_cons_zero, List.set_cons_succ, i64_w, i32_w]
            rfl
           refine pure_ (i := 20) (N := some 79) (v := ?_) (a' := ?_) #[true, false, true, true, true, true, false, true, false, false, true, true, true, true, false, false, true, true, true, true, true, false, false, false, false, false, false, false] rfl rfl (any_of HT_.out (by kernel_rfl)) (fun _ _ _ h => h) (Or.inl ⟨by rfl, ?_⟩) ?_ ?_
           rotate_left
           ·intro w'
            go_simp
            with_reducible rfl
           rotate_left
           ·simp only [Act.put, List.setIfInBounds_toArray, List.set_cons_zero, List.set_cons_succ, i64_w, i32_w]
            rfl
           refine pure_ (i := 21) (N := some 80) (v := undef) (a' := ?_) #[true, false, true, true, true, true, false, true, false, false, true, true, true, true, false, false, true, true, true, true, true, true, false, false, false, false, false, false] rfl rfl (any_of HT_.out (by kernel_rfl)) (fun _ _ _ h => h) (Or.inr ⟨by rfl, rfl⟩) ?_ ?_
           rotate_left
           ·simp only [Act.put, List.setIfInBounds_toArray, List.set_cons_zero, List.set_cons_succ, i64_w, i32_w]
            rfl
           refine pure_ (i := 22) (N := some 81) (v := undef) (a' := ?_) #[true, false, true, true, true, true, false, true, false, false, true, true, true, true, false, false, true, true, true, true, true, true, true, false, false, false, false, false] rfl rfl (any_of HT_.out (by kernel_rfl)) (fun _ _ _ h => h) (Or.inr ⟨by rfl, rfl⟩) ?_ ?_
           rotate_left
           ·simp only [Act.put, List.setIfInBounds_toArray, List.set_cons_zero, List.set_cons_succ, i64_w, i32_w]
            rfl
           refine pure_ (i := 23) (N := some 82) (v := undef) (a' := ?_) #[true, false, true, true, true, true, false, true, false, false, true, true, true, true, false, false, true, true, true, true, true, true, true, true, false, false, false, false] rfl rfl (any_of HT_.out (by kernel_rfl)) (fun _ _ _ h => h) (Or.inr ⟨by rfl, rfl⟩) ?_ ?_
           rotate_left
           ·simp only [Act.put, List.setIfInBounds_toArray, List.set_cons_zero, List.set_cons_succ, i64_w, i32_w]
            rfl
           refine pure_ (i := 24) (N := some 83) (v := undef) (a' := ?_) #[true, false, true, true, true, true, false, true, false, false, true, true, true, true, false, false, true, true, true, true, true, true, true, true, true, false, false, false] rfl rfl (any_of HT_.out (by kernel_rfl)) (fun _ _ _ h => h) (Or.inr ⟨by rfl, rfl⟩) ?_ ?_
           rotate_left
           ·simp only [Act.put, List.setIfInBounds_toArray, List.set_cons_zero, List.set_cons_succ, i64_w, i32_w]
            rfl
           refine pure_ (i := 25) (N := some 84) (v := ?_) (a' := ?_) #[true, false, true, true, true, true, false, true, false, false, true, true, true, true, false, false, true, true, true, true, true, true, true, true, true, true, false, false] rfl rfl (any_of HT_.out (by kernel_rfl)) (fun _ _ _ h => h) (Or.inl ⟨by rfl, ?_⟩) ?_ ?_
           rotate_left
           ·intro w'
            go_simp
            with_reducible rfl
           rotate_left
           ·simp only [Act.put, List.setIfInBounds_toArray, List.set_cons_zero, List.set_cons_succ, i64_w, i32_w]
            rfl
           refine take_ (i := 1) (N := some 60) (v := ?_) (a' := ?_) #[true, true, true, true, true, true, false, true, false, false, true, true, true, true, false, false, true, true, true, true, true, true, true, true, true, true, false, false] rfl rfl (take_ofW HT_.out HW_.out (by kernel_rfl)) (fun _ _ _ h => h) (Or.inl ⟨by rfl, ?_⟩) hHeld ?_ ?_
           rotate_left
           ·rintro w' ⟨s0, s1, s2, s3, s4, s5, s6, s7, s8, s9⟩
            go_simp
            with_reducible rfl
           rotate_left
           ·simp only [Act.put, List.setIfInBounds_toArray, List.set_cons_zero, List.set_cons_succ, i64_w, i32_w]
            rfl
           refine take_ (i := 6) (N := some 65) (v := ?_) (a' := ?_) #[true, true, true, true, true, true, true, true, false, false, true, true, true, true, false, false, true, true, true, true, true, true, true, true, true, true, false, false] rfl rfl (take_ofW HT_.out HW_.out (by kernel_rfl)) (fun _ _ _ h => h) (Or.inl ⟨by rfl, ?_⟩) hHeld ?_ ?_
           rotate_left
           ·rintro w' ⟨s0, s1, s2, s3, s4, s5, s6, s7, s8, s9⟩
            go_simp
            with_reducible rfl
           rotate_left
           ·simp only [Act.put, List.setIfInBounds_toArray, List.set_cons_zero, List.set_cons_succ, i64_w, i32_w]
            rfl
           refine take_ (i := 8) (N := some 67) (v := ?_) (a' := ?_) #[true, true, true, true, true, true, true, true, true, false, true, true, true, true, false, false, true, true, true, true, true, true, true, true, true, true, false, false] rfl rfl (take_ofW HT_.out HW_.out (by kernel_rfl)) (fun _ _ _ h => h) (Or.inl ⟨by rfl, ?_⟩) hHeld ?_ ?_
           rotate_left
           ·rintro w' ⟨s0, s1, s2, s3, s4, s5, s6, s7, s8, s9⟩
            go_simp
            with_reducible rfl
           rotate_left
           ·simp only [Act.put, List.setIfInBounds_toArray, List.set_cons_zero, List.set_cons_succ, i64_w, i32_w]
            rfl
           refine pure_ (i := 9) (N := some 68) (v := ?_) (a' := ?_) #[true, true, true, true, true, true, true, true, true, true, true, true, true, true, false, false, true, true, true, true, true, true, true, true, true, true, false, false] rfl rfl (any_of HT_.out (by kernel_rfl)) (fun _ _ _ h => h) (Or.inl ⟨by rfl, ?_⟩) ?_ ?_
           rotate_left
           ·intro w'
            go_simp
            with_reducible rfl
           rotate_left
           ·simp only [Act.put, List.setIfInBounds_toArray, List.set_cons_zero, List.set_cons_succ, i64_w, i32_w]
            rfl
           refine take_ (i := 14) (N := some 73) (v := ?_) (a' := ?_) #[true, true, true, true, true, true, true, true, true, true, true, true, true, true, true, false, true, true, true, true, true, true, true, true, true, true, false, false] rfl rfl (take_ofW HT_.out HW_.out (by kernel_rfl)) (fun _ _ _ h => h) (Or.inl ⟨by rfl, ?_⟩) hHeld ?_ ?_
           rotate_left
           ·rintro w' ⟨s0, s1, s2, s3, s4, s5, s6, s7, s8, s9⟩
            go_simp
            with_reducible rfl
           rotate_left
           ·simp only [Act.put, List.setIfInBounds_toArray, List.set_cons_zero, List.set_cons_succ, i64_w, i32_w]
            rfl
           refine pure_ (i := 15) (N := some 74) (v := ?_) (a' := ?_) #[true, true, true, true, true, true, true, true, true, true, true, true, true, true, true, true, true, true, true, true, true, true, true, true, true, true, false, false] rfl rfl (any_of HT_.out (by kernel_rfl)) (fun _ _ _ h => h) (Or.inl ⟨by rfl, ?_⟩) ?_ ?_
           rotate_left
           ·intro w'
            go_simp
            with_reducible rfl
           rotate_left
           ·simp only [Act.put, List.setIfInBounds_toArray, List.set_cons_zero, List.set_cons_succ, i64_w, i32_w]
            rfl
           refine pure_ (i := 26) (N := some 85) (v := ?_) (a' := ?_) #[true, true, true, true, true, true, true, true, true, true, true, true, true, true, true, true, true, true, true, true, true, true, true, true, true, true, true, false] rfl rfl (any_of HT_.out (by kernel_rfl)) (fun _ _ _ h => h) (Or.inl ⟨by rfl, ?_⟩) ?_ ?_
           rotate_left
           ·intro w'
            go_simp
            with_reducible rfl
           rotate_left
           ·simp only [Act.put, List.setIfInBounds_toArray, List.set_cons_zero, List.set_cons_succ, i64_w, i32_w]
            rfl
           refine last_ (i := 27) (N := none) #[true, true, true, true, true, true, true, true, true, true, true, true, true, true, true, true, true, true, true, true, true, true, true, true, true, true, true, true] rfl rfl (one_of HT_.out (by kernel_rfl)) (by decide) (fun K hK => ?_)
           refine skip_ (w1 := ?_) (by rfl) rfl ?_ ?_
           rotate_left
           ·go_simp
            rfl
           refine hK.out _ _ ?_
           clear hK K
           refine done_ (done_of HT_.out (by kernel_rfl)) ?_
           try go_wp2
           go_roundg k1
           case measure => have := HK1.out; omega
           case rel => exact ⟨(x11_1), (wrap64 (x16_1 + 1)), (y260), (.slice (some ⟨go40, 0, none⟩) x252002_1.length co40), smpA, H', ⟨by have := HK1.out; omega⟩, ⟨by (with_reducible repeat (first | apply Kd.R_alloc | apply Kd.R_drewN | apply Kd.R_drew)); exact Kd.R_mono (Kd.R_far (p := ⟨go40, ((ji37) : Int).toNat, none⟩) (Kd.R_mono HO_11.out (fun k_ hk => (⟨hk, fun e_ => hk (by rw [e_]; rfl)⟩ : _ ∧ k_ ≠ go40))) (fun _ hk => hk.2) (.bool false)) (fun _ hk => hk.1)⟩, ⟨by (with_reducible repeat (first | apply Kd.R_alloc | apply Kd.R_drewN | apply Kd.R_drew)); exact Kd.R_mono (Kd.R_far (p := ⟨go40, ((ji37) : Int).toNat, none⟩) (Kd.R_types HO_14.out GG40.out (by decide)) (fun _ hk => hk.2) (.bool false)) (fun _ hk => trivial)⟩, ⟨rowA HQ44.out⟩, ⟨by (with_reducible repeat (first | refine blk_drewN ?_ _ | refine blk_drew ?_ | refine blk_alloc ?_ _)); refine blk_far ?_ (by have h_ := Kd.R_ne HO_252002.out BK235.out (by decide); intro e_; exact h_ (by rw [e_]; rfl)) _; (with_reducible repeat (first | refine blk_drewN ?_ _ | refine blk_drew ?_ | refine blk_alloc ?_ _)); exact BK235.out⟩, ⟨by (with_reducible repeat (first | refine blk_drewN ?_ _ | refine blk_drew ?_ | refine blk_alloc ?_ _)); refine blk_far ?_ (by have h_ := Kd.R_ne HO_252002.out BK236.out (by decide); intro e_; exact h_ (by rw [e_]; rfl)) _; (with_reducible repeat (first | refine blk_drewN ?_ _ | refine blk_drew ?_ | refine blk_alloc ?_ _)); exact BK236.out⟩, ⟨by (with_reducible repeat (first | refine blk_drewN ?_ _ | refine blk_drew ?_ | refine blk_alloc ?_ _)); refine blk_far ?_ (by have h_ := Kd.R_ne HO_252002.out BK251.out (by decide); intro e_; exact h_ (by rw [e_]; rfl)) _; (with_reducible repeat (first | refine blk_drewN ?_ _ | refine blk_drew ?_ | refine blk_alloc ?_ _)); exact BK251.out⟩, ⟨belA HB.out⟩⟩
          ·rw [if_neg c39] at H
           exact absurd H (by simp)
         ·rw [if_neg c38] at H
          exact absurd H (by simp)
       ·rw [if_neg c27] at H
        exact absurd H (by simp)
      ·rw [if_neg c26] at H
       have c26b0 : decide (x16_1 < (t252.length : Int)) = false := decide_eq_false c26
       clear c26
       simp only [Option.some.injEq, Prod.mk.injEq] at H
       obtain ⟨rfl, rfl, rfl, rfl⟩ := H
       obtain ⟨Ao45, co45, eo45⟩ := Kd.R_slice HO_14.out
       subst eo45
       have hnb46 := NB251_235.out
       have hnc46 := NB235_251.out
       have hnb47 := NB251_236.out
       have hnc47 := NB236_251.out
       obtain ⟨hcz48_0, hcz48_1, hcz48_2, hfz48_0, hfz48_1, hfz48_2⟩ := bk3 BK251.out
       have hnb49 := NB236_235.out
       have hnc49 := NB235_236.out
       obtain ⟨hcz50_0, hcz50_1, hcz50_2, hfz50_0, hfz50_1, hfz50_2⟩ := bk3 BK236.out
       obtain ⟨Ao51, co51, eo51⟩ := Kd.R_slice HO_252002.out
       subst eo51
       go_wp2
       refine bodyPost_ret (results_ct rfl _ _ gb236 24 #[.int .i64 t246, .int .i64 t247, .slice Ao51 x252002_1.length co51] (0, 0) _ rfl (blkB BK236.out) Try.underlying24 rfl (by kernel_rfl)) rfl ?_
       exact ⟨_, errA, by (with_reducible repeat (first | apply Kd.R_alloc | apply Kd.R_drewN | apply Kd.R_drew)); exact Kd.R_mono (Kd.R_far (p := ⟨gb236, 2, none⟩) (Kd.R_far (p := ⟨gb236, 1, none⟩) (Kd.R_far (p := ⟨gb236, 0, none⟩) (Kd.R_types HO_252002.out BK236.out (by decide)) (fun _ hk => hk.2) (.int .i64 t246)) (fun _ hk => hk.2) (.int .i64 t247)) (fun _ hk => hk.2) (.slice Ao51 x252002_1.length co51)) (fun _ hk => trivial), belA HB.out⟩
   ·rw [if_neg c8] at H
    have c8b0 : (t243 == 0) = false := beq_eq_false_iff_ne.mpr c8
    have c8b1 : (t243 != 0) = true := bne_iff_ne.mpr c8
    simp only [Option.some.injEq, Prod.mk.injEq] at H
    obtain ⟨rfl, rfl, rfl, rfl⟩ := H
    go_enter Try.func31, Try.ntmps31
    go_wp2_with (first | ((with_reducible refine gate_dst (N := 2) rfl ?_); refine boxE (N := 2) (cs := #[.int .i64 a0_0, .int .i64 a0_1, .slice A0_2 l0_2.length c0_2]) (t := 24) ?_; intro gb235 hg w52 hbox hb; have BK235 := Aside0.mk (hbox); have GW235 := Aside0.mk ((szA hg HB.out : w.heap.size ≤ gb235)); have GE235 := Aside0.mk ((szA hg HB.out : w.heap.size ≤ gb235)); replace HB := Aside0.mk (below_step (belA HB.out) hb); clear hb hbox hg) | ((with_reducible refine gate_dst (N := 4) rfl ?_); refine boxE (N := 4) (cs := #[.int .i64 0, .int .i64 0, .slice none 0 0]) (t := 24) ?_; intro gb236 hg w53 hbox hb; have BK236 := Aside0.mk (hbox); have GW236 := Aside0.mk ((szA hg HB.out : w.heap.size ≤ gb236)); have GE236 := Aside0.mk ((szA hg HB.out : w.heap.size ≤ gb236)); have NB235_236 := Aside0.mk ((neL hg BK235.out : gb235 ≠ gb236)); have NB236_235 := Aside0.mk ((neG hg BK235.out : gb236 ≠ gb235)); replace BK235 := Aside0.mk (blk_below (g := gb235) (o := .cells #[.int .i64 a0_0, .int .i64 a0_1, .slice A0_2 l0_2.length c0_2] 24 (0, 0)) (blkA BK235.out) hb); replace HB := Aside0.mk (below_step (belA HB.out) hb); clear hb hbox hg; have hnb54 := NB235_236.out; have hnc54 := NB236_235.out; obtain ⟨hcz55_0, hcz55_1, hcz55_2, hfz55_0, hfz55_1, hfz55_2⟩ := bk3 BK235.out) | ((with_reducible refine gate_callee (f := 35) rfl ?_); refine goesL_ (some 19) rfl rfl Try.func35 (by kernel_rfl) rfl #[.agg #[.int .i64 a0_0, .int .i64 a0_1, .slice A0_2 l0_2.length c0_2]] rfl argA ?_; (with_reducible refine (barscanref20_Version.calls a0_0 a0_1 _ _ l0_2 t237 t238 _ ?side1 ?side2 A3.out).mono ?_); (case side1 => exact lowA (Kd.C_below HR0_2.out HB.out)); (case side2 => exact HC0_2.out); rintro e w56 ⟨rfl, hb⟩; refine ⟨_, rfl, ?_⟩; replace BK235 := Aside0.mk (blk_below (g := gb235) (o := .cells #[.int .i64 a0_0, .int .i64 a0_1, .slice A0_2 l0_2.length c0_2] 24 (0, 0)) (blkA BK235.out) hb); replace BK236 := Aside0.mk (blk_below (g := gb236) (o := .cells #[.int .i64 0, .int .i64 0, .slice none 0 0] 24 (0, 0)) (blkA BK236.out) hb); replace HB := Aside0.mk (below_step (belA HB.out) hb); (try clear hb); (try clear hb2); (try clear hk); (try clear hi)) | ((with_reducible refine gate_callee (f := 28) rfl ?_); refine goesL_ (some 28) rfl rfl Try.func28 (by kernel_rfl) rfl #[.int .i64 t237] rfl argA ?_; (with_reducible refine (barscanref17_Codewords.calls k t237 t239 t240 t241 _ A5.out).mono ?_); rintro e w57 ⟨rfl, hb⟩; refine ⟨_, rfl, ?_⟩; replace BK235 := Aside0.mk (blk_below (g := gb235) (o := .cells #[.int .i64 a0_0, .int .i64 a0_1, .slice A0_2 l0_2.length c0_2] 24 (0, 0)) (blkA BK235.out) hb); replace BK236 := Aside0.mk (blk_below (g := gb236) (o := .cells #[.int .i64 0, .int .i64 0, .slice none 0 0] 24 (0, 0)) (blkA BK236.out) hb); replace HB := Aside0.mk (below_step (belA HB.out) hb); (try clear hb); (try clear hb2); (try clear hk); (try clear hi)) | ((with_reducible refine gate_callee (f := 65) rfl ?_); refine goesL_ (some 39) rfl rfl Try.func65 (by kernel_rfl) rfl #[.slice A1 l1.length c1, .int .i64 8] rfl argA ?_; (with_reducible refine (barscanref01_FromWords.calls k _ _ l1 8 t242 t243 _ ?side1 ?side2 A7.out).mono ?_); (case side1 => exact lowA (Kd.C_below HR1.out HB.out)); (case side2 => exact HC1.out); rintro e w58 ⟨v244, rfl, ho0, hb⟩; refine ⟨_, rfl, ?_⟩; have HO245 := Aside0.mk (Kd.R_lower ho0 (below_size (belA HB.out))); replace BK235 := Aside0.mk (blk_below (g := gb235) (o := .cells #[.int .i64 a0_0, .int .i64 a0_1, .slice A0_2 l0_2.length c0_2] 24 (0, 0)) (blkA BK235.out) hb); replace BK236 := Aside0.mk (blk_below (g := gb236) (o := .cells #[.int .i64 0, .int .i64 0, .slice none 0 0] 24 (0, 0)) (blkA BK236.out) hb); replace HB := Aside0.mk (below_step (belA HB.out) hb); (try clear hb); (try clear hb2); (try clear hk); (try clear hi); (try clear ho0); obtain ⟨hcz59_0, hcz59_1, hcz59_2, hfz59_0, hfz59_1, hfz59_2⟩ := bk3 BK236.out))
    refine bodyPost_ret (results_ct rfl _ _ gb236 24 #[.int .i64 0, .int .i64 0, .slice none 0 0] (0, 0) _ rfl (blkB BK236.out) Try.underlying24 rfl (by kernel_rfl)) rfl ?_
    exact ⟨_, errA, nilA, belA HB.out⟩
  ·rw [if_neg c6] at H
   have c6b0 : ((l1.length : Int) == t239) = false := beq_eq_false_iff_ne.mpr c6
   have c6b1 : ((l1.length : Int) != t239) = true := bne_iff_ne.mpr c6
   simp only [Option.some.injEq, Prod.mk.injEq] at H
   obtain ⟨rfl, rfl, rfl, rfl⟩ := H
   go_enter Try.func31, Try.ntmps31
   go_wp2_with (first | ((with_reducible refine gate_dst (N := 2) rfl ?_); refine boxE (N := 2) (cs := #[.int .i64 a0_0, .int .i64 a0_1, .slice A0_2 l0_2.length c0_2]) (t := 24) ?_; intro gb235 hg w60 hbox hb; have BK235 := Aside0.mk (hbox); have GW235 := Aside0.mk ((szA hg HB.out : w.heap.size ≤ gb235)); have GE235 := Aside0.mk ((szA hg HB.out : w.heap.size ≤ gb235)); replace HB := Aside0.mk (below_step (belA HB.out) hb); clear hb hbox hg) | ((with_reducible refine gate_dst (N := 4) rfl ?_); refine boxE (N := 4) (cs := #[.int .i64 0, .int .i64 0, .slice none 0 0]) (t := 24) ?_; intro gb236 hg w61 hbox hb; have BK236 := Aside0.mk (hbox); have GW236 := Aside0.mk ((szA hg HB.out : w.heap.size ≤ gb236)); have GE236 := Aside0.mk ((szA hg HB.out : w.heap.size ≤ gb236)); have NB235_236 := Aside0.mk ((neL hg BK235.out : gb235 ≠ gb236)); have NB236_235 := Aside0.mk ((neG hg BK235.out : gb236 ≠ gb235)); replace BK235 := Aside0.mk (blk_below (g := gb235) (o := .cells #[.int .i64 a0_0, .int .i64 a0_1, .slice A0_2 l0_2.length c0_2] 24 (0, 0)) (blkA BK235.out) hb); replace HB := Aside0.mk (below_step (belA HB.out) hb); clear hb hbox hg; have hnb62 := NB235_236.out; have hnc62 := NB236_235.out; obtain ⟨hcz63_0, hcz63_1, hcz63_2, hfz63_0, hfz63_1, hfz63_2⟩ := bk3 BK235.out) | ((with_reducible refine gate_callee (f := 35) rfl ?_); refine goesL_ (some 19) rfl rfl Try.func35 (by kernel_rfl) rfl #[.agg #[.int .i64 a0_0, .int .i64 a0_1, .slice A0_2 l0_2.length c0_2]] rfl argA ?_; (with_reducible refine (barscanref20_Version.calls a0_0 a0_1 _ _ l0_2 t237 t238 _ ?side1 ?side2 A3.out).mono ?_); (case side1 => exact lowA (Kd.C_below HR0_2.out HB.out)); (case side2 => exact HC0_2.out); rintro e w64 ⟨rfl, hb⟩; refine ⟨_, rfl, ?_⟩; replace BK235 := Aside0.mk (blk_below (g := gb235) (o := .cells #[.int .i64 a0_0, .int .i64 a0_1, .slice A0_2 l0_2.length c0_2] 24 (0, 0)) (blkA BK235.out) hb); replace BK236 := Aside0.mk (blk_below (g := gb236) (o := .cells #[.int .i64 0, .int .i64 0, .slice none 0 0] 24 (0, 0)) (blkA BK236.out) hb); replace HB := Aside0.mk (below_step (belA HB.out) hb); (try clear hb); (try clear hb2); (try clear hk); (try clear hi)) | ((with_reducible refine gate_callee (f := 28) rfl ?_); refine goesL_ (some 28) rfl rfl Try.func28 (by kernel_rfl) rfl #[.int .i64 t237] rfl argA ?_; (with_reducible refine (barscanref17_Codewords.calls k t237 t239 t240 t241 _ A5.out).mono ?_); rintro e w65 ⟨rfl, hb⟩; refine ⟨_, rfl, ?_⟩; replace BK235 := Aside0.mk (blk_below (g := gb235) (o := .cells #[.int .i64 a0_0, .int .i64 a0_1, .slice A0_2 l0_2.length c0_2] 24 (0, 0)) (blkA BK235.out) hb); replace BK236 := Aside0.mk (blk_below (g := gb236) (o := .cells #[.int .i64 0, .int .i64 0, .slice none 0 0] 24 (0, 0)) (blkA BK236.out) hb); replace HB := Aside0.mk (below_step (belA HB.out) hb); (try clear hb); (try clear hb2); (try clear hk); (try clear hi); obtain ⟨hcz66_0, hcz66_1, hcz66_2, hfz66_0, hfz66_1, hfz66_2⟩ := bk3 BK236.out))
   refine bodyPost_ret (results_ct rfl _ _ gb236 24 #[.int .i64 0, .int .i64 0, .slice none 0 0] (0, 0) _ rfl (blkB BK236.out) Try.underlying24 rfl (by kernel_rfl)) rfl ?_
   exact ⟨_, errA, nilA, belA HB.out⟩
 ·rw [if_neg c4] at H
  have c4b0 : (t238 == 0) = false := beq_eq_false_iff_ne.mpr c4
  have c4b1 : (t238 != 0) = true := bne_iff_ne.mpr c4
  simp only [Option.some.injEq, Prod.mk.injEq] at H
  obtain ⟨rfl, rfl, rfl, rfl⟩ := H
  go_enter Try.func31, Try.ntmps31
  go_wp2_with (first | ((with_reducible refine gate_dst (N := 2) rfl ?_); refine boxE (N := 2) (cs := #[.int .i64 a0_0, .int .i64 a0_1, .slice A0_2 l0_2.length c0_2]) (t := 24) ?_; intro gb235 hg w67 hbox hb; have BK235 := Aside0.mk (hbox); have GW235 := Aside0.mk ((szA hg HB.out : w.heap.size ≤ gb235)); have GE235 := Aside0.mk ((szA hg HB.out : w.heap.size ≤ gb235)); replace HB := Aside0.mk (below_step (belA HB.out) hb); clear hb hbox hg) | ((with_reducible refine gate_dst (N := 4) rfl ?_); refine boxE (N := 4) (cs := #[.int .i64 0, .int .i64 0, .slice none 0 0]) (t := 24) ?_; intro gb236 hg w68 hbox hb; have BK236 := Aside0.mk (hbox); have GW236 := Aside0.mk ((szA hg HB.out : w.heap.size ≤ gb236)); have GE236 := Aside0.mk ((szA hg HB.out : w.heap.size ≤ gb236)); have NB235_236 := Aside0.mk ((neL hg BK235.out : gb235 ≠ gb236)); have NB236_235 := Aside0.mk ((neG hg BK235.out : gb236 ≠ gb235)); replace BK235 := Aside0.mk (blk_below (g := gb235) (o := .cells #[.int .i64 a0_0, .int .i64 a0_1, .slice A0_2 l0_2.length c0_2] 24 (0, 0)) (blkA BK235.out) hb); replace HB := Aside0.mk (below_step (belA HB.out) hb); clear hb hbox hg; have hnb69 := NB235_236.out; have hnc69 := NB236_235.out; obtain ⟨hcz70_0, hcz70_1, hcz70_2, hfz70_0, hfz70_1, hfz70_2⟩ := bk3 BK235.out) | ((with_reducible refine gate_callee (f := 35) rfl ?_); refine goesL_ (some 19) rfl rfl Try.func35 (by kernel_rfl) rfl #[.agg #[.int .i64 a0_0, .int .i64 a0_1, .slice A0_2 l0_2.length c0_2]] rfl argA ?_; (with_reducible refine (barscanref20_Version.calls a0_0 a0_1 _ _ l0_2 t237 t238 _ ?side1 ?side2 A3.out).mono ?_); (case side1 => exact lowA (Kd.C_below HR0_2.out HB.out)); (case side2 => exact HC0_2.out); rintro e w71 ⟨rfl, hb⟩; refine ⟨_, rfl, ?_⟩; replace BK235 := Aside0.mk (blk_below (g := gb235) (o := .cells #[.int .i64 a0_0, .int .i64 a0_1, .slice A0_2 l0_2.length c0_2] 24 (0, 0)) (blkA BK235.out) hb); replace BK236 := Aside0.mk (blk_below (g := gb236) (o := .cells #[.int .i64 0, .int .i64 0, .slice none 0 0] 24 (0, 0)) (blkA BK236.out) hb); replace HB := Aside0.mk (below_step (belA HB.out) hb); (try clear hb); (try clear hb2); (try clear hk); (try clear hi); obtain ⟨hcz72_0, hcz72_1, hcz72_2, hfz72_0, hfz72_1, hfz72_2⟩ := bk3 BK236.out))
  refine bodyPost_ret (results_ct rfl _ _ gb236 24 #[.int .i64 0, .int .i64 0, .slice none 0 0] (0, 0) _ rfl (blkB BK236.out) Try.underlying24 rfl (by kernel_rfl)) rfl ?_
  exact ⟨_, errA, nilA, belA HB.out⟩

def barscanref20_Extract.l0 : Nat → Int → List (S45) → List Bool → Int → Int → Int → List Bool → Option (List Int × Int)
 | 0, _, _, _, _, _, _, _ => none
 | k + 1, x6, x9, x11, x12, x268000, x268001, x268002 => if x12 < (wrap64 (8 * x6)) then (if 0 ≤ x12 then (if x12 < (x9.length : Int) then (if 0 ≤ (wrap64 ((wrap64 (((rd_T45 x9 x12).f1) * x268000)) + ((rd_T45 x9 x12).f0))) then (if (wrap64 ((wrap64 (((rd_T45 x9 x12).f1) * x268000)) + ((rd_T45 x9 x12).f0))) < (x268002.length : Int) then (if x11.length < 140737488355328 then (barscanref20_Extract.l0 k x6 x9 (x11 ++ [rdOf false x268002 (wrap64 ((wrap64 (((rd_T45 x9 x12).f1) * x268000)) + ((rd_T45 x9 x12).f0)))]) (wrap64 (x12 + 1)) x268000 x268001 x268002) else (none)) else (none)) else (none)) else (none)) else (none)) else ((barscanref01_Words.f k x11 8 false).bind fun bt283 => (some (bt283.1, bt283.2)))
def barscanref20_Extract.f (k : Nat) (a0_0 : Int) (a0_1 : Int) (l0_2 : List Bool) : Option (List Int × Int) := (barscanref20_Version.f a0_0 a0_1 l0_2).bind fun bt268 => (if bt268.2 = 0 then ((barscanref17_Codewords.f k bt268.1).bind fun bt270 => ((barscanref20_Path.f k bt268.1).bind fun bt273 => (barscanref20_Extract.l0 k bt270.1 bt273.1 ([] : List Bool) 0 a0_0 a0_1 l0_2))) else (some (([] : List Int), bt268.2)))
def barscanref20_Extract.T10 : Bool × List (List Nat × List Nat) := (true, [([], []), ([], []), ([1], [1]), ([], []), ([], []), ([3, 4], [3, 4]), ([5], [5]), ([6], [6]), ([], []), ([8], [8]), ([7, 9], [7, 9]), ([], []), ([], []), ([11, 12], [11, 12]), ([13], [13]), ([14], [14]), ([10, 15], [10, 15]), ([2, 16], [2, 16]), ([17], [17]), ([18], [18]), ([0, 19], [0, 19]), ([20, 20, 0, 1, 2, 3, 4, 5, 6, 7, 8, 9, 10, 11, 12, 13, 14, 15, 16, 17, 18, 19, 20], [0, 20])])
def barscanref20_Extract.B10 : List Nat := [0, 0, 2, 0, 0, 24, 56, 120, 0, 256, 1016, 0, 0, 6144, 14336, 30720, 65528, 131070, 262142, 524286, 1048575, 2097151]
theorem barscanref20_Extract.tab10 : rtab .any (opsOf Try.f33 10) = barscanref20_Extract.T10 := by kernel_rfl
theorem barscanref20_Extract.bits10 : waitsOk barscanref20_Extract.T10.2 barscanref20_Extract.B10 = true := by kernel_rfl
set_option maxHeartbeats 8000000 in
set_option maxRecDepth 100000 in
theorem barscanref20_Extract.calls (k : Nat) (a0_0 : Int) (a0_1 : Int) (A0_2 : Option Addr) (c0_2 : Nat) (l0_2 : List Bool) (r1 : List Int) (r2 : Int) (w : World) (hr0_2 : Kd.C Kd.bool w A0_2 l0_2.length l0_2) (hc0_2 : l0_2.length ≤ c0_2) (h : barscanref20_Extract.f k a0_0 a0_1 l0_2 = some (r1, r2)) :
  Calls Try.prog 33 #[.agg #[.int .i64 a0_0, .int .i64 a0_1, .slice A0_2 l0_2.length c0_2]] w fun e w' => ∃ v0_ : Value, e = .returned (.tuple #[v0_, .int .i64 r2]) ∧ Kd.R (Kd.int .i64) 3 w' w.heap.size (fun _ => True) v0_ r1 ∧ Below w.heap.size w w' := by
 have hu24 := Try.underlying24
 have HR0_2 := Aside0.mk hr0_2
 have HC0_2 := Aside0.mk hc0_2
 clear hr0_2 hc0_2
 have HB := Aside0.mk (Below.refl w.heap.size w)
 have H : ((barscanref20_Version.f a0_0 a0_1 l0_2).bind fun bt268 => (if bt268.2 = 0 then ((barscanref17_Codewords.f k bt268.1).bind fun bt270 => ((barscanref20_Path.f k bt268.1).bind fun bt273 => (barscanref20_Extract.l0 k bt270.1 bt273.1 ([] : List Bool) 0 a0_0 a0_1 l0_2))) else (some (([] : List Int), bt268.2)))) = some (r1, r2) := h
 clear h
 replace H := Option.bind_eq_some_iff.mp H
 obtain ⟨⟨t268, t269⟩, A20, H⟩ := H
 replace H : (if t269 = 0 then ((barscanref17_Codewords.f k t268).bind fun bt270 => ((barscanref20_Path.f k t268).bind fun bt273 => (barscanref20_Extract.l0 k bt270.1 bt273.1 ([] : List Bool) 0 a0_0 a0_1 l0_2))) else (some (([] : List Int), t269))) = some (r1, r2) := H
 have A2 := Aside0.mk A20
 clear A20
 by_cases c3 : t269 = 0
 ·rw [if_pos c3] at H
  have c3b0 : (t269 == 0) = true := beq_iff_eq.mpr c3
  have c3b1 : (t269 != 0) = false := bne_eq_false_iff_eq.mpr c3
  clear c3
  replace H := Option.bind_eq_some_iff.mp H
  obtain ⟨⟨t270, t271, t272⟩, A40, H⟩ := H
  replace H : ((barscanref20_Path.f k t268).bind fun bt273 => (barscanref20_Extract.l0 k t270 bt273.1 ([] : List Bool) 0 a0_0 a0_1 l0_2)) = some (r1, r2) := H
  have A4 := Aside0.mk A40
  clear A40
  replace H := Option.bind_eq_some_iff.mp H
  obtain ⟨⟨t273, t274⟩, A50, H⟩ := H
  replace H : (barscanref20_Extract.l0 k t270 t273 ([] : List Bool) 0 a0_0 a0_1 l0_2) = some (r1, r2) := H
  have A5 := Aside0.mk A50
  clear A50
  have H' := Aside0.mk H
  clear H
  go_enter Try.func33, Try.ntmps33
  go_wp2_with (first | ((with_reducible refine gate_dst (N := 1) rfl ?_); refine boxE (N := 1) (cs := #[.int .i64 a0_0, .int .i64 a0_1, .slice A0_2 l0_2.length c0_2]) (t := 24) ?_; intro gb267 hg w6 hbox hb; have BK267 := Aside0.mk (hbox); have GW267 := Aside0.mk ((szA hg HB.out : w.heap.size ≤ gb267)); have GE267 := Aside0.mk ((szA hg HB.out : w.heap.size ≤ gb267)); replace HB := Aside0.mk (below_step (belA HB.out) hb); clear hb hbox hg; obtain ⟨hcz7_0, hcz7_1, hcz7_2, hfz7_0, hfz7_1, hfz7_2⟩ := bk3 BK267.out) | ((with_reducible refine gate_callee (f := 35) rfl ?_); refine goesL_ (some 15) rfl rfl Try.func35 (by kernel_rfl) rfl #[.agg #[.int .i64 a0_0, .int .i64 a0_1, .slice A0_2 l0_2.length c0_2]] rfl argA ?_; (with_reducible refine (barscanref20_Version.calls a0_0 a0_1 _ _ l0_2 t268 t269 _ ?side1 ?side2 A2.out).mono ?_); (case side1 => exact lowA (Kd.C_below HR0_2.out HB.out)); (case side2 => exact HC0_2.out); rintro e w8 ⟨rfl, hb⟩; refine ⟨_, rfl, ?_⟩; replace BK267 := Aside0.mk (blk_below (g := gb267) (o := .cells #[.int .i64 a0_0, .int .i64 a0_1, .slice A0_2 l0_2.length c0_2] 24 (0, 0)) (blkA BK267.out) hb); replace HB := Aside0.mk (below_step (belA HB.out) hb); (try clear hb); (try clear hb2); (try clear hk); (try clear hi)) | ((with_reducible refine gate_callee (f := 28) rfl ?_); refine goesL_ (some 23) rfl rfl Try.func28 (by kernel_rfl) rfl #[.int .i64 t268] rfl argA ?_; (with_reducible refine (barscanref17_Codewords.calls k t268 t270 t271 t272 _ A4.out).mono ?_); rintro e w9 ⟨rfl, hb⟩; refine ⟨_, rfl, ?_⟩; replace BK267 := Aside0.mk (blk_below (g := gb267) (o := .cells #[.int .i64 a0_0, .int .i64 a0_1, .slice A0_2 l0_2.length c0_2] 24 (0, 0)) (blkA BK267.out) hb); replace HB := Aside0.mk (below_step (belA HB.out) hb); (try clear hb); (try clear hb2); (try clear hk); (try clear hi)) | ((with_reducible refine gate_callee (f := 26) rfl ?_); refine goesL_ (some 29) rfl rfl Try.func26 (by kernel_rfl) rfl #[.int .i64 t268] rfl argA ?_; (with_reducible refine (barscanref20_Path.calls k t268 t273 t274 _ A5.out).mono ?_); rintro e w10 ⟨v275, rfl, ho0, hb⟩; refine ⟨_, rfl, ?_⟩; have HO276 := Aside0.mk (Kd.R_lower ho0 (below_size (belA HB.out))); replace BK267 := Aside0.mk (blk_below (g := gb267) (o := .cells #[.int .i64 a0_0, .int .i64 a0_1, .slice A0_2 l0_2.length c0_2] 24 (0, 0)) (blkA BK267.out) hb); replace HB := Aside0.mk (below_step (belA HB.out) hb); (try clear hb); (try clear hb2); (try clear hk); (try clear hi); (try clear ho0)))
  go_loopg [11, 12] k (fun kq v11 v12 w' => ∃ (x11_1 : List Bool) (x12_1 : Int), v12 = .int .i64 x12_1 ∧ Aside0 (barscanref20_Extract.l0 kq t270 t273 x11_1 x12_1 a0_0 a0_1 l0_2 = some (r1, r2)) ∧ Aside0 (kq ≤ k) ∧ Aside0 (Kd.R k45 45 w' w.heap.size (fun _ => True) v275 t273) ∧ Aside0 (Kd.R Kd.bool 4 w' w.heap.size (fun _ => True) v11 x11_1) ∧ Aside0 (w'.heap[gb267]? = some (.cells #[.int .i64 a0_0, .int .i64 a0_1, (.slice A0_2 l0_2.length c0_2)] 24 (0, 0))) ∧ Aside0 (Below w.heap.size w w'))
  case atStart => exact ⟨(([] : List Bool)), (0), smpA, H', ⟨Nat.le_refl _⟩, ⟨rowA HO276.out⟩, ⟨nilA⟩, ⟨blkA BK267.out⟩, ⟨belA HB.out⟩⟩
  case round =>
   clear H'
   try clear c2
   try clear p2
   try clear c3
   try clear c3b0
   try clear c3b1
   try clear hcz7_0
   try clear hcz7_1
   try clear hcz7_2
   try clear hfz7_0
   try clear hfz7_1
   try clear hfz7_2
   obtain ⟨x11_1, x12_1, rfl, HA, HK1, HO_9, HO_11, BK267, HB⟩ := hrel
   cases gk with
   | zero => exact absurd HA.out (by simp [barscanref20_Extract.l0])
   | succ k1 =>
    have H := HA.out
    clear HA
    simp only [barscanref20_Extract.l0] at H
    by_cases c11 : x12_1 < (wrap64 (8 * t270))
    ·rw [if_pos c11] at H
     have c11b0 : decide (x12_1 < (wrap64 (8 * t270))) = true := decide_eq_true c11
     clear c11
     by_cases c12 : 0 ≤ x12_1
     ·rw [if_pos c12] at H
      have c12b0 : decide (0 ≤ x12_1) = true := decide_eq_true c12
      clear c12
      by_cases c13 : x12_1 < (t273.length : Int)
      ·rw [if_pos c13] at H
       have c13b0 : decide (x12_1 < (t273.length : Int)) = true := decide_eq_true c13
       clear c13
       obtain ⟨ji14, hji14⟩ : ∃ j_ : Int, (wrap64 ((wrap64 (((rd_T45 t273 x12_1).f1) * a0_0)) + ((rd_T45 t273 x12_1).f0))) = j_ := ⟨_, rfl⟩
       replace H : (if 0 ≤ (ji14) then (if (ji14) < (l0_2.length : Int) then (if x11_1.length < 140737488355328 then (barscanref20_Extract.l0 k1 t270 t273 (x11_1 ++ [rdOf false l0_2 (ji14)]) (wrap64 (x12_1 + 1)) a0_0 a0_1 l0_2) else (none)) else (none)) else (none)) = some (r1, r2) := by first | (rw [hji14] at H; exact H) | (simp only [hji14] at H ⊢; exact H)
       have hji14w : (IntKind.i64.wrap ((wrap64 (((rd_T45 t273 x12_1).f1) * a0_0)) + ((rd_T45 t273 x12_1).f0))) = ji14 := (i64_w _).trans hji14
       by_cases c15 : 0 ≤ (ji14)
       ·rw [if_pos c15] at H
        have c15b0 : decide (0 ≤ (ji14)) = true := decide_eq_true c15
        clear c15
        by_cases c16 : (ji14) < (l0_2.length : Int)
        ·rw [if_pos c16] at H
         have c16b0 : decide ((ji14) < (l0_2.length : Int)) = true := decide_eq_true c16
         clear c16
         by_cases c17 : x11_1.length < 140737488355328
         ·rw [if_pos c17] at H
          have LMc17 := Aside0.mk c17
          clear c17
          obtain ⟨y280, hy280⟩ : ∃ y_ : List Bool, y_ = (x11_1 ++ [rdOf false l0_2 (ji14)]) := ⟨_, rfl⟩
          replace H : (barscanref20_Extract.l0 k1 t270 t273 y280 (wrap64 (x12_1 + 1)) a0_0 a0_1 l0_2) = some (r1, r2) := by first | (rw [hy280]; with_reducible exact H) | (have H2_ := (Option.bind_some _ _).symm.trans H; rw [hy280]; with_reducible exact H2_) | (have H2_ := (Option.bind_some _ _).symm.trans H; with_reducible exact H2_) | with_reducible exact H | (rw [hy280]; exact H) | exact H
          have Ny280 := Aside0.mk hy280
          clear hy280
          have H' := Aside0.mk H
          clear H
          try go_wp2
          have n0_ := Aside0.mk (Kd.R_drew HO_9.out)
          have n1_ := Aside0.mk (Kd.R_drew HO_11.out)
          have n2_ := Aside0.mk (blk_drew BK267.out)
          have n3_ := Aside0.mk (below_drew1 HB.out)
          clear HO_9
          clear HO_11
          clear BK267
          clear HB
          have HO_9 := n0_
          have HO_11 := n1_
          have BK267 := n2_
          have HB := n3_
          clear n0_ n1_ n2_ n3_
          obtain ⟨Ao19, co19, eo19⟩ := Kd.R_slice HO_9.out
          (first | subst eo19 | (injection eo19 with f1_ f2_ f3_; have f4_ := f1_.symm; have f5_ := f3_.symm; clear f1_ f2_ f3_; subst f4_; subst f5_))
          have p277 : 0 ≤ (x12_1 : Int) := of_decide_eq_true (by first | (with_reducible assumption) | assumption)
          have q277 : x12_1 < (t273.length : Int) := of_decide_eq_true (by first | (with_reducible assumption) | assumption)
          obtain ⟨ad277, e277, hx277_0, hx277_1⟩ := at_T45 (Kd.R_reads' HO_9.out).2.2 x12_1 p277 q277
          cases e277
          replace p277 := eq_true p277
          replace q277 := eq_true q277
          have p278 : 0 ≤ (x12_1 : Int) := of_decide_eq_true (by first | (with_reducible assumption) | assumption)
          have q278 : x12_1 < (t273.length : Int) := of_decide_eq_true (by first | (with_reducible assumption) | assumption)
          obtain ⟨ad278, e278, hx278_0, hx278_1⟩ := at_T45 (Kd.R_reads' HO_9.out).2.2 x12_1 p278 q278
          obtain rfl : ad277 = ad278 := (by injection e278)
          replace p278 := eq_true p278
          replace q278 := eq_true q278
          have p279 : 0 ≤ ((ji14) : Int) := of_decide_eq_true (by first | (with_reducible assumption) | assumption)
          have q279 : (ji14) < (l0_2.length : Int) := of_decide_eq_true (by first | (with_reducible assumption) | assumption)
          obtain ⟨ad279, e279, hx279_0⟩ := Kd.at_bool HR0_2.out (ji14) p279 q279
          have hw279_0 := hx279_0
          cases e279
          replace hx279_0 := (HB.out.cell (World.block_lt_of_cell? w _ hx279_0)).trans hx279_0
          replace p279 := eq_true p279
          replace q279 := eq_true q279
          refine start_ (n := 22) (S := fun w' => w'.cell? ⟨gb267, 0, none⟩ = some (.int .i64 a0_0) ∧ w'.cell? ⟨gb267, 1, none⟩ = some (.int .i64 a0_1) ∧ w'.cell? ⟨gb267, 2, none⟩ = some (.slice (some ad279) l0_2.length c0_2) ∧ w'.cell? (ad277.add ((x12_1).toNat * 2)) = some (.int .i64 ((rd_T45 t273 x12_1).f0)) ∧ w'.cell? ⟨(ad277.add ((x12_1).toNat * 2)).block, (ad277.add ((x12_1).toNat * 2)).off + 1, none⟩ = some (.int .i64 ((rd_T45 t273 x12_1).f1)) ∧ w'.cell? (ad277.add ((x12_1).toNat * 2)) = some (.int .i64 ((rd_T45 t273 x12_1).f0)) ∧ w'.cell? ⟨(ad277.add ((x12_1).toNat * 2)).block, (ad277.add ((x12_1).toNat * 2)).off + 1, none⟩ = some (.int .i64 ((rd_T45 t273 x12_1).f1)) ∧ w'.cell? (ad279.add ((ji14)).toNat) = some (.bool (rdOf false l0_2 (ji14)))) (ds := [19, 20]) #[false, false, false, false, false, false, false, false, false, false, false, false, false, false, false, false, false, false, false, false, false, false] (by kernel_rfl) rfl rfl ⟨(blk_cell BK267.out 0).trans rfl, (blk_cell BK267.out 1).trans rfl, (blk_cell BK267.out 2).trans rfl, hx277_0, hx277_1, hx278_0, hx278_1, ((HB.out.cell (World.block_lt_of_cell? w _ hw279_0)).trans hw279_0)⟩ (fun hHeld => ?_); refine with_tabW barscanref20_Extract.tab10 barscanref20_Extract.bits10 (fun HT_ HW_ => ?_)
          generalize wr.drew = w18 at HO_9 HO_11 BK267 HB hx277_0 hx277_1 hx278_0 hx278_1 hx279_0 hHeld ⊢
          refine pure_ (i := 0) (N := some 38) (v := ?_) (a' := ?_) #[true, false, false, false, false, false, false, false, false, false, false, false, false, false, false, false, false, false, false, false, false, false] rfl rfl (any_of HT_.out (by kernel_rfl)) (fun _ _ _ h => h) (Or.inl ⟨by rfl, ?_⟩) ?_ ?_
          rotate_left
          ·intro w'
           go_simp
           with_reducible rfl
          rotate_left
          ·simp only [Act.put, List.setIfInBounds_toArray, List.set_cons_zero, List.set_cons_succ, i64_w, i32_w]
           rfl
          refine pure_ (i := 1) (N := some 39) (v := ?_) (a' := ?_) #[true, true, false, false, false, false, false, false, false, false, false, false, false, false, false, false, false, false, false, false, false, false] rfl rfl (any_of HT_.out (by kernel_rfl)) (fun _ _ _ h => h) (Or.inl ⟨by rfl, ?_⟩) ?_ ?_
          rotate_left
          ·intro w'
           go_simp
           with_reducible rfl
          rotate_left
          ·simp only [Act.put, List.setIfInBounds_toArray, List.set_cons_zero, List.set_cons_succ, i64_w, i32_w]
           rfl
          refine pure_ (i := 3) (N := some 41) (v := ?_) (a' := ?_) #[true, true, false, true, false, false, false, false, false, false, false, false, false, false, false, false, false, false, false, false, false, false] rfl rfl (any_of HT_.out (by kernel_rfl)) (fun _ _ _ h => h) (Or.inl ⟨by rfl, ?_⟩) ?_ ?_
          rotate_left
          ·intro w'
           go_simp
           with_reducible rfl
          rotate_left
          ·simp only [Act.put, List.setIfInBounds_toArray, List.set_cons_zero, List.set_cons_succ, i64_w, i32_w]
           rfl
          refine pure_ (i := 4) (N := some 42) (v := ?_) (a' := ?_) #[true, true, false, true, true, false, false, false, false, false, false, false, false, false, false, false, false, false, false, false, false, false] rfl rfl (any_of HT_.out (by kernel_rfl)) (fun _ _ _ h => h) (Or.inl ⟨by rfl, ?_⟩) ?_ ?_
          rotate_left
          ·intro w'
           go_simp
           with_reducible rfl
          rotate_left
          ·simp only [Act.put, List.setIfInBounds_toArray, List.set_cons_zero, List.set_cons_succ, i64_w, i32_w]
           rfl
          refine pure_ (i := 5) (N := some 43) (v := ?_) (a' := ?_) #[true, true, false, true, true, true, false, false, false, false, false, false, false, false, false, false, false, false, false, false, false, false] rfl rfl (any_of HT_.out (by kernel_rfl)) (fun _ _ _ h => h) (Or.inl ⟨by rfl, ?_⟩) ?_ ?_
          rotate_left
          ·intro w'
           go_simp
           with_reducible rfl
          rotate_left
          ·simp only [Act.put, List.setIfInBounds_toArray, List.set_cons_zero, List.set_cons_succ, i64_w, i32_w]
           rfl
          refine pure_ (i := 6) (N := some 44) (v := ?_) (a' := ?_) #[true, true, false, true, true, true, true, false, false, false, false, false, false, false, false, false, false, false, false, false, false, false] rfl rfl (any_of HT_.out (by kernel_rfl)) (fun _ _ _ h => h) (Or.inl ⟨by rfl, ?_⟩) ?_ ?_
          rotate_left
          ·intro w'
           go_simp
           with_reducible rfl
          rotate_left
          ·simp only [Act.put, List.setIfInBounds_toArray, List.set_cons_zero, List.set_cons_succ, i64_w, i32_w]
           rfl
          refine pure_ (i := 8) (N := some 46) (v := ?_) (a' := ?_) #[true, true, false, true, true, true, true, false, true, false, false, false, false, false, false, false, false, false, false, false, false, false] rfl rfl (any_of HT_.out (by kernel_rfl)) (fun _ _ _ h => h) (Or.inl ⟨by rfl, ?_⟩) ?_ ?_
          rotate_left
          ·intro w'
           go_simp
           with_reducible rfl
          rotate_left
          ·simp only [Act.put, List.setIfInBounds_toArray, List.set_cons_zero, List.set_cons_succ, i64_w, i32_w]
           rfl
          refine pure_ (i := 11) (N := some 49) (v := ?_) (a' := ?_) #[true, true, false, true, true, true, true, false, true, false, false, true, false, false, false, false, false, false, false, false, false, false] rfl rfl (any_of HT_.out (by kernel_rfl)) (fun _ _ _ h => h) (Or.inl ⟨by rfl, ?_⟩) ?_ ?_
          rotate_left
          ·intro w'
           go_simp
           with_reducible rfl
          rotate_left
          ·simp only [Act.put, List.setIfInBounds_toArray, List.set_cons_zero, List.set_cons_succ, i64_w, i32_w]
           rfl
          refine pure_ (i := 12) (N := some 50) (v := ?_) (a' := ?_) #[true, true, false, true, true, true, true, false, true, false, false, true, true, false, false, false, false, false, false, false, false, false] rfl rfl (any_of HT_.out (by kernel_rfl)) (fun _ _ _ h => h) (Or.inl ⟨by rfl, ?_⟩) ?_ ?_
          rotate_left
          ·intro w'
           go_simp
           with_reducible rfl
          rotate_left
          ·simp only [Act.put, List.setIfInBounds_toArray, List.set_cons_zero, List.set_cons_succ, i64_w, i32_w]
           rfl
          refine pure_ (i := 13) (N := some 51) (v := ?_) (a' := ?_) #[true, true, false, true, true, true, true, false, true, false, false, true, true, true, false, false, false, false, false, false, false, false] rfl rfl (any_of HT_.out (by kernel_rfl)) (fun _ _ _ h => h) (Or.inl ⟨by rfl, ?_⟩) ?_ ?_
          rotate_left
          ·intro w'
           go_simp
           with_reducible rfl
          rotate_left
          ·simp only [Act.put, List.setIfInBounds_toArray, List.set_cons_zero, List.set_cons_succ, i64_w, i32_w]
           rfl
          refine pure_ (i := 14) (N := some 52) (v := ?_) (a' := ?_) #[true, true, false, true, true, true, true, false, true, false, false, true, true, true, true, false, false, false, false, false, false, false] rfl rfl (any_of HT_.out (by kernel_rfl)) (fun _ _ _ h => h) (Or.inl ⟨by rfl, ?_⟩) ?_ ?_
          rotate_left
          ·intro w'
           go_simp
           with_reducible rfl
          rotate_left
          ·simp only [Act.put, List.setIfInBounds_toArray, List.set_cons_zero, List.set_cons_succ, i64_w, i32_w]
           rfl
          refine take_ (i := 2) (N := some 40) (v := ?_) (a' := ?_) #[true, true, true, true, true, true, true, false, true, false, false, true, true, true, true, false, false, false, false, false, false, false] rfl rfl (take_ofW HT_.out HW_.out (by kernel_rfl)) (fun _ _ _ h => h) (Or.inl ⟨by rfl, ?_⟩) hHeld ?_ ?_
          rotate_left
          ·rintro w' ⟨s0, s1, s2, s3, s4, s5, s6, s7⟩
           go_simp
           with_reducible rfl
          rotate_left
          ·simp only [Act.put, List.setIfInBounds_toArray, List.set_cons_zero, List.set_cons_succ, i64_w, i32_w]
           rfl
          refine take_ (i := 7) (N := some 45) (v := ?_) (a' := ?_) #[true, true, true, true, true, true, true, true, true, false, false, true, true, true, true, false, false, false, false, false, false, false] rfl rfl (take_ofW HT_.out HW_.out (by kernel_rfl)) (fun _ _ _ h => h) (Or.inl ⟨by rfl, ?_⟩) hHeld ?_ ?_
          rotate_left
          ·rintro w' ⟨s0, s1, s2, s3, s4, s5, s6, s7⟩
           go_simp
           with_reducible rfl
          rotate_left
          ·simp only [Act.put, List.setIfInBounds_toArray, List.set_cons_zero, List.set_cons_succ, i64_w, i32_w]
           rfl
          refine take_ (i := 9) (N := some 47) (v := ?_) (a' := ?_) #[true, true, true, true, true, true, true, true, true, true, false, true, true, true, true, false, false, false, false, false, false, false] rfl rfl (take_ofW HT_.out HW_.out (by kernel_rfl)) (fun _ _ _ h => h) (Or.inl ⟨by rfl, ?_⟩) hHeld ?_ ?_
          rotate_left
          ·rintro w' ⟨s0, s1, s2, s3, s4, s5, s6, s7⟩
           go_simp
           with_reducible rfl
          rotate_left
          ·simp only [Act.put, List.setIfInBounds_toArray, List.set_cons_zero, List.set_cons_succ, i64_w, i32_w]
           rfl
          refine pure_ (i := 10) (N := some 48) (v := ?_) (a' := ?_) #[true, true, true, true, true, true, true, true, true, true, true, true, true, true, true, false, false, false, false, false, false, false] rfl rfl (any_of HT_.out (by kernel_rfl)) (fun _ _ _ h => h) (Or.inl ⟨by rfl, ?_⟩) ?_ ?_
          rotate_left
          ·intro w'
           go_simp
           with_reducible rfl
          rotate_left
          ·simp only [Act.put, List.setIfInBounds_toArray, List.set_cons_zero, List.set_cons_succ, i64_w, i32_w]
           rfl
          refine take_ (i := 15) (N := some 53) (v := ?_) (a' := ?_) #[true, true, true, true, true, true, true, true, true, true, true, true, true, true, true, true, false, false, false, false, false, false] rfl rfl (take_ofW HT_.out HW_.out (by kernel_rfl)) (fun _ _ _ h => h) (Or.inl ⟨by rfl, ?_⟩) hHeld ?_ ?_
          rotate_left
          ·rintro w' ⟨s0, s1, s2, s3, s4, s5, s6, s7⟩
           go_simp
           with_reducible rfl
          rotate_left
          ·simp only [Act.put, List.setIfInBounds_toArray, List.set_cons_zero, List.set_cons_succ, i64_w, i32_w]
           rfl
          refine pure_ (i := 16) (N := some 54) (v := ?_) (a' := ?_) #[true, true, true, true, true, true, true, true, true, true, true, true, true, true, true, true, true, false, false, false, false, false] rfl rfl (any_of HT_.out (by kernel_rfl)) (fun _ _ _ h => h) (Or.inl ⟨by rfl, ?_⟩) ?_ ?_
          rotate_left
          ·intro w'
           go_simp
           with_reducible rfl
          rotate_left
          ·simp only [Act.put, List.setIfInBounds_toArray, List.set_cons_zero, List.set_cons_succ, i64_w, i32_w]
           rfl
          refine pure_ (i := 17) (N := some 55) (v := ?_) (a' := ?_) #[true, true, true, true, true, true, true, true, true, true, true, true, true, true, true, true, true, true, false, false, false, false] rfl rfl (any_of HT_.out (by kernel_rfl)) (fun _ _ _ h => h) (Or.inl ⟨by rfl, ?_⟩) ?_ ?_
          rotate_left
          ·intro w'
           go_simp
           with_reducible rfl
          rotate_left
          ·simp only [Act.put, List.setIfInBounds_toArray, List.set_cons_zero, List.set_cons_succ, i64_w, i32_w]
           rfl
          refine take_ (i := 18) (N := some 56) (v := ?_) (a' := ?_) #[true, true, true, true, true, true, true, true, true, true, true, true, true, true, true, true, true, true, true, false, false, false] rfl rfl (take_ofW HT_.out HW_.out (by kernel_rfl)) (fun _ _ _ h => h) (Or.inl ⟨by rfl, ?_⟩) hHeld ?_ ?_
          rotate_left
          ·rintro w' ⟨s0, s1, s2, s3, s4, s5, s6, s7⟩
           go_simp
           with_reducible rfl
          rotate_left
          ·simp only [Act.put, List.setIfInBounds_toArray, List.set_cons_zero, List.set_cons_succ, i64_w, i32_w]
           rfl
          refine last_ (i := 19) (N := some 57) #[true, true, true, true, true, true, true, true, true, true, true, true, true, true, true, true, true, true, true, true, false, false] rfl rfl (one_of HT_.out (by kernel_rfl)) (by decide) (fun K hK => ?_)
          refine value_ (w1 := ?_) (v := ?_) (by rfl) rfl ?_ ?_
          rotate_left 2
          ·go_simp
           constructor
           ·rfl
           ·rfl
          refine hK.out _ _ ?_
          clear hK K
          refine norm_ (a' := ?_) ?_ ?_
          rotate_left
          ·show Act.put _ (some 57) _ = _
           simp only [Act.put, List.setIfInBounds_toArray, List.set_cons_zero, List.set_cons_succ, i64_w, i32_w]
           rfl
          refine last_ (i := 20) (N := some 58) #[true, true, true, true, true, true, true, true, true, true, true, true, true, true, true, true, true, true, true, true, true, false] rfl rfl (one_of HT_.out (by kernel_rfl)) (by decide) (fun K hK => ?_)
          refine Kd.R_append_step Kd.bool (w0 := w) w.heap.size (by rfl) (.tmp 38) (.tmp 57) 22 4 (.bool false) 1 rfl Try.underlying22 info4 rfl (by decide) (by omega) u11 x11_1 (rdOf false l0_2 (ji14)) [.bool (rdOf false l0_2 (ji14))] (fun _ => True) (fun _ => False) rfl rfl ?aP (fun _ hk => hk.elim) ?aF ?aO ?aB ?aS ?aL ?_
          (case aP => exact rfl)
          (case aB => exact (belA HB.out))
          (case aF => exact (fun _ _ => trivial))
          (case aO => exact (rowA HO_11.out))
          (case aS => exact (below_size (belA HB.out)))
          (case aL => have := LMc17.out; omega)
          intro v281 w20 ho hb hg hat
          rw [← Ny280.out] at ho
          have n0_ := Aside0.mk (Kd.R_over' (rowA HO_9.out) (Kd.R_typed (rowA HO_11.out)) (by decide) hg)
          have n1_ := Aside0.mk (blk_grown (g := gb267) (o := .cells #[.int .i64 a0_0, .int .i64 a0_1, .slice (some ad279) l0_2.length c0_2] 24 (0, 0)) (blkA BK267.out) hg (Kd.R_ne HO_11.out BK267.out (by decide)))
          have n2_ := Aside0.mk (hb)
          have n3_ := Aside0.mk (ho)
          clear HO_9
          clear BK267
          clear HB
          clear HO_11
          have HO_9 := n0_
          have BK267 := n1_
          have HB := n2_
          have HO282 := n3_
          clear n0_ n1_ n2_ n3_
          clear ho hb hg hat
          refine hK.out _ _ ?_
          clear hK K
          refine norm_ (a' := ?_) ?_ ?_
          rotate_left
          ·show Act.put _ (some 58) _ = _
           simp only [Act.put, List.setIfInBounds_toArray, List.set_cons_zero, List.set_cons_succ, i64_w, i32_w]
           rfl
          refine pure_ (i := 21) (N := some 11) (v := ?_) (a' := ?_) #[true, true, true, true, true, true, true, true, true, true, true, true, true, true, true, true, true, true, true, true, true, true] rfl rfl (any_of HT_.out (by kernel_rfl)) (fun _ _ _ h => h) (Or.inl ⟨by rfl, ?_⟩) ?_ ?_
          rotate_left
          ·intro w'
           go_simp
           with_reducible rfl
          rotate_left
          ·simp only [Act.put, List.setIfInBounds_toArray, List.set_cons_zero, List.set_cons_succ, i64_w, i32_w]
           rfl
          refine done_ (done_of HT_.out (by kernel_rfl)) ?_
          try go_wp2
          go_roundg k1
          case measure => have := HK1.out; omega
          case rel => exact ⟨(y280), (wrap64 (x12_1 + 1)), smpA, H', ⟨by have := HK1.out; omega⟩, ⟨rowA HO_9.out⟩, ⟨rowA HO282.out⟩, ⟨blkA BK267.out⟩, ⟨belA HB.out⟩⟩
         ·rw [if_neg c17] at H
          exact absurd H (by simp)
        ·rw [if_neg c16] at H
         exact absurd H (by simp)
       ·rw [if_neg c15] at H
        exact absurd H (by simp)
      ·rw [if_neg c13] at H
       exact absurd H (by simp)
     ·rw [if_neg c12] at H
      exact absurd H (by simp)
    ·rw [if_neg c11] at H
     have c11b0 : decide (x12_1 < (wrap64 (8 * t270))) = false := decide_eq_false c11
     clear c11
     replace H := Option.bind_eq_some_iff.mp H
     obtain ⟨⟨t283, t284⟩, A210, H⟩ := H
     replace H : (some (t283, t284)) = some (r1, r2) := H
     have A21 := Aside0.mk A210
     clear A210
     simp only [Option.some.injEq, Prod.mk.injEq] at H
     obtain ⟨rfl, rfl⟩ := H
     obtain ⟨Ao22, co22, eo22⟩ := Kd.R_slice HO_11.out
     subst eo22
     go_wp2_with (first | ((with_reducible refine gate_callee (f := 67) rfl ?_); refine goesL_ (some 60) rfl rfl Try.func67 (by kernel_rfl) rfl #[.slice Ao22 x11_1.length co22, .int .i64 8, .bool false] rfl argA ?_; (with_reducible refine (barscanref01_Words.calls k1 _ _ x11_1 8 false t283 t284 _ ?side1 ?side2 A21.out).mono ?_); (case side1 => exact lowA (Kd.R_reads' HO_11.out).2.2); (case side2 => exact (Kd.R_reads' HO_11.out).2.1); rintro e w23 ⟨v285, rfl, ho0, hb⟩; refine ⟨_, rfl, ?_⟩; have HO286 := Aside0.mk (Kd.R_lower ho0 (below_size (belA HB.out))); replace HO_9 := Aside0.mk (Kd.R_below (rowA HO_9.out) hb); replace HO_11 := Aside0.mk (Kd.R_below (rowA HO_11.out) hb); replace BK267 := Aside0.mk (blk_below (g := gb267) (o := .cells #[.int .i64 a0_0, .int .i64 a0_1, .slice A0_2 l0_2.length c0_2] 24 (0, 0)) (blkA BK267.out) hb); replace HB := Aside0.mk (below_step (belA HB.out) hb); (try clear hb); (try clear hb2); (try clear hk); (try clear hi); (try clear ho0)))
     go_ret2
     exact ⟨_, errA, rowA HO286.out, belA HB.out⟩
 ·rw [if_neg c3] at H
  have c3b0 : (t269 == 0) = false := beq_eq_false_iff_ne.mpr c3
  have c3b1 : (t269 != 0) = true := bne_iff_ne.mpr c3
  simp only [Option.some.injEq, Prod.mk.injEq] at H
  obtain ⟨rfl, rfl⟩ := H
  go_enter Try.func33, Try.ntmps33
  go_wp2_with (first | ((with_reducible refine gate_dst (N := 1) rfl ?_); refine boxE (N := 1) (cs := #[.int .i64 a0_0, .int .i64 a0_1, .slice A0_2 l0_2.length c0_2]) (t := 24) ?_; intro gb267 hg w24 hbox hb; have BK267 := Aside0.mk (hbox); have GW267 := Aside0.mk ((szA hg HB.out : w.heap.size ≤ gb267)); have GE267 := Aside0.mk ((szA hg HB.out : w.heap.size ≤ gb267)); replace HB := Aside0.mk (below_step (belA HB.out) hb); clear hb hbox hg; obtain ⟨hcz25_0, hcz25_1, hcz25_2, hfz25_0, hfz25_1, hfz25_2⟩ := bk3 BK267.out) | ((with_reducible refine gate_callee (f := 35) rfl ?_); refine goesL_ (some 15) rfl rfl Try.func35 (by kernel_rfl) rfl #[.agg #[.int .i64 a0_0, .int .i64 a0_1, .slice A0_2 l0_2.length c0_2]] rfl argA ?_; (with_reducible refine (barscanref20_Version.calls a0_0 a0_1 _ _ l0_2 t268 t269 _ ?side1 ?side2 A2.out).mono ?_); (case side1 => exact lowA (Kd.C_below HR0_2.out HB.out)); (case side2 => exact HC0_2.out); rintro e w26 ⟨rfl, hb⟩; refine ⟨_, rfl, ?_⟩; replace BK267 := Aside0.mk (blk_below (g := gb267) (o := .cells #[.int .i64 a0_0, .int .i64 a0_1, .slice A0_2 l0_2.length c0_2] 24 (0, 0)) (blkA BK267.out) hb); replace HB := Aside0.mk (below_step (belA HB.out) hb); (try clear hb); (try clear hb2); (try clear hk); (try clear hi)))
  go_ret2
  exact ⟨_, errA, nilA, belA HB.out⟩

end Go.Proofs.Ytbbnagjfjgkgjaa.L
