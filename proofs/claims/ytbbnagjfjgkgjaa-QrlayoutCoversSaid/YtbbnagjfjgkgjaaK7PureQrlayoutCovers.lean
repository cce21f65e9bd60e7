/- The path visits each data module once, and the modules of all purposes are counted: the plain law. -/
import Derived.Test.YtbbnagjfjgkgjaaK7Lv2
import Derived.Test.YtbbnagjfjgkgjaaK7Cop
namespace Go.Proofs.Ytbbnagjfjgkgjaa.Pure
open Go.RowKit Go.Proofs.Ytbbnagjfjgkgjaa.L Go.Proofs.YtbbnagjfjgkgjaaW.PrintWords Go.Proofs.YtbbnagjfjgkgjaaW.PrintLast Go.Proofs.YtbbnagjfjgkgjaaW.PrintMore
set_option linter.unusedVariables false
set_option linter.unusedSimpArgs false

theorem cw_no {v : Int} (h : ¬ (1 ≤ v ∧ v ≤ 40)) (k : Nat) : barscanref17_Codewords.f (k + 1) v = some (0, 0, 14) := by
  unfold barscanref17_Codewords.f
  by_cases h1 : v < 1
  · rw [if_pos h1, barscanref17_Codewords.j0]
    rfl
  · rw [if_neg h1, decide_eq_true (by omega), barscanref17_Codewords.j0]
    rfl
theorem al_two : ∀ v : Fin 40, (alg ((v.val + 1 : Nat) : Int)).length = 0 ∨ 2 ≤ (alg ((v.val + 1 : Nat) : Int)).length := by decide +kernel
theorem QrlayoutCovers (v : Int) (w : World) : Calls Try.prog 7 #[.int .i64 v] w fun e w' => e = .returned (.bool true) ∧ Below w.heap.size w w' := by
  by_cases h : 1 ≤ v ∧ v ≤ 40
  · obtain ⟨vn, rfl⟩ := Int.eq_ofNat_of_zero_le (show 0 ≤ v by omega)
    have hv : 1 ≤ vn ∧ vn ≤ 40 := by omega
    obtain ⟨n, r, hcw, hn, c1, c2, c4, c5, c6, c7⟩ := counts hv
    have hs := sd_eq h
    have hcw' := mono_le (f := fun k => barscanref17_Codewords.f k (vn : Int)) (fun k => barscanref17_Codewords.mono _ k) (show 10 ≤ 40000 by omega) hcw
    have hlen := gridL_len (vn : Int) (sd (vn : Int) * sd (vn : Int))
    have hal := (al_ok ⟨vn - 1, by omega⟩).1
    simp only [show vn - 1 + 1 = vn by omega] at hal
    refine law7_yes 40000 (vn : Int) n r (17 + 4 * (vn : Int)) (sd (vn : Int) * sd (vn : Int)) (gridL (vn : Int) (sd (vn : Int) * sd (vn : Int))) (ptsT (vn : Int)) (alg (vn : Int)) 0 w h rfl (by rw [Int.natCast_mul, hs])
      (cells_yes h _ (Nat.le_refl _)) (path_yes h _ (by omega)) hcw' (refAligns h _ (by omega)) hn hlen (by rw [pts_len h]; exact c1)
      (fun p hp => by
        obtain ⟨hx, hy, hc⟩ := pts_facts h p hp
        exact ⟨hx, hy, ((ix_bd h hx hy).2.2.2.2).trans hc⟩)
      (fun i hi => ?_) (fun x y hx hy => ?_) (fun j hj => ?_) (fun j hj => seen_iff h j hj) hal (by rw [c2]; rfl) ?_ (by rw [c5]; rfl) ?_ (by rw [c7]; rfl)
    · have e : rd_T45 (ptsT (vn : Int)) (i : Int) = (ptsT (vn : Int))[i] := by simp [rd_T45, List.getD_eq_getElem?_getD, hi]
      rw [e, Bool.eq_false_iff]
      intro hh
      obtain ⟨q, hq, heq⟩ := List.any_eq_true.1 hh
      obtain ⟨m, hm, rfl⟩ := List.mem_iff_getElem.1 hq
      have hm' : m < i := by rw [List.length_take] at hm; omega
      rw [List.getElem_take] at heq
      have hml : m < (ptsT (vn : Int)).length := by omega
      have a := pts_facts h _ (List.getElem_mem hml)
      have b := pts_facts h _ (List.getElem_mem hi)
      have e2 := ix_inj h a.1 b.1 (by simpa [ix] using heq)
      exact List.pairwise_iff_getElem.1 (pts_nodup h) m i hml hi hm' e2
    · obtain ⟨a, b, _, _, _⟩ := ix_bd h (p := (⟨x, y⟩ : S45)) hx hy
      exact ⟨a, b⟩
    · have hjl : j < (gridL (vn : Int) (sd (vn : Int) * sd (vn : Int))).length := by rw [hlen]; exact hj
      rw [rd_nat _ _ hjl]
      exact grid_range hv _ _ (List.getElem_mem hjl)
    · rw [c4]
      unfold alignN
      by_cases hl : 0 < (alg (vn : Int)).length
      · rw [if_pos hl, if_pos hl]
        have hl2 := al_two ⟨vn - 1, by omega⟩
        simp only [show vn - 1 + 1 = vn by omega] at hl2
        generalize (alg (vn : Int)).length = L at hl hal hl2 ⊢
        have : L = 2 ∨ L = 3 ∨ L = 4 ∨ L = 5 ∨ L = 6 ∨ L = 7 := by omega
        rcases this with rfl | rfl | rfl | rfl | rfl | rfl <;> rfl
      · rw [if_neg hl, if_neg hl]; rfl
    · rw [c6]
      unfold infoN
      by_cases h7 : 7 ≤ vn
      · rw [if_pos h7, if_pos (by omega)]; rfl
      · rw [if_neg h7, if_neg (by omega)]; rfl
  · exact law7_no 100 v w (cells_no h _) (path_no h _) (cw_no h 99)
end Go.Proofs.Ytbbnagjfjgkgjaa.Pure
