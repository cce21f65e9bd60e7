/- The path visits each data module once. -/
import Derived.Test.YtbbnagjfjgkgjaaK7Cow
import Derived.Test.YtbbnagjfjgkgjaaK7PureQrlayoutCells
namespace Go.Proofs.Ytbbnagjfjgkgjaa.Pure
open Go.RowKit Go.Proofs.Ytbbnagjfjgkgjaa.L Go.Proofs.YtbbnagjfjgkgjaaW.PrintWords Go.Proofs.YtbbnagjfjgkgjaaW.PrintLast Go.Proofs.YtbbnagjfjgkgjaaW.PrintMore
set_option linter.unusedVariables false
set_option linter.unusedSimpArgs false

theorem colR_mem {s r : Int} {up : Bool} {n : Nat} {p : S45} : p ∈ colR s r up n ↔ ∃ i : Nat, i < n ∧ (p = ⟨r, yv s up i⟩ ∨ p = ⟨r - 1, yv s up i⟩) := by
  unfold colR
  simp only [List.mem_flatMap, List.mem_range, List.mem_cons, List.not_mem_nil, or_false]
theorem colR_nodup (s r : Int) (up : Bool) : ∀ n : Nat, (colR s r up n).Nodup
  | 0 => List.nodup_nil
  | n + 1 => by
    rw [colR_succ, List.nodup_append]
    refine ⟨colR_nodup s r up n, ?_, ?_⟩
    · rw [List.nodup_cons]
      refine ⟨?_, List.nodup_cons.2 ⟨by simp, List.nodup_nil⟩⟩
      intro hh
      rw [List.mem_singleton] at hh
      have := congrArg S45.f0 hh
      simp only at this
      omega
    · intro a ha b hb hab
      subst hab
      obtain ⟨i, hi, hp⟩ := colR_mem.1 ha
      have e1 : a.f1 = yv s up i := by rcases hp with rfl | rfl <;> rfl
      have e2 : a.f1 = yv s up n := by
        simp only [List.mem_cons, List.not_mem_nil, or_false] at hb
        rcases hb with rfl | rfl <;> rfl
      rw [e1] at e2
      unfold yv at e2
      split at e2 <;> omega
theorem allL_cols {v : Int} (h : 1 ≤ v ∧ v ≤ 40) : ∀ (n : Nat) (r : Int) (up : Bool), r < 17 + 4 * v → ∀ p ∈ allL (17 + 4 * v) n r up, p.f0 ≤ r
  | 0, r, up, hr, p, hp => by simp [allL] at hp
  | n + 1, r, up, hr, p, hp => by
    have hs := sd_eq h; have hb := sd_bd h
    rw [allL] at hp
    by_cases h0 : r > 0
    · rw [if_pos h0] at hp
      obtain ⟨q, hq⟩ : ∃ q, (if r = 6 then 5 else r) = q := ⟨_, rfl⟩
      have hq1 : 1 ≤ q ∧ q ≤ r := by rw [← hq]; split <;> omega
      have e2 : (wrap64 (2 * (17 + 4 * v))).toNat = 2 * sd v := by rw [w64 (by omega)]; omega
      rw [hq, e2, colL_eq up (by omega) (by omega) hq1.1 (by omega) (sd v) (by omega), w64 (n := q - 2) (by omega), List.mem_append] at hp
      rcases hp with hp | hp
      · obtain ⟨i, hi, hp⟩ := colR_mem.1 hp
        rcases hp with rfl | rfl
        · show q ≤ r; omega
        · show q - 1 ≤ r; omega
      · have := allL_cols h n (q - 2) (!up) (by omega) p hp
        omega
    · rw [if_neg h0] at hp; simp at hp
theorem allL_nodup {v : Int} (h : 1 ≤ v ∧ v ≤ 40) : ∀ (n : Nat) (r : Int) (up : Bool), r < 17 + 4 * v → (allL (17 + 4 * v) n r up).Nodup
  | 0, r, up, hr => by rw [allL]; exact List.nodup_nil
  | n + 1, r, up, hr => by
    have hs := sd_eq h; have hb := sd_bd h
    rw [allL]
    by_cases h0 : r > 0
    · rw [if_pos h0]
      obtain ⟨q, hq⟩ : ∃ q, (if r = 6 then 5 else r) = q := ⟨_, rfl⟩
      have hq1 : 1 ≤ q ∧ q ≤ r := by rw [← hq]; split <;> omega
      have e2 : (wrap64 (2 * (17 + 4 * v))).toNat = 2 * sd v := by rw [w64 (by omega)]; omega
      rw [hq, e2, colL_eq up (by omega) (by omega) hq1.1 (by omega) (sd v) (by omega), w64 (n := q - 2) (by omega), List.nodup_append]
      refine ⟨colR_nodup _ _ _ _, allL_nodup h n (q - 2) (!up) (by omega), ?_⟩
      intro a ha b hb hab
      subst hab
      have hc := allL_cols h n (q - 2) (!up) (by omega) a hb
      obtain ⟨i, hi, hp⟩ := colR_mem.1 ha
      rcases hp with rfl | rfl
      · replace hc : q ≤ q - 2 := hc; omega
      · replace hc : q - 1 ≤ q - 2 := hc; omega
    · rw [if_neg h0]; exact List.nodup_nil
theorem allL_mem {v : Int} (h : 1 ≤ v ∧ v ≤ 40) : ∀ (n : Nat) (r : Int) (up : Bool), r.toNat ≤ n → r < 17 + 4 * v → ((r % 2 = 0 ∧ 6 ≤ r) ∨ (r % 2 = 1 ∧ r ≤ 5)) → ∀ x y : Int, 0 ≤ x → x ≤ r → x ≠ 6 → 0 ≤ y → y < 17 + 4 * v → (⟨x, y⟩ : S45) ∈ allL (17 + 4 * v) n r up
  | 0, r, up, hn, hr, hpar, x, y, hx0, hx1, hx6, hy0, hy1 => by omega
  | n + 1, r, up, hn, hr, hpar, x, y, hx0, hx1, hx6, hy0, hy1 => by
    have hs := sd_eq h; have hb := sd_bd h
    have h0 : r > 0 := by omega
    rw [allL, if_pos h0]
    obtain ⟨q, hq⟩ : ∃ q, (if r = 6 then 5 else r) = q := ⟨_, rfl⟩
    have hq1 : 1 ≤ q ∧ q ≤ r ∧ (q = r ∨ (r = 6 ∧ q = 5)) ∧ q ≠ 6 := by rw [← hq]; split <;> omega
    have e2 : (wrap64 (2 * (17 + 4 * v))).toNat = 2 * sd v := by rw [w64 (by omega)]; omega
    rw [hq, e2, colL_eq up (by omega) (by omega) hq1.1 (by omega) (sd v) (by omega), w64 (n := q - 2) (by omega), List.mem_append]
    by_cases hcol : x = q ∨ x = q - 1
    · refine .inl (colR_mem.2 ?_)
      cases up
      · refine ⟨y.toNat, by omega, ?_⟩
        have : yv (17 + 4 * v) false y.toNat = y := by unfold yv; simp; omega
        rw [this]
        rcases hcol with rfl | rfl
        · exact .inl rfl
        · exact .inr rfl
      · refine ⟨(17 + 4 * v - 1 - y).toNat, by omega, ?_⟩
        have : yv (17 + 4 * v) true (17 + 4 * v - 1 - y).toNat = y := by unfold yv; simp; omega
        rw [this]
        rcases hcol with rfl | rfl
        · exact .inl rfl
        · exact .inr rfl
    · refine .inr (allL_mem h n (q - 2) (!up) (by omega) (by omega) (by omega) x y hx0 (by omega) hx6 hy0 hy1)
def ix (v : Int) (p : S45) : Int := p.f1 * (17 + 4 * v) + p.f0
theorem pts_facts {v : Int} (h : 1 ≤ v ∧ v ≤ 40) : ∀ p ∈ ptsT v, (0 ≤ p.f0 ∧ p.f0 < 17 + 4 * v) ∧ (0 ≤ p.f1 ∧ p.f1 < 17 + 4 * v) ∧ cellT v (17 + 4 * v) (alg v) p.f0 p.f1 = 1 := by
  intro p hp
  unfold ptsT dataQ at hp
  obtain ⟨hp, hc⟩ := List.mem_filter.1 hp
  obtain ⟨hx, hy⟩ := allL_in h _ _ _ (by omega) p hp
  exact ⟨hx, hy, by simpa using hc⟩
theorem pts_nodup {v : Int} (h : 1 ≤ v ∧ v ≤ 40) : (ptsT v).Nodup := by
  unfold ptsT dataQ
  exact (allL_nodup h _ _ _ (by omega)).filter _
theorem pts_mem {v : Int} (h : 1 ≤ v ∧ v ≤ 40) {x y : Int} (hx : 0 ≤ x ∧ x < 17 + 4 * v) (hy : 0 ≤ y ∧ y < 17 + 4 * v) (hc : cellT v (17 + 4 * v) (alg v) x y = 1) : (⟨x, y⟩ : S45) ∈ ptsT v := by
  unfold ptsT dataQ
  refine List.mem_filter.2 ⟨allL_mem h _ _ _ (Nat.le_refl _) (by omega) (by omega) x y hx.1 (by omega) ?_ hy.1 hy.2, by simpa using hc⟩
  intro h6
  subst h6
  unfold cellT at hc
  have h6' : (6 : Int) = 6 ∨ y = 6 := .inl rfl
  rw [if_pos h6'] at hc
  split at hc
  · omega
  · split at hc <;> omega
theorem ix_bd {v : Int} (h : 1 ≤ v ∧ v ≤ 40) {p : S45} (hx : 0 ≤ p.f0 ∧ p.f0 < 17 + 4 * v) (hy : 0 ≤ p.f1 ∧ p.f1 < 17 + 4 * v) :
    0 ≤ ix v p ∧ ix v p < ((sd v * sd v : Nat) : Int) ∧ 0 ≤ p.f1 * (17 + 4 * v) ∧ p.f1 * (17 + 4 * v) ≤ 40000 ∧ rd (gridL v (sd v * sd v)) (ix v p) = cellT v (17 + 4 * v) (alg v) p.f0 p.f1 := by
  obtain ⟨a, b, c, d⟩ := grid_at h hx hy
  exact ⟨a, b, Int.mul_nonneg hy.1 (by omega), c, d⟩
theorem ix_inj {v : Int} (h : 1 ≤ v ∧ v ≤ 40) {p q : S45} (hp : 0 ≤ p.f0 ∧ p.f0 < 17 + 4 * v) (hq : 0 ≤ q.f0 ∧ q.f0 < 17 + 4 * v) (e : ix v p = ix v q) : p = q := by
  obtain ⟨px, py⟩ := p
  obtain ⟨qx, qy⟩ := q
  unfold ix at e
  simp only at e hp hq
  have hy : py = qy := by
    have h1 : (py * (17 + 4 * v) + px) / (17 + 4 * v) = py := by
      rw [Int.add_comm, Int.add_mul_ediv_right _ _ (by omega), Int.ediv_eq_zero_of_lt hp.1 hp.2, Int.zero_add]
    have h2 : (qy * (17 + 4 * v) + qx) / (17 + 4 * v) = qy := by
      rw [Int.add_comm, Int.add_mul_ediv_right _ _ (by omega), Int.ediv_eq_zero_of_lt hq.1 hq.2, Int.zero_add]
    rw [← h1, e, h2]
  subst hy
  have : px = qx := by omega
  subst this
  rfl
theorem seen_iff {v : Int} (h : 1 ≤ v ∧ v ≤ 40) (j : Nat) (hj : j < sd v * sd v) : (∃ p ∈ ptsT v, ix v p = (j : Int)) ↔ rd (gridL v (sd v * sd v)) (j : Int) = 1 := by
  have hs := sd_eq h; have hb := sd_bd h
  constructor
  · rintro ⟨p, hp, e⟩
    obtain ⟨hx, hy, hc⟩ := pts_facts h p hp
    obtain ⟨_, _, _, _, hg⟩ := ix_bd h hx hy
    rw [← e, hg, hc]
  · intro hg
    have b1 : j % sd v < sd v := Nat.mod_lt _ (by omega)
    have b2 : j / sd v < sd v := Nat.div_lt_of_lt_mul hj
    have hx : 0 ≤ ((j % sd v : Nat) : Int) ∧ ((j % sd v : Nat) : Int) < 17 + 4 * v := by
      generalize j % sd v = q at b1 ⊢
      omega
    have hy : 0 ≤ ((j / sd v : Nat) : Int) ∧ ((j / sd v : Nat) : Int) < 17 + 4 * v := by
      generalize j / sd v = q at b2 ⊢
      omega
    have e : ix v (⟨((j % sd v : Nat) : Int), ((j / sd v : Nat) : Int)⟩ : S45) = (j : Int) := by
      unfold ix
      simp only
      rw [← hs, ← Int.natCast_mul, ← Int.natCast_add, Nat.mul_comm, Nat.div_add_mod]
    refine ⟨_, pts_mem h hx hy ?_, e⟩
    have := (ix_bd h (p := (⟨((j % sd v : Nat) : Int), ((j / sd v : Nat) : Int)⟩ : S45)) hx hy).2.2.2.2
    rw [e, hg] at this
    exact this.symm
theorem pts_len {v : Int} (h : 1 ≤ v ∧ v ≤ 40) : (ptsT v).length = (gridL v (sd v * sd v)).count 1 := by
  have hs := sd_eq h; have hb := sd_bd h
  have n1 : ((ptsT v).map fun p => (ix v p).toNat).Nodup := by
    refine List.Pairwise.map _ (fun a b (hab : a ≠ b ∧ a ∈ ptsT v ∧ b ∈ ptsT v) => ?_) ((pts_nodup h).imp_of_mem (fun ha hb hne => ⟨hne, ha, hb⟩))
    intro e
    obtain ⟨hne, ha, hb'⟩ := hab
    obtain ⟨ax, ay, _⟩ := pts_facts h a ha
    obtain ⟨bx, by', _⟩ := pts_facts h b hb'
    have a0 := (ix_bd h ax ay).1
    have b0 := (ix_bd h bx by').1
    exact hne (ix_inj h ax bx (by omega))
  have n2 : ((List.range (sd v * sd v)).filter fun j => rd (gridL v (sd v * sd v)) ((j : Nat) : Int) == 1).Nodup := List.nodup_range.filter _
  have hp : ((ptsT v).map fun p => (ix v p).toNat).Perm ((List.range (sd v * sd v)).filter fun j => rd (gridL v (sd v * sd v)) ((j : Nat) : Int) == 1) := by
    rw [List.perm_ext_iff_of_nodup n1 n2]
    intro j
    rw [List.mem_map, List.mem_filter, List.mem_range]
    constructor
    · rintro ⟨p, hp, rfl⟩
      obtain ⟨hx, hy, hc⟩ := pts_facts h p hp
      obtain ⟨i0, i1, _, _, hg⟩ := ix_bd h hx hy
      refine ⟨by omega, ?_⟩
      rw [Int.toNat_of_nonneg i0, hg, hc]
      rfl
    · rintro ⟨hj, hg⟩
      obtain ⟨p, hp, e⟩ := (seen_iff h j hj).2 (by simpa using hg)
      exact ⟨p, hp, by rw [e]; rfl⟩
  have := hp.length_eq
  rw [List.length_map] at this
  rw [this, List.count_eq_countP, ← List.countP_eq_length_filter]
  have e : gridL v (sd v * sd v) = (List.range (sd v * sd v)).map fun j : Nat => rd (gridL v (sd v * sd v)) (j : Int) := by
    refine List.ext_getElem (by simp [gridL_len]) fun i h1 h2 => ?_
    rw [List.getElem_map, List.getElem_range, rd_nat _ _ h1]
  conv => rhs; rw [e]
  rw [List.countP_map]
  rfl
end Go.Proofs.Ytbbnagjfjgkgjaa.Pure
