import Derived.Test.YtinidfeoellmhaaDoorQ2
/-! What SerialRecords asks, of the plain run over turns that are all true. -/
namespace Go.Proofs.YtinidfeoellmhaaDoor
open Go.RowKit Go.Proofs.YtinidfeoellmhaaDoorW.PrintWords

/-- A state behind q numbers and p marks, without a crash. -/
def Inv2 (s b c : Int) (q p : Nat) (n l m : Int) : Prop :=
  n = s + (q : Int) * b ∧ isWideB n = true ∧ isWideB m = true ∧ 0 ≤ l ∧ l ≤ c ∧
  ((q = 0 ∧ l = 0 ∧ p = 0) ∨ ∃ k j : Nat, p = j + 1 ∧ (q : Int) + l = (j : Int) * c + k + 1 ∧ l ≤ k ∧ (k : Int) ≤ c - 1 ∧ ((k : Int) = c - 1 ∨ isIntB (s + ((j : Int) * c + k + 1) * b) = false))

theorem wide_of_int {n : Int} (h : isIntB n = true) : isWideB n = true := by
  simp [isIntB] at h; simp [isWideB]; omega
theorem wide_add {n b : Int} (h : isIntB n = true) (h1 : -1099511627776 ≤ b) (h2 : b ≤ 1099511627776) : isWideB (n + b) = true := by
  simp [isIntB] at h; simp [isWideB]; omega

theorem Inv2.start {s b c : Int} (hv : vldB s b c = true) : Inv2 s b c 0 0 s 0 0 := by
  have ⟨h1, h2⟩ := vld_start hv
  have ⟨_, _, _, hc1, _⟩ := vld_parts hv
  exact ⟨by simp, by simp [isWideB]; omega, by decide, by omega, by omega, .inl ⟨rfl, rfl, rfl⟩⟩

theorem Inv2.step {s b c : Int} (hv : vldB s b c = true) {q p : Nat} {n l m : Int} {so : Bool} (h : Inv2 s b c q p n l m) :
    (isIntB n = false ∧ (nextR s b c n l m so).er ≠ 0) ∨
    ((nextR s b c n l m so).er = 0 ∧ Inv2 s b c (q + 1) (if (nextR s b c n l m so).lg = true then p + 1 else p) (nextR s b c n l m so).aN (nextR s b c n l m so).aL (nextR s b c n l m so).aM) := by
  obtain ⟨hn, hwn, hwm, hl0, hlc, h⟩ := h
  have ⟨hb1, hb2, _, hc1, _⟩ := vld_parts hv
  have h1 : ¬ (isWideB n = false ∨ isWideB m = false ∨ l < 0 ∨ c < l) := by rw [hwn, hwm]; simp; omega
  have hv' : ¬ vldB s b c = false := by rw [hv]; decide
  have hq1 : ((q + 1 : Nat) : Int) * b = (q : Int) * b + b := by rw [Int.natCast_add, Int.add_mul]; simp
  by_cases hi : isIntB n = true
  · right
    have hi' : ¬ isIntB n = false := by rw [hi]; decide
    by_cases hl : 0 < l
    · have hr : nextR s b c n l m so = ⟨n, n + b, l - 1, m, so, 0, false, 0⟩ := by rw [nextR, if_neg hv', if_neg h1, if_neg hi', if_pos hl]
      rw [hr]
      refine ⟨rfl, by simp only; omega, wide_add hi hb1 hb2, hwm, by simp only; omega, by simp only; omega, .inr ?_⟩
      rcases h with ⟨_, h, _⟩ | ⟨k, j, hp, hql, hlk, hk, hs⟩
      · omega
      · exact ⟨k, j, by simpa using hp, by simp only; omega, by simp only; omega, hk, hs⟩
    · have hr : nextR s b c n l m so = ⟨n, n + b, moreN n b c, n + (moreN n b c) * b, true, n + (moreN n b c) * b, true, 0⟩ := by rw [nextR, if_neg hv', if_neg h1, if_neg hi', if_neg hl]
      obtain ⟨m1, m2, m3⟩ := moreN_props (b := b) hi hc1
      rw [hr]
      refine ⟨rfl, by simp only; omega, wide_add hi hb1 hb2, wide_of_int m2, by simp only; omega, by simp only; omega, .inr ?_⟩
      generalize moreN n b c = k2 at *
      rcases h with ⟨rfl, _, rfl⟩ | ⟨k, j, hp, hql, hlk, hk, hs⟩
      · refine ⟨k2, 0, rfl, by simp; omega, by simp, by omega, ?_⟩
        rcases m3 with m3 | m3
        · exact .inl m3
        · right
          rw [hn] at m3
          simpa using m3
      · have hkc : (k : Int) = c - 1 := by
          rcases hs with hs | hs
          · exact hs
          · rw [show (j : Int) * c + k + 1 = (q : Int) by omega, ← hn, hi] at hs; exact absurd hs (by decide)
        have hjc : ((j + 1 : Nat) : Int) * c = (j : Int) * c + c := by rw [Int.natCast_add, Int.add_mul]; simp
        refine ⟨k2, j + 1, by simp only [if_true]; omega, by simp only; omega, by simp, by omega, ?_⟩
        rcases m3 with m3 | m3
        · exact .inl m3
        · right
          rw [hjc, show (j : Int) * c + c + k2 + 1 = (q : Int) + (k2 + 1) by omega, Int.add_mul, ← Int.add_assoc, ← hn]
          exact m3
  · left
    have hi' : isIntB n = false := by simpa using hi
    refine ⟨hi', ?_⟩
    rw [nextR, if_neg hv', if_neg h1, if_pos hi']
    decide

theorem run_inv2 {s b c : Int} (hv : vldB s b c = true) (N : Nat) : ∀ {n l m : Int} {so : Bool} {xs ys : List Int}, Inv2 s b c xs.length ys.length n l m →
    ∃ n' l' m', Inv2 s b c (runF s b c (List.replicate N true) n l m so xs ys).1.length (runF s b c (List.replicate N true) n l m so xs ys).2.length n' l' m' ∧
      ((runF s b c (List.replicate N true) n l m so xs ys).1.length = xs.length + N ∨ isIntB n' = false) := by
  induction N with
  | zero => intro n l m so xs ys h; exact ⟨n, l, m, h, .inl rfl⟩
  | succ N ih =>
    intro n l m so xs ys h
    rw [List.replicate_succ, runF, if_neg (by decide)]
    rcases h.step (so := so) hv with ⟨h1, h2⟩ | ⟨h1, h2⟩
    · rw [if_pos h2]
      exact ⟨n, l, m, h, .inr h1⟩
    · rw [if_neg (by simp [h1])]
      have h3 : Inv2 s b c (xs ++ [(nextR s b c n l m so).num]).length (if (nextR s b c n l m so).lg = true then ys ++ [(nextR s b c n l m so).mrk] else ys).length (nextR s b c n l m so).aN (nextR s b c n l m so).aL (nextR s b c n l m so).aM := by
        rw [List.length_append]
        split
        · rename_i hg; rw [if_pos hg] at h2; rw [List.length_append]; exact h2
        · rename_i hg; rw [if_neg hg] at h2; exact h2
      obtain ⟨n', l', m', h4, h5⟩ := ih (so := (nextR s b c n l m so).aS) h3
      refine ⟨n', l', m', h4, ?_⟩
      rcases h5 with h5 | h5
      · left; rw [h5, List.length_append, List.length_singleton]; omega
      · exact .inr h5

theorem rec_div {q j : Nat} {c : Int} (hc : 1 ≤ c) (h1 : (j : Int) * c + 1 ≤ q) (h2 : (q : Int) ≤ (j : Int) * c + c) : Int.tdiv ((q : Int) + c - 1) c = ((j + 1 : Nat) : Int) := by
  rw [Int.tdiv_eq_ediv_of_nonneg (by omega)]
  have e : (q : Int) + c - 1 = ((q : Int) - 1 - (j : Int) * c) + ((j + 1 : Nat) : Int) * c := by
    rw [Int.natCast_add, Int.add_mul]; simp; omega
  rw [e, Int.add_mul_ediv_right _ _ (by omega), Int.ediv_eq_zero_of_lt (by omega) (by omega)]
  omega

/-- What SerialRecords asks. -/
theorem records_law {s b c : Int} (hv : vldB s b c = true) {N : Nat} (hN : N ≤ 2000) :
    (runO s b c (List.replicate N true)).length ≤ N ∧ Int.tdiv (((runO s b c (List.replicate N true)).length : Int) + c - 1) c = ((runM s b c (List.replicate N true)).length : Int) ∧
    ((runO s b c (List.replicate N true)).length < N → isIntB (s + ((runO s b c (List.replicate N true)).length : Int) * b) = false) := by
  have ⟨_, _, _, hc1, _⟩ := vld_parts hv
  have hif : vldB s b c = true ∧ (List.replicate N true).length ≤ 2000 := ⟨hv, by simpa using hN⟩
  rw [runO, if_pos hif, runM, if_pos hif]
  obtain ⟨n, l, m, ⟨hn, hwn, hwm, hl0, hlc, h⟩, h5⟩ := run_inv2 hv N (so := false) (xs := []) (ys := []) (Inv2.start hv)
  have hle := @runF_len s b c (List.replicate N true) s 0 0 false [] []
  generalize (runF s b c (List.replicate N true) s 0 0 false [] []).1.length = q at *
  generalize (runF s b c (List.replicate N true) s 0 0 false [] []).2.length = p at *
  refine ⟨by simpa using hle, ?_, fun hlt => ?_⟩
  · rcases h with ⟨rfl, _, rfl⟩ | ⟨k, j, rfl, hql, hlk, hk, hs⟩
    · rw [Int.tdiv_eq_ediv_of_nonneg (by omega), Int.ediv_eq_zero_of_lt (by omega) (by omega)]; rfl
    · exact rec_div hc1 (by omega) (by omega)
  · rcases h5 with h5 | h5
    · simp at h5; omega
    · rw [← hn]; exact h5
end Go.Proofs.YtinidfeoellmhaaDoor
