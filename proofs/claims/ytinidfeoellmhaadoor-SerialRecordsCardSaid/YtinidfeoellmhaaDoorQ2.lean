import Derived.Test.YtinidfeoellmhaaDoorQ
/-! What SerialLost asks, of the plain run. -/
namespace Go.Proofs.YtinidfeoellmhaaDoor
open Go.RowKit Go.Proofs.YtinidfeoellmhaaDoorW.PrintWords

theorem runF_len {s b c : Int} (L : List Bool) : ∀ {n l m : Int} {so : Bool} {xs ys : List Int}, (runF s b c L n l m so xs ys).1.length ≤ xs.length + L.length := by
  induction L with
  | nil => intro n l m so xs ys; simp [runF]
  | cons g L ih =>
    intro n l m so xs ys
    rw [runF]
    split
    · have := @ih (recS s b c m so).1 (recS s b c m so).2.1 (recS s b c m so).2.2.1 (recS s b c m so).2.2.2 xs ys
      rw [List.length_cons]; omega
    · split
      · simp
      · have := @ih (nextR s b c n l m so).aN (nextR s b c n l m so).aL (nextR s b c n l m so).aM (nextR s b c n l m so).aS (xs ++ [(nextR s b c n l m so).num]) (if (nextR s b c n l m so).lg = true then ys ++ [(nextR s b c n l m so).mrk] else ys)
        rw [List.length_append, List.length_singleton] at this
        rw [List.length_cons]; omega

theorem fI_nlt {s b : Int} {i j : Nat} (h : i ≤ j) : beforeB b (fI s b j) (fI s b i) = false := by
  obtain ⟨k, rfl⟩ : ∃ k, j = i + k := ⟨j - i, by omega⟩
  rw [fI_add]
  by_cases h0 : b < 0
  · have := Int.mul_nonneg (show (0 : Int) ≤ (k : Int) by omega) (show 0 ≤ -b by omega)
    rw [Int.mul_neg] at this
    simp [beforeB]; omega
  · have := Int.mul_nonneg (show (0 : Int) ≤ (k : Int) by omega) (show 0 ≤ b by omega)
    simp [beforeB]; omega

theorem crashes_le (L : List Bool) : crashes L ≤ L.length := List.length_filter_le _ _
theorem crashes_take {L : List Bool} {i : Nat} (h : i < L.length) : crashes (L.take (i + 1)) = crashes (L.take i) + (if rdOf false L i = true then 0 else 1) := by
  have e : L.take (i + 1) = L.take i ++ [L[i]] := by simp
  have e2 : rdOf false L i = L[i] := by simp [rdOf, h]
  rw [crashes, e, List.filter_append, List.length_append, e2]
  cases L[i] <;> simp [crashes]

/-- What SerialLost asks. -/
theorem lost_law {s b c : Int} (hv : vldB s b c = true) {L : List Bool} (hL : L.length ≤ 2000) :
    (runO s b c L = [] → runM s b c L = []) ∧ (runO s b c L ≠ [] → runM s b c L ≠ [] ∧ ∃ k : Nat, rd (runO s b c L) (((runO s b c L).length - 1 : Nat) : Int) = s + (k : Int) * b ∧ k + 1 ≤ (runO s b c L).length + crashes L * (c - 1).toNat ∧ isIntB (s + (k : Int) * b) = true ∧
      beforeB b (rd (runM s b c L) (((runM s b c L).length - 1 : Nat) : Int)) (s + (k : Int) * b) = false) ∧
    (∀ i, 0 < i → i < (runM s b c L).length → beforeB b (rd (runM s b c L) ((i - 1 : Nat) : Int)) (rd (runM s b c L) i) = true) ∧ (runO s b c L).length ≤ 2000 := by
  have ⟨_, _, hb0, hc1, _⟩ := vld_parts hv
  obtain ⟨cr, n, l, m, so, hcr, q, is, js, hn, hx, hy, hp, hj, hi, hh, hq, h⟩ := run_inv hv L (Inv.start (s := s) (b := b) (c := c))
  have ho : runO s b c L = is.map (fI s b) := by rw [runO, if_pos ⟨hv, hL⟩]; exact hx
  have hm : runM s b c L = js.map (fI s b) := by rw [runM, if_pos ⟨hv, hL⟩]; exact hy
  have hlen : (runO s b c L).length ≤ 2000 := by
    rw [runO, if_pos ⟨hv, hL⟩]
    have := @runF_len s b c L s 0 0 false [] []
    simp at this; omega
  refine ⟨fun e => ?_, fun hne => ?_, fun i h0 hlt => ?_, hlen⟩
  · rw [ho] at e
    rw [hm]
    rcases h with ⟨_, _, _, _, _, h⟩ | ⟨_, hne, _⟩
    · rw [h]; rfl
    · exact absurd (List.map_eq_nil_iff.1 e) hne
  · rw [ho] at hne
    have hne1 : is ≠ [] := fun e => hne (by rw [e]; rfl)
    rcases h with ⟨_, _, _, _, h, _⟩ | ⟨_, _, p, hmp, hql, hl0, hl1, him, hjl, hjp, hip⟩
    · exact absurd h hne1
    have hpos : 0 < is.length := List.length_pos_iff.2 hne1
    have hk : is.getD (is.length - 1) 0 ∈ is := by simp [show is.length - 1 < is.length by omega]
    have hjne : js ≠ [] := by intro e; rw [e] at hjl; exact absurd hjl (by simp)
    have hjpos : 0 < js.length := List.length_pos_iff.2 hjne
    refine ⟨by rw [hm]; exact fun e => hjne (List.map_eq_nil_iff.1 e), is.getD (is.length - 1) 0, ?_, ?_, ?_, ?_⟩
    · rw [ho, List.length_map]
      simp only [rd, Int.toNat_natCast]
      rw [List.getD_eq_getElem?_getD, List.getElem?_map]
      simp [show is.length - 1 < is.length by omega, fI]
    · rw [ho, List.length_map]
      have h1 := (hi _ hk).1
      have h2 : cr * (c - 1).toNat ≤ crashes L * (c - 1).toNat := Nat.mul_le_mul_right _ (by omega)
      omega
    · exact (hi _ hk).2
    · rw [hm, List.length_map]
      have e : rd (js.map (fI s b)) ((js.length - 1 : Nat) : Int) = fI s b p := by
        simp only [rd, Int.toNat_natCast]
        rw [List.getD_eq_getElem?_getD, List.getElem?_map]
        rw [List.getLast?_eq_getElem?] at hjl
        rw [hjl]; rfl
      rw [e]
      exact fI_nlt (hip _ hk)
  · rw [hm] at hlt ⊢
    rw [List.length_map] at hlt
    have hrd : ∀ i : Nat, i < js.length → rd (js.map (fI s b)) (i : Int) = fI s b (js.getD i 0) := by
      intro i h; simp [rd, h]
    rw [hrd _ hlt, hrd _ (by omega)]
    refine fI_lt hb0 ?_
    have := List.pairwise_iff_getElem.1 hj (i - 1) i (by omega) hlt (by omega)
    simpa [List.getD_eq_getElem?_getD, hlt, show i - 1 < js.length by omega] using this
end Go.Proofs.YtinidfeoellmhaaDoor
