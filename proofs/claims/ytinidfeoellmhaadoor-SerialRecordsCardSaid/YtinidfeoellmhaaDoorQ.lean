/-
  What the numbers and marks of a run are, in plain Lean: their places rise, a crash loses less numbers than are cached, and without crashes n numbers need n / Cache records, rounded up. No conditions but a valid sequence.
-/
import Derived.Test.YtinidfeoellmhaaDoorH2
namespace Go.Proofs.YtinidfeoellmhaaDoor
open Go.RowKit Go.Proofs.YtinidfeoellmhaaDoorW.PrintWords
set_option linter.unusedVariables false

/-- The number at place i. -/
def fI (s b : Int) (i : Nat) : Int := s + (i : Int) * b
theorem fI_succ (s b : Int) (i : Nat) : fI s b (i + 1) = fI s b i + b := by
  simp only [fI, Int.natCast_add, Int.natCast_one, Int.add_mul, Int.one_mul]; omega
theorem fI_add (s b : Int) (i k : Nat) : fI s b (i + k) = fI s b i + (k : Int) * b := by
  simp only [fI, Int.natCast_add, Int.add_mul]; omega

theorem moreF_props {n b : Int} (hn : isIntB n = true) (k : Nat) : ∀ j : Nat, isIntB (n + (j : Int) * b) = true →
    j ≤ moreF n b k j ∧ moreF n b k j ≤ j + k ∧ isIntB (n + (moreF n b k j : Int) * b) = true ∧ (moreF n b k j = j + k ∨ isIntB (n + ((moreF n b k j : Int) + 1) * b) = false) := by
  induction k with
  | zero => intro j hj; simp only [moreF]; exact ⟨Nat.le_refl _, Nat.le_refl _, hj, .inl rfl⟩
  | succ k ih =>
    intro j hj
    simp only [moreF]
    split
    · rename_i h
      have := ih (j + 1) (by simpa using h)
      refine ⟨by omega, by omega, this.2.2.1, ?_⟩
      rcases this.2.2.2 with h1 | h1
      · exact .inl (by omega)
      · exact .inr h1
    · rename_i h
      exact ⟨Nat.le_refl _, by omega, hj, .inr (by simpa using h)⟩
theorem moreN_props {n b c : Int} (hn : isIntB n = true) (hc : 1 ≤ c) :
    (moreN n b c : Int) ≤ c - 1 ∧ isIntB (n + (moreN n b c : Int) * b) = true ∧ ((moreN n b c : Int) = c - 1 ∨ isIntB (n + ((moreN n b c : Int) + 1) * b) = false) := by
  have h := moreF_props (n := n) (b := b) hn (c - 1).toNat 0 (by simpa using hn)
  unfold moreN
  refine ⟨by omega, h.2.2.1, ?_⟩
  rcases h.2.2.2 with h1 | h1
  · exact .inl (by omega)
  · exact .inr h1

/-- What holds of a state between two turns, behind cr crashes. -/
def Inv (s b c : Int) (cr : Nat) (n l m : Int) (so : Bool) (xs ys : List Int) : Prop :=
  ∃ (q : Nat) (is js : List Nat), n = fI s b q ∧ xs = is.map (fI s b) ∧ ys = js.map (fI s b) ∧ is.Pairwise (· < ·) ∧ js.Pairwise (· < ·) ∧ (∀ i ∈ is, i < q ∧ isIntB (fI s b i) = true) ∧
    (is ≠ [] → is.head? = some 0) ∧ q ≤ is.length + cr * (c - 1).toNat ∧
    ((so = false ∧ q = 0 ∧ l = 0 ∧ m = 0 ∧ is = [] ∧ js = []) ∨
     (so = true ∧ is ≠ [] ∧ ∃ p : Nat, m = fI s b p ∧ (q : Int) + l = p + 1 ∧ 0 ≤ l ∧ l ≤ c - 1 ∧ isIntB m = true ∧ js.getLast? = some p ∧ (∀ j ∈ js, j ≤ p) ∧ ∀ i ∈ is, i ≤ p))

theorem Inv.start {s b c : Int} : Inv s b c 0 s 0 0 false [] [] :=
  ⟨0, [], [], by simp [fI], rfl, rfl, List.Pairwise.nil, List.Pairwise.nil, by simp, by simp, by simp, .inl ⟨rfl, rfl, rfl, rfl, rfl, rfl⟩⟩

theorem Inv.crash {s b c : Int} {cr : Nat} {n l m : Int} {so : Bool} {xs ys : List Int} (hv : vldB s b c = true) (h : Inv s b c cr n l m so xs ys) :
    Inv s b c (cr + 1) (recS s b c m so).1 (recS s b c m so).2.1 (recS s b c m so).2.2.1 (recS s b c m so).2.2.2 xs ys := by
  obtain ⟨q, is, js, hn, hx, hy, hp, hj, hi, hh, hq, h⟩ := h
  have ⟨_, _, _, hc1, _⟩ := vld_parts hv
  rcases h with ⟨rfl, rfl, rfl, rfl, rfl, rfl⟩ | ⟨rfl, hne, p, hm, hql, hl0, hl1, him, hjl, hjp, hip⟩
  · have hr : recS s b c 0 false = (s, 0, 0, false) := by simp [recS, hv, isIntB]
    rw [hr]
    exact ⟨0, [], [], by simp [fI], hx, hy, List.Pairwise.nil, List.Pairwise.nil, by simp, by simp, by simp, .inl ⟨rfl, rfl, rfl, rfl, rfl, rfl⟩⟩
  · have hr : recS s b c m true = (m + b, 0, m, true) := by simp [recS, hv, him]
    rw [hr]
    dsimp only
    refine ⟨p + 1, is, js, by rw [fI_succ, ← hm], hx, hy, hp, hj, fun i h => ⟨by have := hip i h; omega, (hi i h).2⟩, hh, ?_, .inr ⟨rfl, hne, p, hm, by omega, by omega, by omega, him, hjl, hjp, hip⟩⟩
    rw [Nat.add_mul, Nat.one_mul]
    omega

theorem Inv.give {s b c : Int} {cr : Nat} {n l m : Int} {so : Bool} {xs ys : List Int} (hv : vldB s b c = true) (h : Inv s b c cr n l m so xs ys) (he : (nextR s b c n l m so).er = 0) :
    Inv s b c cr (nextR s b c n l m so).aN (nextR s b c n l m so).aL (nextR s b c n l m so).aM (nextR s b c n l m so).aS (xs ++ [(nextR s b c n l m so).num]) (if (nextR s b c n l m so).lg = true then ys ++ [(nextR s b c n l m so).mrk] else ys) := by
  obtain ⟨q, is, js, hn, hx, hy, hp, hj, hi, hh, hq, h⟩ := h
  have ⟨_, _, _, hc1, _⟩ := vld_parts hv
  have hbr : ¬ (isWideB n = false ∨ isWideB m = false ∨ l < 0 ∨ c < l) ∧ isIntB n = true := by
    rw [nextR, if_neg (by simp [hv])] at he
    split at he
    · exact absurd he (by decide)
    · rename_i h1
      split at he
      · exact absurd he (by decide)
      · rename_i h2; exact ⟨h1, by simpa using h2⟩
  obtain ⟨hbr, hint⟩ := hbr
  have hpw : (is ++ [q]).Pairwise (· < ·) := List.pairwise_append.2 ⟨hp, List.pairwise_singleton _ _, fun a ha x hx' => by rw [List.mem_singleton.1 hx']; exact (hi a ha).1⟩
  have hall : ∀ i ∈ is ++ [q], i < q + 1 ∧ isIntB (fI s b i) = true := by
    intro i h
    rcases List.mem_append.1 h with h | h
    · exact ⟨by have := (hi i h).1; omega, (hi i h).2⟩
    · rw [List.mem_singleton.1 h]; exact ⟨by omega, by rw [← hn]; exact hint⟩
  have hlen : q + 1 ≤ (is ++ [q]).length + cr * (c - 1).toNat := by rw [List.length_append, List.length_singleton]; omega
  have hxs : xs ++ [n] = (is ++ [q]).map (fI s b) := by rw [List.map_append, hx, hn]; rfl
  by_cases hl : 0 < l
  · have hr : nextR s b c n l m so = ⟨n, n + b, l - 1, m, so, 0, false, 0⟩ := by rw [nextR, if_neg (by simp [hv]), if_neg hbr, if_neg (by simp [hint]), if_pos hl]
    rw [hr]
    dsimp only
    rw [if_neg (show ¬ (false = true) by decide)]
    rcases h with ⟨_, _, h0, _⟩ | ⟨rfl, hne, p, hm, hql, hl0, hl1, him, hjl, hjp, hip⟩
    · omega
    · refine ⟨q + 1, is ++ [q], js, by rw [fI_succ, ← hn], hxs, hy, hpw, hj, hall, fun _ => ?_, hlen, .inr ⟨rfl, by simp, p, hm, by omega, by omega, by omega, him, hjl, hjp, fun i h => ?_⟩⟩
      · rw [List.head?_append, hh hne]; rfl
      · rcases List.mem_append.1 h with h | h
        · exact hip i h
        · rw [List.mem_singleton.1 h]; omega
  · have hr : nextR s b c n l m so = ⟨n, n + b, moreN n b c, n + (moreN n b c) * b, true, n + (moreN n b c) * b, true, 0⟩ := by rw [nextR, if_neg (by simp [hv]), if_neg hbr, if_neg (by simp [hint]), if_neg hl]
    rw [hr]
    have ⟨k1, k2, _⟩ := moreN_props (b := b) hint hc1
    have hmk : n + (moreN n b c : Int) * b = fI s b (q + moreN n b c) := by rw [fI_add, hn]
    simp only [if_true]
    have hlast : ∀ j ∈ js, j < q := by
      rcases h with ⟨_, _, _, _, _, h⟩ | ⟨_, _, p, _, hql, hl0, _, _, _, hjp, _⟩
      · rw [h]; simp
      · intro j hj; have := hjp j hj; omega
    refine ⟨q + 1, is ++ [q], js ++ [q + moreN n b c], by rw [fI_succ, ← hn], hxs, by rw [List.map_append, hy, hmk]; rfl, hpw, List.pairwise_append.2 ⟨hj, List.pairwise_singleton _ _, fun a ha x hx' => by rw [List.mem_singleton.1 hx']; have := hlast a ha; omega⟩, hall, fun _ => ?_, hlen,
      .inr ⟨rfl, by simp, q + moreN n b c, hmk, by omega, by omega, k1, k2, by simp, fun j h => ?_, fun i h => ?_⟩⟩
    · rcases h with ⟨_, h0, _, _, h1, _⟩ | ⟨_, hne, _⟩
      · rw [h1, h0]; rfl
      · rw [List.head?_append, hh hne]; rfl
    · rcases List.mem_append.1 h with h | h
      · have := hlast j h; omega
      · rw [List.mem_singleton.1 h]; omega
    · rcases List.mem_append.1 h with h | h
      · have := (hi i h).1; omega
      · rw [List.mem_singleton.1 h]; omega

def crashes (L : List Bool) : Nat := (L.filter fun x => !x).length
theorem run_inv {s b c : Int} (hv : vldB s b c = true) (L : List Bool) : ∀ {cr : Nat} {n l m : Int} {so : Bool} {xs ys : List Int}, Inv s b c cr n l m so xs ys →
    ∃ (cr' : Nat) (n' l' m' : Int) (so' : Bool), cr' ≤ cr + crashes L ∧ Inv s b c cr' n' l' m' so' (runF s b c L n l m so xs ys).1 (runF s b c L n l m so xs ys).2 := by
  induction L with
  | nil => intro cr n l m so xs ys h; exact ⟨cr, n, l, m, so, by simp [crashes], h⟩
  | cons g L ih =>
    intro cr n l m so xs ys h
    cases g with
    | false =>
      obtain ⟨cr', n', l', m', so', hle, hI⟩ := ih (h.crash hv)
      refine ⟨cr', n', l', m', so', by simp [crashes] at hle ⊢; omega, ?_⟩
      rw [runF, if_pos rfl]
      exact hI
    | true =>
      rw [runF, if_neg (by decide)]
      by_cases he : (nextR s b c n l m so).er = 0
      · rw [if_neg (by simp [he])]
        obtain ⟨cr', n', l', m', so', hle, hI⟩ := ih (h.give hv he)
        exact ⟨cr', n', l', m', so', by simp [crashes] at hle ⊢; omega, hI⟩
      · rw [if_pos he]
        exact ⟨cr, n, l, m, so, by omega, h⟩

/-- Places in the direction of the sequence. -/
def beforeB (b x y : Int) : Bool := (decide (0 < b) && decide (x < y)) || (decide (b < 0) && decide (y < x))
theorem fI_lt {s b : Int} (hb : b ≠ 0) {i j : Nat} (h : i < j) : beforeB b (fI s b i) (fI s b j) = true := by
  obtain ⟨k, rfl⟩ : ∃ k, j = i + (k + 1) := ⟨j - i - 1, by omega⟩
  rw [fI_add]
  have h1 : ((k + 1 : Nat) : Int) = (k : Int) + 1 := by omega
  rcases Int.lt_or_gt_of_ne hb with h | h
  · have := Int.mul_nonneg (show (0 : Int) ≤ (k : Int) by omega) (show 0 ≤ -b by omega)
    rw [Int.mul_neg] at this
    have e : ((k + 1 : Nat) : Int) * b = k * b + b := by rw [h1, Int.add_mul, Int.one_mul]
    rw [e]
    simp [beforeB]; omega
  · have := Int.mul_nonneg (show (0 : Int) ≤ (k : Int) by omega) (show 0 ≤ b by omega)
    have e : ((k + 1 : Nat) : Int) * b = k * b + b := by rw [h1, Int.add_mul, Int.one_mul]
    rw [e]
    simp [beforeB]; omega

/-- What SerialOnce asks of the numbers. -/
theorem once_law {s b c : Int} (hv : vldB s b c = true) {L : List Bool} (hL : L.length ≤ 2000) :
    (∀ i, i < (runO s b c L).length → isIntB (rd (runO s b c L) i) = true ∧ Int.tmod (rd (runO s b c L) i - s) b = 0 ∧ (0 < i → beforeB b (rd (runO s b c L) ((i : Int) - 1)) (rd (runO s b c L) i) = true)) ∧ ((runO s b c L).length ≠ 0 → rd (runO s b c L) 0 = s) := by
  have ⟨_, _, hb0, _, _⟩ := vld_parts hv
  obtain ⟨cr, n, l, m, so, _, q, is, js, hn, hx, hy, hp, hj, hi, hh, hq, h⟩ := run_inv hv L (Inv.start (s := s) (b := b) (c := c))
  have ho : runO s b c L = is.map (fI s b) := by rw [runO, if_pos ⟨hv, hL⟩]; exact hx
  rw [ho]
  have hrd : ∀ i : Nat, i < is.length → rd (is.map (fI s b)) (i : Int) = fI s b (is.getD i 0) := by
    intro i h; simp [rd, h]
  refine ⟨fun i hlt => ?_, fun hne => ?_⟩
  · rw [List.length_map] at hlt
    have hm : is.getD i 0 ∈ is := by simp [hlt]
    refine ⟨?_, ?_, fun h0 => ?_⟩
    · rw [hrd i hlt]; exact (hi _ hm).2
    · rw [hrd i hlt, fI, show s + (is.getD i 0 : Int) * b - s = (is.getD i 0 : Int) * b by omega]
      exact Int.mul_tmod_left _ _
    · rw [hrd i hlt, show ((i : Int) - 1) = ((i - 1 : Nat) : Int) by omega, hrd (i - 1) (by omega)]
      refine fI_lt hb0 ?_
      have := List.pairwise_iff_getElem.1 hp (i - 1) i (by omega) hlt (by omega)
      simpa [List.getD_eq_getElem?_getD, hlt, show i - 1 < is.length by omega] using this
  · have hne' : is ≠ [] := by intro e; rw [e] at hne; exact hne rfl
    have := hh hne'
    have hpos : 0 < is.length := List.length_pos_iff.2 hne'
    have h2 := hrd 0 hpos
    have h3 : is.getD 0 0 = 0 := by
      cases is with
      | nil => exact absurd rfl hne'
      | cons a t => simpa using this
    rw [h3] at h2
    simpa [fI] using h2
end Go.Proofs.YtinidfeoellmhaaDoor
