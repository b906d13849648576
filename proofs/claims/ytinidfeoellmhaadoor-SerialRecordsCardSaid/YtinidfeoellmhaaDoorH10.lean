import Derived.Test.YtinidfeoellmhaaDoorH8
import Derived.Test.YtinidfeoellmhaaDoorQ3
namespace Go.Proofs.YtinidfeoellmhaaDoor
open Go.RowKit Go.Proofs.YtinidfeoellmhaaDoorW.PrintWords
set_option linter.unusedVariables false
set_option linter.unusedSimpArgs false

def fillB (m i : Nat) : List Bool := List.replicate i true ++ List.replicate (m - i) false
theorem fillB_len {m i : Nat} (h : i ≤ m) : (fillB m i).length = m := by simp [fillB]; omega
theorem fillB_set {m i : Nat} (h : i < m) : (fillB m i).set i true = fillB m (i + 1) := by
  unfold fillB
  rw [List.set_append_right _ _ (by simp), List.length_replicate, Nat.sub_self]
  obtain ⟨k, hk⟩ : ∃ k, m - i = k + 1 := ⟨m - i - 1, by omega⟩
  rw [hk, show m - (i + 1) = k by omega, List.replicate_succ, List.set_cons_zero, List.replicate_succ']
  simp
theorem fillB_all (m : Nat) : fillB m m = List.replicate m true := by simp [fillB]

set_option maxHeartbeats 8000000 in
theorem records_ok (s b c : Int) (x m : Nat) (w : World) (hx : x ≤ 65535) (hm : x % 2001 = m) :
    Calls Tryd.prog 7 #[.agg #[.int .i64 s, .int .i64 b, .int .i64 c], .int .u16 (x : Int)] w fun e w' => e = .returned (.bool true) ∧ Below w.heap.size w w' := by
  have hm2 : m ≤ 2000 := by omega
  have t0 : IntKind.i64.wrap (x : Int) = (x : Int) := IntWalk.i64_in _ (by omega)
  have t1 : Int.tmod (x : Int) 2001 = (m : Int) := by rw [← hm, Int.ofNat_tmod]; rfl
  have hmk := print_make_of (P := Tryd.prog) 32 4 (.bool false) 1 (by kernel_rfl) (by kernel_rfl) (by rfl) (by decide) m (by omega)
  go_enter Tryd.func7, Tryd.ntmps7
  go_wp2
  go_loopw [17] (fun v wr => ∃ i : Nat, i ≤ m ∧ v = .int .i64 i ∧ Aside0 (wr.ownsRow w.heap.size 4 1 (.slice (some ⟨w.heap.size + 1, 0, none⟩) m m) m (encs Value.bool (fillB m i))) ∧ Aside0 (wr.heap[w.heap.size]? = some (.cells #[.int .i64 s, .int .i64 b, .int .i64 c] 23 (0, 0))) ∧ Aside0 (Below w.heap.size w wr)) (fun v _ => m - (intOf v).toNat)
  case atStart =>
    have h := own_made_of (enc := Value.bool) (d := false) (w.alloc (.cells #[.int .i64 s, .int .i64 b, .int .i64 c] 23)) w.heap.size 4 m (by simp) (by omega)
    rw [show (w.alloc (.cells #[.int .i64 s, .int .i64 b, .int .i64 c] 23)).heap.size = w.heap.size + 1 by simp] at h
    exact ⟨0, by omega, rfl, ⟨by simpa only [fillB, List.replicate_zero, List.nil_append, Nat.sub_zero] using h⟩, ⟨blk_alloc (blk_new _ _) _⟩, ⟨below_alloc (below_alloc (Below.refl _ _) _) _⟩⟩
  case round =>
    obtain ⟨i, hi, rfl, HO, HK, HB⟩ := hrel
    by_cases hlt : i < m
    · have hltz : (i : Int) < (m : Int) := by omega
      obtain ⟨h1, h2⟩ := own_at_of (d := false) HO.out (i : Int) (by omega) (by omega)
      rw [Int.toNat_natCast] at h1 h2
      have h3 := own_store_of HO.out (i : Int) true
      rw [Int.toNat_natCast, fillB_set hlt] at h3
      have HO3 := Aside0.mk h3.1
      clear h3
      go_wp2
      go_roundw
      case rel => exact ⟨i + 1, by omega, by go_num, HO3, ⟨blk_far HK.out (by simp) _⟩, ⟨below_set2 HB.out _ _ (by simp)⟩⟩
      case measure => simp [intOf]; omega
    · have i1 : i = m := by omega
      subst i1
      have hR := own_reads_of' (d := false) HO.out
      rw [fillB_all] at hR
      have hc : ∀ W, ReadsOf Value.bool false W (some ⟨w.heap.size + 1, 0, none⟩) i (List.replicate i true) → Calls Tryd.prog 18 #[.agg #[.int .i64 s, .int .i64 b, .int .i64 c], .slice (some ⟨w.heap.size + 1, 0, none⟩) i i] W fun e w' => ∃ v0 v1, e = .returned (.tuple #[v0, v1, .int .i64 (runE s b c (List.replicate i true))]) ∧ SlI w' v0 (runO s b c (List.replicate i true)) ∧ SlI w' v1 (runM s b c (List.replicate i true)) ∧ Below W.heap.size W w' := by
        intro W h
        have := srv_run s b c (some ⟨w.heap.size + 1, 0, none⟩) i (List.replicate i true) W (by rw [List.length_replicate]; exact h) (by simp)
        rw [List.length_replicate] at this
        exact this
      obtain ⟨c0, c1, c2⟩ := blk3 HK.out
      go_wp2_with fail
      refine (hc _ hR).mono ?_
      clear hc hmk
      rintro e w1 ⟨v0, v1, rfl, ⟨A0, cp0, rfl, hcp0, RI⟩, ⟨A1, cp1, rfl, hcp1, RJ⟩, hb⟩
      have hx0 := RI.2.1
      have hx1 := RJ.2.1
      clear RI RJ hR
      have HB2 := Aside0.mk (below_after HB.out hb)
      have d0 := pw_cell_below hb c0
      have d1 := pw_cell_below hb c1
      have d2 := pw_cell_below hb c2
      clear c0 c1 c2 hb HO
      by_cases hv : vldB s b c = true
      · have hE : runE s b c (List.replicate i true) = 0 := by rw [runE, if_pos ⟨hv, by simpa using hm2⟩]
        obtain ⟨k1, k2, k3⟩ := records_law hv hm2
        have ⟨hb1, hb2, hb0, hc1, hc2⟩ := vld_parts hv
        have ⟨hs1, hs2⟩ := vld_start hv
        rw [hE]
        clear hE hv
        generalize (runO s b c (List.replicate i true)).length = N at *
        generalize (runM s b c (List.replicate i true)).length = M at *
        have hcz : (c == 0) = false := by simp; omega
        have w1' : IntKind.i64.wrap ((N : Int) + c) = (N : Int) + c := IntWalk.i64_in _ (by omega)
        have w2' : IntKind.i64.wrap ((N : Int) + c - 1) = (N : Int) + c - 1 := IntWalk.i64_in _ (by omega)
        have w3' : IntKind.i64.wrap (M : Int) = (M : Int) := IntWalk.i64_in _ (by omega)
        by_cases hlt2 : N < i
        · have hltz : (N : Int) < (i : Int) := by omega
          have k4 := k3 hlt2
          have q1 := Int.mul_le_mul_of_nonneg_left hb2 (show (0 : Int) ≤ (N : Int) by omega)
          have q2 := Int.mul_le_mul_of_nonneg_left hb1 (show (0 : Int) ≤ (N : Int) by omega)
          obtain ⟨P, p1, p1'⟩ : ∃ P, wrap64 ((N : Int) * b) = P ∧ (N : Int) * b = P := ⟨(N : Int) * b, IntWalk.wrap64_in _ (by omega), rfl⟩
          rw [p1'] at k4 q1 q2
          obtain ⟨X, p2, p2'⟩ : ∃ X, wrap64 (s + P) = X ∧ s + P = X := ⟨s + P, IntWalk.wrap64_in _ (by omega), rfl⟩
          rw [p2'] at k4
          clear p1' p2'
          have hX : X < -1099511627776 ∨ (¬ X < -1099511627776 ∧ 1099511627776 < X) := by
            simp [isIntB] at k4; omega
          clear k3 k4 q1 q2
          rcases hX with hX | ⟨hX, hX2⟩
          · go_wp2_with (go_at_call 17; refine (awake _).mono ?_; rintro e w' ⟨rfl, hb⟩)
            go_ret
            exact ⟨rfl, below_after HB2.out hb⟩
          · go_wp2_with (go_at_call 17; refine (awake _).mono ?_; rintro e w' ⟨rfl, hb⟩)
            go_ret
            exact ⟨rfl, below_after HB2.out hb⟩
        · have hltz : ¬ (N : Int) < (i : Int) := by omega
          go_wp2_with (go_at_call 17; refine (awake _).mono ?_; rintro e w' ⟨rfl, hb⟩)
          go_ret
          exact ⟨rfl, below_after HB2.out hb⟩
      · have hE : runE s b c (List.replicate i true) = 2 := by rw [runE, if_neg (fun h => hv h.1)]
        rw [hE]
        clear hE hv
        go_wp2_with (go_at_call 17; refine (awake _).mono ?_; rintro e w' ⟨rfl, hb⟩)
        go_ret
        exact ⟨rfl, below_after HB2.out hb⟩

theorem law_records (s b c : Int) (x : Int) (w : World) (h0 : 0 ≤ x) (h1 : x ≤ 65535) :
    Calls Tryd.prog 7 #[.agg #[.int .i64 s, .int .i64 b, .int .i64 c], .int .u16 x] w fun e w' => e = .returned (.bool true) ∧ Below w.heap.size w w' := by
  obtain ⟨n, rfl⟩ : ∃ n : Nat, x = (n : Int) := ⟨x.toNat, by omega⟩
  exact records_ok s b c n (n % 2001) w (by omega) rfl
end Go.Proofs.YtinidfeoellmhaaDoor
