import Derived.Test.YtinidfeoellmhaaDoorH8
import Derived.Test.YtinidfeoellmhaaDoorQ2
namespace Go.Proofs.YtinidfeoellmhaaDoor
open Go.RowKit Go.Proofs.YtinidfeoellmhaaDoorW.PrintWords
set_option linter.unusedVariables false
set_option linter.unusedSimpArgs false

set_option maxHeartbeats 2000000 in
theorem lost_err (s b c : Int) (A : Option Addr) (cp : Nat) (L : List Bool) (w : World) (hr : Aside0 (ReadsOf Value.bool false w A L.length L)) (hcp : L.length ≤ cp) (he : runE s b c L = 2) :
    Calls Tryd.prog 6 #[.agg #[.int .i64 s, .int .i64 b, .int .i64 c], .slice A L.length cp] w fun e w' => e = .returned (.bool true) ∧ Below w.heap.size w w' := by
  have hc := fun w hr => srv_run s b c A cp L w hr hcp
  rw [he] at hc
  clear he
  go_enter Tryd.func6, Tryd.ntmps6
  go_wp2_with fail
  refine (hc _ (ReadsOf_below hr.out (below_alloc (Below.refl _ _) _))).mono ?_
  rintro e w1 ⟨v0, v1, rfl, -, -, hb⟩
  have HB := Aside0.mk (below_after (below_alloc (Below.refl _ _) _) hb)
  clear hb hc
  go_wp2_with (go_at_call 17; refine (awake _).mono ?_; rintro e w' ⟨rfl, hb⟩)
  go_ret
  exact ⟨rfl, below_after HB.out hb⟩

set_option maxHeartbeats 2000000 in
theorem lost_nil (s b c : Int) (A : Option Addr) (cp : Nat) (L : List Bool) (w : World) (hr : Aside0 (ReadsOf Value.bool false w A L.length L)) (hcp : L.length ≤ cp) (he : runE s b c L = 0) (ho : runO s b c L = []) (hm : runM s b c L = []) :
    Calls Tryd.prog 6 #[.agg #[.int .i64 s, .int .i64 b, .int .i64 c], .slice A L.length cp] w fun e w' => e = .returned (.bool true) ∧ Below w.heap.size w w' := by
  have hc := fun w hr => srv_run s b c A cp L w hr hcp
  rw [he, ho, hm] at hc
  clear he ho hm
  go_enter Tryd.func6, Tryd.ntmps6
  go_wp2_with fail
  refine (hc _ (ReadsOf_below hr.out (below_alloc (Below.refl _ _) _))).mono ?_
  rintro e w1 ⟨v0, v1, rfl, ⟨A0, c0, rfl, _, _⟩, ⟨A1, c1, rfl, _, _⟩, hb⟩
  have HB := Aside0.mk (below_after (below_alloc (Below.refl _ _) _) hb)
  clear hb hc
  go_wp2_with (go_at_call 17; refine (awake _).mono ?_; rintro e w' ⟨rfl, hb⟩)
  go_ret
  exact ⟨rfl, below_after HB.out hb⟩

theorem lost_nums {s b c : Int} {k N Cr : Nat} (hb0 : b ≠ 0) (hs1 : -1099511627776 ≤ s) (hs2 : s ≤ 1099511627776) (hc1 : 1 ≤ c) (hc2 : c ≤ 1000) (hi : isIntB (s + (k : Int) * b) = true) (hN : N ≤ 2000) (hCr : Cr ≤ 2000) (hk : k + 1 ≤ N + Cr * (c - 1).toNat) :
    ∃ D K K1 K2 C1 T : Int, IntKind.i64.wrap (s + (k : Int) * b - s) = D ∧ IntKind.i64.wrap (Int.tdiv D b) = K ∧ IntKind.i64.wrap (K + 1) = K1 ∧ IntKind.i64.wrap (K1 - (N : Int)) = K2 ∧ IntKind.i64.wrap (c - 1) = C1 ∧ IntKind.i64.wrap ((Cr : Int) * C1) = T ∧ decide (T < K2) = false := by
  obtain ⟨x1, x2⟩ := int_parts hi
  obtain ⟨e, he⟩ : ∃ e : Nat, c - 1 = (e : Int) := ⟨(c - 1).toNat, by omega⟩
  rw [he, Int.toNat_natCast] at hk
  have hm : Cr * e ≤ 2000 * 1000 := Nat.mul_le_mul hCr (by omega)
  have hm2 : (Cr : Int) * (e : Int) = ((Cr * e : Nat) : Int) := by simp
  refine ⟨(k : Int) * b, k, (k : Int) + 1, (k : Int) + 1 - N, e, ((Cr * e : Nat) : Int), ?_, ?_, ?_, ?_, ?_, ?_, ?_⟩
  · rw [show s + (k : Int) * b - s = (k : Int) * b by omega]; exact IntWalk.i64_in _ (by omega)
  · rw [Int.mul_tdiv_cancel _ hb0]; exact IntWalk.i64_in _ (by omega)
  · exact IntWalk.i64_in _ (by omega)
  · exact IntWalk.i64_in _ (by omega)
  · rw [he]; exact IntWalk.i64_in _ (by omega)
  · rw [hm2]; exact IntWalk.i64_in _ (by omega)
  · simp only [decide_eq_false_iff_not]; omega

set_option maxHeartbeats 8000000 in
set_option maxRecDepth 100000 in
theorem lost_ok (s b c : Int) (A : Option Addr) (cp : Nat) (L : List Bool) (w : World) (hr : Aside0 (ReadsOf Value.bool false w A L.length L)) (hcp : L.length ≤ cp) (he : runE s b c L = 0) (xs ys : List Int) (ho : runO s b c L = xs) (hm : runM s b c L = ys)
    (hb0 : b ≠ 0) (hL : L.length ≤ 2000) (N' M' : Nat) (X Y : Int) (hN' : Aside0 (xs.length = N' + 1)) (hM' : Aside0 (ys.length = M' + 1)) (hX : Aside0 (rd xs (N' : Int) = X)) (hY : Aside0 (rd ys (M' : Int) = Y))
    (hbf : ∀ W, Calls Tryd.prog 21 #[.agg #[.int .i64 s, .int .i64 b, .int .i64 c], .int .i64 Y, .int .i64 X] W fun e w' => e = .returned (.bool false) ∧ Below W.heap.size W w')
    (hlaw : Aside0 (∀ i, 0 < i → i < ys.length → beforeB b (rd ys ((i - 1 : Nat) : Int)) (rd ys i) = true))
    (D K K1 K2 C1 T : Int) (d1 : IntKind.i64.wrap (X - s) = D) (d2 : IntKind.i64.wrap (Int.tdiv D b) = K) (d3 : IntKind.i64.wrap (K + 1) = K1) (d4 : IntKind.i64.wrap (K1 - (xs.length : Int)) = K2) (d5 : IntKind.i64.wrap (c - 1) = C1) (d6 : IntKind.i64.wrap ((crashes L : Int) * C1) = T) (d7 : decide (T < K2) = false) :
    Calls Tryd.prog 6 #[.agg #[.int .i64 s, .int .i64 b, .int .i64 c], .slice A L.length cp] w fun e w' => e = .returned (.bool true) ∧ Below w.heap.size w w' := by
  have hc := fun w hr => srv_run s b c A cp L w hr hcp
  rw [he, ho, hm] at hc
  clear he ho hm
  go_enter Tryd.func6, Tryd.ntmps6
  go_wp2_with fail
  refine (hc _ (ReadsOf_below hr.out (below_alloc (Below.refl _ _) _))).mono ?_
  rintro e w1 ⟨v0, v1, rfl, ⟨A0, c0, rfl, hc0, RI⟩, ⟨A1, c1, rfl, hc1, RJ⟩, hb⟩
  have HK := Aside0.mk (blk_below (blk_new w (.cells #[.int .i64 s, .int .i64 b, .int .i64 c] 23)) hb)
  have HB := Aside0.mk (below_after (below_alloc (Below.refl _ _) _) hb)
  clear hb hc
  generalize hN : xs.length = N at RI hc0 d4 hN' ⊢
  generalize hM : ys.length = M at RJ hc1 hlaw hM' ⊢
  have HN := Aside0.mk hN
  have HM := Aside0.mk hM
  have hbN := RI.2.1
  have hbM := RJ.2.1
  clear hN hM
  obtain ⟨ad0, rfl, hx⟩ := RI.at_ (N' : Int) (by omega) (by have := hN'.out; omega)
  obtain ⟨ad1, rfl, hy⟩ := RJ.at_ (M' : Int) (by omega) (by have := hM'.out; omega)
  rw [Int.toNat_natCast] at hx hy
  rw [hX.out] at hx
  rw [hY.out] at hy
  have hz : (b == 0) = false := by simpa using hb0
  have n0 : ((N : Int) == 0) = false := by have := hN'.out; simp; omega
  have m0 : ((M : Int) == 0) = false := by have := hM'.out; simp; omega
  have n1 : IntKind.i64.wrap ((N : Int) - 1) = (N' : Int) := by have := hN'.out; rw [show (N : Int) - 1 = (N' : Int) by omega]; exact IntWalk.i64_in _ (by omega)
  have m1 : IntKind.i64.wrap ((M : Int) - 1) = (M' : Int) := by have := hM'.out; rw [show (M : Int) - 1 = (M' : Int) by omega]; exact IntWalk.i64_in _ (by omega)
  have n2 : (0 : Int) ≤ (N' : Int) := by omega
  have m2 : (0 : Int) ≤ (M' : Int) := by omega
  have n3 : (N' : Int) < (N : Int) := by have := hN'.out; omega
  have m3 : (M' : Int) < (M : Int) := by have := hM'.out; omega
  have HX := Aside0.mk hx
  have HY := Aside0.mk hy
  have HRJ := Aside0.mk RJ
  clear hx hy RI RJ
  go_wp2
  go_loopw [8, 34] (fun v8 v34 wr => ∃ i : Nat, i ≤ L.length ∧ v34 = .int .i64 i ∧ v8 = .int .i64 (crashes (L.take i)) ∧ Aside0 (Below w.heap.size w wr) ∧ Aside0 (Below w1.heap.size w1 wr)) (fun _ v _ => L.length - (intOf v).toNat)
  case atStart => exact ⟨0, by omega, rfl, by simp [crashes], HB, ⟨Below.refl _ _⟩⟩
  case round =>
    obtain ⟨i, hi, rfl, rfl, HB1, HB2⟩ := hrel
    by_cases hlt : i < L.length
    · obtain ⟨ad, rfl, hcell⟩ := hr.out.at_ i (by omega) (by omega)
      have hcell1 := (HB1.out.cell (World.block_lt_of_cell? w _ hcell)).trans hcell
      rw [Int.toNat_natCast] at hcell1
      clear hcell
      have hltz : (i : Int) < (L.length : Int) := by omega
      have hct := crashes_take hlt
      have hcl := crashes_le (L.take i)
      rw [List.length_take] at hcl
      cases hg : rdOf false L i with
      | true =>
        rw [hg] at hcell1
        rw [hg, if_pos rfl] at hct
        go_wp2
        go_roundw
        case rel => exact ⟨i + 1, by omega, by go_num, by rw [hct]; rfl, HB1, HB2⟩
        case measure => simp [intOf]; omega
      | false =>
        rw [hg] at hcell1
        rw [hg, if_neg (by decide)] at hct
        go_wp2
        go_roundw
        case rel => exact ⟨i + 1, by omega, by go_num, by rw [hct]; go_num, HB1, HB2⟩
        case measure => simp [intOf]; omega
    · have i1 : i = L.length := by omega
      subst i1
      rw [List.take_length]
      have hx := pw_cell_below HB2.out HX.out
      have hy := pw_cell_below HB2.out HY.out
      obtain ⟨c0, c1, c2⟩ := blk3 (blk_below HK.out HB2.out)
      go_wp2
      go_region_held3 (fun W => W.cell? ⟨w.heap.size, 0, none⟩ = some (.int .i64 s) ∧ W.cell? ⟨w.heap.size, 1, none⟩ = some (.int .i64 b) ∧ W.cell? ⟨w.heap.size, 2, none⟩ = some (.int .i64 c) ∧ W.cell? (ad1.add M') = some (.int .i64 Y)) (go_keep) (first | (go_at_call 21; refine (hbf _).mono ?_; rintro e w' ⟨rfl, hb⟩; have e0 := pw_cell_below hb c0; have e1 := pw_cell_below hb c1; have e2 := pw_cell_below hb c2; have e3 := pw_cell_below hb hy; have KB := Aside0.mk hb; clear hb))
      have HB3 := Aside0.mk (below_after HB1.out.drew KB.out)
      have HB4 := Aside0.mk (below_after HB2.out.drew KB.out)
      clear d1 d2 d3 d4 d5 d6 d7 e0 e1 e2 e3 c0 c1 c2 hx hy hbf n0 m0 n1 m1 n2 m2 n3 m3 hz KB HB1 HB2 HX HY
      rename_i w2; clear w2
      go_wp2
      go_loopw [84] (fun v wr => ∃ i : Nat, i ≤ M ∧ v = .int .i64 i ∧ Aside0 (Below w.heap.size w wr) ∧ Aside0 (Below w1.heap.size w1 wr)) (fun v _ => M - (intOf v).toNat)
      case atStart => exact ⟨0, by omega, rfl, HB3, HB4⟩
      case round =>
        obtain ⟨i, hi, rfl, HB1, HB2⟩ := hrel
        obtain ⟨c0, c1, c2⟩ := blk3 (blk_below HK.out HB2.out)
        have HRr := Aside0.mk (HRJ.out.below HB2.out)
        by_cases hlt : i < M
        · have hltz : (i : Int) < (M : Int) := by omega
          by_cases hi0 : 0 < i
          · have hl := hlaw.out i hi0 hlt
            have g3 : decide ((0 : Int) < (i : Int)) = true := by simp; omega
            obtain ⟨j, hj⟩ : ∃ j : Nat, i = j + 1 := ⟨i - 1, by omega⟩
            obtain ⟨a2, e2, hcx⟩ := HRr.out.at_ (i : Int) (by omega) (by have := HM.out; omega)
            cases e2
            obtain ⟨a2, e2, hcy⟩ := HRr.out.at_ (j : Int) (by omega) (by have := HM.out; omega)
            cases e2
            rw [Int.toNat_natCast] at hcx hcy
            rw [show i - 1 = j by omega] at hl
            generalize rd ys (i : Int) = X1 at hl hcx
            generalize rd ys (j : Int) = Y1 at hl hcy
            have hbf := fun W => law_before s b c Y1 X1 W
            rw [hl] at hbf
            clear hl
            have w3 : IntKind.i64.wrap ((i : Int) - 1) = (j : Int) := by rw [show (i : Int) - 1 = (j : Int) by omega]; exact IntWalk.i64_in _ (by omega)
            have w4 : (0 : Int) ≤ (j : Int) := by omega
            have w5 : (j : Int) < (M : Int) := by omega
            have w6 : (0 : Int) ≤ (i : Int) := by omega
            have hj' := Aside0.mk hj
            clear hj
            go_wp2
            go_region_held3 (fun W => W.cell? ⟨w.heap.size, 0, none⟩ = some (.int .i64 s) ∧ W.cell? ⟨w.heap.size, 1, none⟩ = some (.int .i64 b) ∧ W.cell? ⟨w.heap.size, 2, none⟩ = some (.int .i64 c) ∧ W.cell? (ad1.add j) = some (.int .i64 Y1) ∧ W.cell? (ad1.add i) = some (.int .i64 X1)) (go_keep) (first | (go_at_call 21; refine (hbf _).mono ?_; rintro e w' ⟨rfl, hb⟩; have e0 := pw_cell_below hb c0; have e1 := pw_cell_below hb c1; have e2 := pw_cell_below hb c2; have e3 := pw_cell_below hb hcx; have e4 := pw_cell_below hb hcy; have KB := Aside0.mk hb; clear hb))
            all_goals go_wp2
            all_goals go_roundw
            case rel => exact ⟨i + 1, by omega, by simp, ⟨below_after HB1.out.drew KB.out⟩, ⟨below_after HB2.out.drew KB.out⟩⟩
            case measure => simp [intOf]; omega
          · have hi0z : ¬ (0 : Int) < (i : Int) := by omega
            have g3 : decide ((0 : Int) < (i : Int)) = false := by simp; omega
            go_wp2
            go_quiet (fail)
            all_goals go_wp2
            all_goals go_roundw
            case rel => exact ⟨i + 1, by omega, by simp, ⟨HB1.out.trans ⟨rfl, rfl, rfl, Nat.le_refl _, fun _ _ => rfl⟩⟩, ⟨HB2.out.trans ⟨rfl, rfl, rfl, Nat.le_refl _, fun _ _ => rfl⟩⟩⟩
            case measure => simp [intOf]; omega
        · have i1 : i = M := by omega
          subst i1
          go_wp2_with (go_at_call 17; refine (awake _).mono ?_; rintro e w' ⟨rfl, hb⟩)
          go_ret
          exact ⟨rfl, below_after HB1.out hb⟩

theorem law_lost (s b c : Int) (A : Option Addr) (cp : Nat) (L : List Bool) (w : World) (hr : Aside0 (ReadsOf Value.bool false w A L.length L)) (hcp : L.length ≤ cp) :
    Calls Tryd.prog 6 #[.agg #[.int .i64 s, .int .i64 b, .int .i64 c], .slice A L.length cp] w fun e w' => e = .returned (.bool true) ∧ Below w.heap.size w w' := by
  by_cases hv : vldB s b c = true ∧ L.length ≤ 2000
  · obtain ⟨h1, h2, h3, h4⟩ := lost_law hv.1 hv.2
    have ⟨_, _, hb0, hc1, hc2⟩ := vld_parts hv.1
    have ⟨hs1, hs2⟩ := vld_start hv.1
    by_cases ho : runO s b c L = []
    · exact lost_nil s b c A cp L w hr hcp (by rw [runE, if_pos hv]) ho (h1 ho)
    · obtain ⟨hm, k, hk, hkl, hki, hkb⟩ := h2 ho
      have hlo : 0 < (runO s b c L).length := List.length_pos_iff.2 ho
      have hlm : 0 < (runM s b c L).length := List.length_pos_iff.2 hm
      obtain ⟨D, K, K1, K2, C1, T, d1, d2, d3, d4, d5, d6, d7⟩ := lost_nums hb0 hs1 hs2 hc1 hc2 hki h4 (Nat.le_trans (crashes_le L) hv.2) hkl
      have hbf : ∀ W, Calls Tryd.prog 21 #[.agg #[.int .i64 s, .int .i64 b, .int .i64 c], .int .i64 (rd (runM s b c L) (((runM s b c L).length - 1 : Nat) : Int)), .int .i64 (s + (k : Int) * b)] W fun e w' => e = .returned (.bool false) ∧ Below W.heap.size W w' := by
        intro W
        have h := law_before s b c (rd (runM s b c L) (((runM s b c L).length - 1 : Nat) : Int)) (s + (k : Int) * b) W
        rw [hkb] at h
        exact h
      have q1 : (runO s b c L).length = ((runO s b c L).length - 1) + 1 := by omega
      have q2 : (runM s b c L).length = ((runM s b c L).length - 1) + 1 := by omega
      have q3 : runE s b c L = 0 := by rw [runE, if_pos hv]
      exact lost_ok s b c A cp L w hr hcp q3 (runO s b c L) (runM s b c L) rfl rfl hb0 hv.2 ((runO s b c L).length - 1) ((runM s b c L).length - 1) (s + (k : Int) * b) (rd (runM s b c L) (((runM s b c L).length - 1 : Nat) : Int)) ⟨q1⟩ ⟨q2⟩ ⟨hk⟩ ⟨rfl⟩ hbf ⟨h3⟩ D K K1 K2 C1 T d1 d2 d3 d4 d5 d6 d7
  · exact lost_err s b c A cp L w hr hcp (by rw [runE, if_neg hv])
end Go.Proofs.YtinidfeoellmhaaDoor
