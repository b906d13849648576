import Derived.Test.YtinidfeoellmhaaDoorH7
import Derived.Test.YtinidfeoellmhaaDoorQ
import Derived.Deep.RegionHeld3
import Derived.IntWalk
import Derived.Outline
import Derived.Test.YtinidfeoellmhaaDoorS0
namespace Go.Proofs.YtinidfeoellmhaaDoor
open Go.RowKit Go.Proofs.YtinidfeoellmhaaDoorW.PrintWords
set_option linter.unusedVariables false
set_option linter.unusedSimpArgs false

theorem law_before (s b c x y : Int) (w : World) : Calls Tryd.prog 21 #[.agg #[.int .i64 s, .int .i64 b, .int .i64 c], .int .i64 x, .int .i64 y] w fun e w' => e = .returned (.bool (beforeB b x y)) ∧ Below w.heap.size w w' := by
  go_enter Tryd.func21, Tryd.ntmps21
  go_wp2
  all_goals (go_ret; exact ⟨by first | (simp [beforeB, *]; done) | (simp [beforeB, *]; omega), by repeat (first | exact Below.refl _ _ | apply below_alloc)⟩)

set_option maxHeartbeats 2000000 in
theorem once_err (s b c : Int) (A : Option Addr) (cp : Nat) (L : List Bool) (w : World) (hr : Aside0 (ReadsOf Value.bool false w A L.length L)) (hcp : L.length ≤ cp) (he : runE s b c L = 2) (ho : runO s b c L = []) :
    Calls Tryd.prog 5 #[.agg #[.int .i64 s, .int .i64 b, .int .i64 c], .slice A L.length cp] w fun e w' => e = .returned (.bool true) ∧ Below w.heap.size w w' := by
  have hc := fun w hr => srv_run s b c A cp L w hr hcp
  rw [he, ho] at hc
  clear he ho
  go_enter Tryd.func5, Tryd.ntmps5
  go_wp2_with fail
  refine (hc _ (ReadsOf_below hr.out (below_alloc (Below.refl _ _) _))).mono ?_
  rintro e w1 ⟨v0, v1, rfl, ⟨A0, c0, rfl, _, _⟩, I1, hb⟩
  have HB := Aside0.mk (below_after (below_alloc (Below.refl _ _) _) hb)
  clear hb hc I1
  go_wp2_with (go_at_call 17; refine (awake _).mono ?_; rintro e w' ⟨rfl, hb⟩)
  go_ret
  exact ⟨rfl, below_after HB.out hb⟩

set_option maxHeartbeats 4000000 in
theorem once_ok (s b c : Int) (A : Option Addr) (cp : Nat) (L : List Bool) (w : World) (hr : Aside0 (ReadsOf Value.bool false w A L.length L)) (hcp : L.length ≤ cp) (he : runE s b c L = 0) (xs : List Int) (ho : runO s b c L = xs)
    (hb0 : b ≠ 0) (hs1 : -1099511627776 ≤ s) (hs2 : s ≤ 1099511627776)
    (hlaw : Aside0 (∀ i, i < xs.length → isIntB (rd xs i) = true ∧ Int.tmod (rd xs i - s) b = 0 ∧ (0 < i → beforeB b (rd xs ((i : Int) - 1)) (rd xs i) = true))) (h0 : Aside0 (xs.length ≠ 0 → rd xs 0 = s)) :
    Calls Tryd.prog 5 #[.agg #[.int .i64 s, .int .i64 b, .int .i64 c], .slice A L.length cp] w fun e w' => e = .returned (.bool true) ∧ Below w.heap.size w w' := by
  have hc := fun w hr => srv_run s b c A cp L w hr hcp
  rw [he, ho] at hc
  clear he ho
  go_enter Tryd.func5, Tryd.ntmps5
  go_wp2_with fail
  refine (hc _ (ReadsOf_below hr.out (below_alloc (Below.refl _ _) _))).mono ?_
  rintro e w1 ⟨v0, v1, rfl, ⟨A0, c0, rfl, hc0, RI⟩, I1, hb⟩
  have K := Aside0.mk (blk_below (blk_new w (.cells #[.int .i64 s, .int .i64 b, .int .i64 c] 23)) hb)
  have HB := Aside0.mk (below_after (below_alloc (Below.refl _ _) _) hb)
  have HR := Aside0.mk RI
  have hbig := RI.2.1
  clear hb hc I1 RI
  go_wp2
  go_loopw [31] (fun v wr => ∃ i : Nat, i ≤ xs.length ∧ v = .int .i64 i ∧ Aside0 (Below w.heap.size w wr) ∧ Aside0 (Below w1.heap.size w1 wr)) (fun v _ => xs.length - (intOf v).toNat)
  case atStart => exact ⟨0, by omega, rfl, HB, ⟨Below.refl _ _⟩⟩
  case round =>
    obtain ⟨i, hi, rfl, HB1, HB2⟩ := hrel
    obtain ⟨c0, c1, c2⟩ := blk3 (blk_below K.out HB2.out)
    have HRr := Aside0.mk (HR.out.below HB2.out)
    by_cases hlt : i < xs.length
    · have hltz : (i : Int) < (xs.length : Int) := by omega
      obtain ⟨ad, rfl, hcx⟩ := HRr.out.at_ i (by omega) (by omega)
      rw [Int.toNat_natCast] at hcx
      obtain ⟨l1, l2, l3⟩ := hlaw.out i hlt
      have ⟨x1, x2⟩ := int_parts l1
      clear l1
      have hz : (b == 0) = false := by simpa using hb0
      have l2' : (Int.tmod (rd xs i - s) b != 0) = false := by simpa using l2
      have w0 : IntKind.i64.wrap 0 = 0 := by decide
      have w1' : IntKind.i64.wrap (rd xs i - s) = rd xs i - s := IntWalk.i64_in _ (by omega)
      by_cases hi0 : 0 < i
      · have hb4 := l3 hi0
        have hi0z : (0 : Int) < (i : Int) := by omega
        obtain ⟨j, hj⟩ : ∃ j : Nat, i = j + 1 := ⟨i - 1, by omega⟩
        have e1 : (i : Int) - 1 = (j : Int) := by omega
        rw [e1] at hb4
        obtain ⟨ad2, e2, hcy⟩ := HRr.out.at_ (j : Int) (by omega) (by omega)
        cases e2
        clear l3
        have hbf := fun W => law_before s b c (rd xs (j : Int)) (rd xs i) W
        rw [hb4] at hbf
        clear hb4
        rw [Int.toNat_natCast] at hcy
        have hz0 := World.block_lt_of_cell? wr _ hcy
        have B2s := blk_lt (blk_below K.out HB2.out)
        have g1 : decide (rd xs i < -1099511627776) = false := by simp; omega
        have g2 : decide (1099511627776 < rd xs i) = false := by simp; omega
        have w3 : IntKind.i64.wrap ((i : Int) - 1) = (j : Int) := by rw [e1]; exact IntWalk.i64_in _ (by omega)
        have w4 : (0 : Int) ≤ (j : Int) := by omega
        have w5 : (j : Int) < (xs.length : Int) := by omega
        have g3 : decide ((0 : Int) < (i : Int)) = true := by simp; omega
        clear e1
        have hj' := Aside0.mk hj
        clear hj
        go_wp2
        go_region_held3 (fun W => W.cell? ⟨w.heap.size, 0, none⟩ = some (.int .i64 s) ∧ W.cell? ⟨w.heap.size, 1, none⟩ = some (.int .i64 b) ∧ W.cell? ⟨w.heap.size, 2, none⟩ = some (.int .i64 c) ∧ W.cell? (ad.add j) = some (.int .i64 (rd xs (j : Int)))) (go_keep) (first | (go_at_call 21; refine (hbf _).mono ?_; rintro e w' ⟨rfl, hb⟩; have d0 := pw_cell_below hb c0; have d1 := pw_cell_below hb c1; have d2 := pw_cell_below hb c2; have d3 := pw_cell_below hb hcy; have KB := Aside0.mk hb; clear hb))
        all_goals go_wp2
        all_goals go_roundw
        case rel => exact ⟨i + 1, by omega, by simp, ⟨below_after HB1.out.drew KB.out⟩, ⟨below_after HB2.out.drew KB.out⟩⟩
        case measure => simp [intOf]; omega
      · have hi0z : ¬ (0 : Int) < (i : Int) := by omega
        have i0 := Aside0.mk (show i = 0 by omega)
        have g1 : decide (rd xs i < -1099511627776) = false := by simp; omega
        have g2 : decide (1099511627776 < rd xs i) = false := by simp; omega
        have g3 : decide ((0 : Int) < (i : Int)) = false := by simp; omega
        clear l3
        go_wp2
        go_quiet (fail)
        all_goals go_wp2
        all_goals go_roundw
        case rel => exact ⟨i + 1, by omega, by simp, ⟨HB1.out.trans ⟨rfl, rfl, rfl, Nat.le_refl _, fun _ _ => rfl⟩⟩, ⟨HB2.out.trans ⟨rfl, rfl, rfl, Nat.le_refl _, fun _ _ => rfl⟩⟩⟩
        case measure => simp [intOf]; omega
    · have i1 : i = xs.length := by omega
      subst i1
      have h00 := h0.out
      clear hlaw h0 HR hi hlt
      have HR2 := HRr.out
      clear HRr
      generalize hNN : xs.length = N at HR2 h00 ⊢
      have hN2 := Aside0.mk hNN
      clear hNN
      by_cases hz : N = 0
      · subst hz
        go_wp2
        refine st_region 12 (by kernel_rfl) (by kernel_rfl) ?_
        simp only [List.take_succ_cons, List.take_zero, List.drop_succ_cons, List.drop_zero]
        iterate 4 (refine st_yes (by kernel_rfl) (fun K hK => ?_); go_simp; refine hK _ ?_; clear hK K)
        iterate 6 (refine st_no (by kernel_rfl) ?_; simp only [Act.put, List.setIfInBounds_toArray, List.set_cons_zero, List.set_cons_succ])
        iterate 2 (refine st_yes (by kernel_rfl) (fun K hK => ?_); go_simp; refine hK _ ?_; clear hK K)
        refine st_end ?_
        go_wp2_with (go_at_call 17; refine (awake _).mono ?_; rintro e w' ⟨rfl, hb⟩)
        go_ret
        exact ⟨rfl, below_after HB1.out.drew hb⟩
      · have hz1 : (N == 0) = false := by simpa using hz
        have hz2 : (0 : Int) < (N : Int) := by omega
        have hz5 : 0 < N := by omega
        have hz3 : ((N : Int) == 0) = false := by simp; omega
        have h01 := h00 hz
        have hz4 : (s == s) = true := by simp
        obtain ⟨ad, rfl, hcx⟩ := HR2.at_ 0 (by omega) (by have := hN2.out; omega)
        have hcx0 : wr.cell? ad = some (.int .i64 s) := by rw [h01] at hcx; simpa [Addr.add] using hcx
        clear h00 hcx h01
        have HR3 := Aside0.mk HR2
        clear HR2
        go_wp2
        refine st_region 12 (by kernel_rfl) (by kernel_rfl) ?_
        simp only [List.take_succ_cons, List.take_zero, List.drop_succ_cons, List.drop_zero]
        iterate 12 (refine st_yes (by kernel_rfl) (fun K hK => ?_); go_simp; refine hK _ ?_; clear hK K)
        refine st_end ?_
        go_wp2_with (go_at_call 17; refine (awake _).mono ?_; rintro e w' ⟨rfl, hb⟩)
        go_ret
        exact ⟨rfl, below_after HB1.out.drew hb⟩
theorem law_once (s b c : Int) (A : Option Addr) (cp : Nat) (L : List Bool) (w : World) (hr : Aside0 (ReadsOf Value.bool false w A L.length L)) (hcp : L.length ≤ cp) :
    Calls Tryd.prog 5 #[.agg #[.int .i64 s, .int .i64 b, .int .i64 c], .slice A L.length cp] w fun e w' => e = .returned (.bool true) ∧ Below w.heap.size w w' := by
  by_cases hv : vldB s b c = true ∧ L.length ≤ 2000
  · obtain ⟨h1, h2⟩ := once_law hv.1 hv.2
    have ⟨_, _, hb0, _, _⟩ := vld_parts hv.1
    have ⟨hs1, hs2⟩ := vld_start hv.1
    exact once_ok s b c A cp L w hr hcp (by rw [runE, if_pos hv]) _ rfl hb0 hs1 hs2 ⟨h1⟩ ⟨h2⟩
  · exact once_err s b c A cp L w hr hcp (by rw [runE, if_neg hv]) (by rw [runO, if_neg hv])
end Go.Proofs.YtinidfeoellmhaaDoor
