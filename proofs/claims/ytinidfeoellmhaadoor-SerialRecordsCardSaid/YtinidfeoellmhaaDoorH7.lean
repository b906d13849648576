/-
  The walk of the statement SerialRuns: it returns true, and writes nothing that was there. No conditions.
-/
import Derived.Test.YtinidfeoellmhaaDoorH6
namespace Go.Proofs.YtinidfeoellmhaaDoor
open Go.RowKit Go.Proofs.YtinidfeoellmhaaDoorW.PrintWords
set_option linter.unusedVariables false
set_option linter.unusedSimpArgs false

theorem ReadsOf_below {w w1 : World} {A : Option Addr} {n : Nat} {L : List Bool} (h : ReadsOf Value.bool false w A n L) (hb : Below w.heap.size w w1) : ReadsOf Value.bool false w1 A n L := h.below hb
theorem same_of (v0 v1 : Value) (xs ys : List Int) (e : xs = ys) (W : World) (h0 : SlI W v0 xs) (h1 : SlI W v1 ys) : Calls Tryd.prog 20 #[v0, v1] W fun e w' => e = .returned (.bool true) ∧ Below W.heap.size W w' :=
  (sameInts _ _ xs ys W h0 h1).mono fun _ _ ⟨he, hd⟩ => ⟨by rw [he, e]; simp, hd.below⟩

set_option maxHeartbeats 1000000 in
theorem law_runs (s b c : Int) (A : Option Addr) (cp : Nat) (L : List Bool) (w : World) (hr : Aside0 (ReadsOf Value.bool false w A L.length L)) (hcp : L.length ≤ cp) :
    Calls Tryd.prog 4 #[.agg #[.int .i64 s, .int .i64 b, .int .i64 c], .slice A L.length cp] w fun e w' => e = .returned (.bool true) ∧ Below w.heap.size w w' := by
  by_cases hl : (2100 : Int) < L.length
  · go_enter Tryd.func4, Tryd.ntmps4
    go_wp2_with (go_at_call 17; refine (awake _).mono ?_; rintro e w' ⟨rfl, hb⟩)
    go_ret
    exact ⟨rfl, below_after (below_alloc (Below.refl _ _) _) hb⟩
  · go_enter Tryd.func4, Tryd.ntmps4
    go_wp2_with fail
    refine (srv_run s b c A cp L _ (ReadsOf_below hr.out (below_alloc (Below.refl _ _) _)) hcp).mono ?_
    rintro e w1 ⟨v0, v1, rfl, I0, I1, hb⟩
    have K := Aside0.mk (blk_below (blk_new w (.cells #[.int .i64 s, .int .i64 b, .int .i64 c] 23)) hb)
    have HB := Aside0.mk (below_after (below_alloc (Below.refl _ _) _) hb)
    have J0 := Aside0.mk I0
    have J1 := Aside0.mk I1
    clear hb I0 I1
    obtain ⟨c0, c1, c2⟩ := blk3 K.out
    go_wp2_with fail
    refine (ref_run s b c A cp L _ (ReadsOf_below hr.out HB.out) hcp).mono ?_
    rintro e w2 ⟨u0, u1, rfl, I0, I1, hb⟩
    replace J0 := Aside0.mk (J0.out.below hb)
    replace J1 := Aside0.mk (J1.out.below hb)
    replace HB := Aside0.mk (below_after HB.out hb)
    have M0 := Aside0.mk I0
    have M1 := Aside0.mk I1
    clear hb I0 I1 K c0 c1 c2
    go_wp2_with fail
    refine (same_of _ _ _ _ rfl _ J0.out M0.out).mono ?_
    rintro e w3 ⟨rfl, hb⟩
    replace J1 := Aside0.mk (J1.out.below hb)
    replace M1 := Aside0.mk (M1.out.below hb)
    replace HB := Aside0.mk (below_after HB.out hb)
    clear hb
    go_wp2_with fail
    refine (same_of _ _ _ _ rfl _ J1.out M1.out).mono ?_
    rintro e w4 ⟨rfl, hb⟩
    replace HB := Aside0.mk (below_after HB.out hb)
    clear hb
    go_wp2_with (go_at_call 17; refine (awake _).mono ?_; rintro e w' ⟨rfl, hb⟩)
    go_ret
    exact ⟨rfl, below_after HB.out hb⟩
end Go.Proofs.YtinidfeoellmhaaDoor
