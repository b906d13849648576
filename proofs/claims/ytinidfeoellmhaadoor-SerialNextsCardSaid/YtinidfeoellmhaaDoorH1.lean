/-
  The contracts of serial.New, serial.Next, serial.Recover and of the reference's functions of the same names: each returns what one plain function says, and writes nothing that was there. No conditions.
-/
import Derived.Test.YtinidfeoellmhaaDoorProg
import Derived.Below
import Derived.OwnWalk
import Derived.Tactics
import Derived.WalkKit
import Derived.KernelRfl
import Derived.RowKit3
import Derived.Deep.LoopGhost
import Derived.Deep.QuietTactic
import Derived.BigQuiet
import Derived.RegionTactic
import Derived.ChangeAlike
import Derived.Test.YtinidfeoellmhaaDoorWWords
namespace Go.Proofs.YtinidfeoellmhaaDoor
open Go.RowKit Go.Proofs.YtinidfeoellmhaaDoorW.PrintWords
set_option linter.unusedVariables false
set_option linter.unusedSimpArgs false

def isIntB (n : Int) : Bool := decide (-1099511627776 ≤ n) && decide (n ≤ 1099511627776)
def isWideB (n : Int) : Bool := decide (-2199023255552 ≤ n) && decide (n ≤ 2199023255552)
def vldB (s b c : Int) : Bool := isIntB s && (isIntB b && (b != 0 && (decide (1 ≤ c) && decide (c ≤ 1000))))
theorem below_after {w W w1 : World} (h : Below w.heap.size w W) (hb : Below W.heap.size W w1) : Below w.heap.size w w1 := h.trans (hb.mono h.size)
theorem below_set2 {B : Nat} {a w : World} (h : Below B a w) (p : Addr) (u : Value) (hp : B ≤ p.block) : Below B a (w.setCell p u) := h.setCell hp u

/-- How many numbers more than this one may be given without a record: at most k more than j. -/
def moreF (n b : Int) : Nat → Nat → Nat
  | 0, j => j
  | k + 1, j => if isIntB (n + ((j : Int) + 1) * b) = true then moreF n b k (j + 1) else j
def moreN (n b c : Int) : Nat := moreF n b (c - 1).toNat 0
theorem moreF_stop {n b : Int} {k j : Nat} (h : isIntB (n + ((j : Int) + 1) * b) = false) : moreF n b k j = j := by
  cases k <;> simp [moreF, h]

def cachedV (n l m : Int) (so : Bool) : Value := .agg #[.int .i64 n, .int .i64 l, .int .i64 m, .bool so]
def tupV (a aN aL aM : Int) (aS : Bool) (mk : Int) (lg : Bool) (e : Int) : Value := .tuple #[.int .i64 a, .agg #[.int .i64 aN, .int .i64 aL, .int .i64 aM, .bool aS], .int .i64 mk, .bool lg, .int .i64 e]
/-- What Next hands back: number, state, mark, log, error. -/
structure NextR where
  num : Int
  aN : Int
  aL : Int
  aM : Int
  aS : Bool
  mrk : Int
  lg : Bool
  er : Int
def NextR.v (r : NextR) : Value := tupV r.num r.aN r.aL r.aM r.aS r.mrk r.lg r.er
def nextR (s b c n l m : Int) (so : Bool) : NextR :=
  if vldB s b c = false then ⟨0, 0, 0, 0, false, 0, false, 2⟩
  else if isWideB n = false ∨ isWideB m = false ∨ l < 0 ∨ c < l then ⟨0, 0, 0, 0, false, 0, false, 30⟩
  else if isIntB n = false then ⟨0, 0, 0, 0, false, 0, false, 21⟩
  else if 0 < l then ⟨n, n + b, l - 1, m, so, 0, false, 0⟩
  else ⟨n, n + b, moreN n b c, n + (moreN n b c) * b, true, n + (moreN n b c) * b, true, 0⟩
theorem nextR_arg {s b c n l m : Int} {so : Bool} (h : (!vldB s b c) = true) : tupV 0 0 0 0 false 0 false 2 = (nextR s b c n l m so).v := by
  rw [nextR, if_pos (by simpa using h)]; rfl
theorem nextR_form {s b c n l m : Int} {so : Bool} (h : (!vldB s b c) = false) (h2 : isWideB n = true → isWideB m = true → 0 ≤ l → l ≤ c → False) : tupV 0 0 0 0 false 0 false 30 = (nextR s b c n l m so).v := by
  rw [nextR, if_neg (by simpa using h), if_pos ?_]; rfl
  cases h3 : isWideB n <;> cases h4 : isWideB m <;> simp_all
  omega
theorem nextR_range {s b c n l m : Int} {so : Bool} (h : (!vldB s b c) = false) (h1 : isWideB n = true) (h2 : isWideB m = true) (h3 : 0 ≤ l) (h4 : l ≤ c) (h5 : (!isIntB n) = true) : tupV 0 0 0 0 false 0 false 21 = (nextR s b c n l m so).v := by
  rw [nextR, if_neg (by simpa using h), if_neg (by rw [h1, h2]; simp; omega), if_pos (by simpa using h5)]; rfl
theorem nextR_left {s b c n l m : Int} {so : Bool} (h : vldB s b c = true) (h1 : isWideB n = true) (h2 : isWideB m = true) (h4 : l ≤ c) (h5 : isIntB n = true) (h6 : 0 < l) : tupV n (n + b) (l - 1) m so 0 false 0 = (nextR s b c n l m so).v := by
  rw [nextR, if_neg (by simpa using h), if_neg (by rw [h1, h2]; simp; omega), if_neg (by simpa using h5), if_pos h6]; rfl
theorem nextR_more {s b c n l m : Int} {so : Bool} (h : vldB s b c = true) (h1 : isWideB n = true) (h2 : isWideB m = true) (h3 : 0 ≤ l) (h4 : l ≤ c) (h5 : isIntB n = true) (h6 : l ≤ 0) : tupV n (n + b) (moreN n b c) (n + (moreN n b c) * b) true (n + (moreN n b c) * b) true 0 = (nextR s b c n l m so).v := by
  rw [nextR, if_neg (by simpa using h), if_neg (by rw [h1, h2]; simp; omega), if_neg (by simpa using h5), if_neg (by omega)]; rfl
theorem vld_parts {s b c : Int} (h : vldB s b c = true) : -1099511627776 ≤ b ∧ b ≤ 1099511627776 ∧ b ≠ 0 ∧ 1 ≤ c ∧ c ≤ 1000 := by
  simp [vldB, isIntB] at h; omega
theorem vld_start {s b c : Int} (h : vldB s b c = true) : -1099511627776 ≤ s ∧ s ≤ 1099511627776 := by
  simp [vldB, isIntB] at h; omega
theorem int_parts {n : Int} (h : isIntB n = true) : -1099511627776 ≤ n ∧ n ≤ 1099511627776 := by
  simp [isIntB] at h; omega
theorem wide_parts {n : Int} (h : isWideB n = true) : -2199023255552 ≤ n ∧ n ≤ 2199023255552 := by
  simp [isWideB] at h; omega
theorem wide_mk {n : Int} (h1 : -2199023255552 ≤ n) (h2 : n ≤ 2199023255552) : isWideB n = true := by simp [isWideB]; omega
theorem mul_bd {b : Int} (hb1 : -1099511627776 ≤ b) (hb2 : b ≤ 1099511627776) (j : Int) (h0 : 0 ≤ j) (hj : j ≤ 2001) : -(2001 * 1099511627776) ≤ j * b ∧ j * b ≤ 2001 * 1099511627776 := by
  rcases Int.le_total 0 b with h | h
  · have h1 := Int.mul_le_mul hj hb2 h (by omega)
    have h2 := Int.mul_nonneg h0 h
    omega
  · have h1 := Int.mul_le_mul hj (show -b ≤ 1099511627776 by omega) (by omega) (by omega)
    have h2 := Int.mul_nonneg h0 (show 0 ≤ -b by omega)
    rw [Int.mul_neg] at h1 h2
    omega

/-- What New hands back, and Recover: a state, an error. -/
def newV (s b c : Int) : Value := if vldB s b c = true then .tuple #[cachedV s 0 0 false, .int .i64 0] else .tuple #[cachedV 0 0 0 false, .int .i64 2]
def recV (s b c m : Int) (so : Bool) : Value :=
  if vldB s b c = true ∧ isIntB m = true then (if so = true then .tuple #[cachedV (m + b) 0 m true, .int .i64 0] else .tuple #[cachedV s 0 0 false, .int .i64 0]) else .tuple #[cachedV 0 0 0 false, .int .i64 2]

/-! ### srv_ -/
theorem srv_isInt (n : Int) (w : World) : Calls Tryd.prog 25 #[.int .i64 n] w fun e w' => e = .returned (.bool (isIntB n)) ∧ w = w' := by
  go_enter Tryd.func25, Tryd.ntmps25
  go_wp2
  all_goals (go_ret; exact ⟨by first | (simp [isIntB, *]; done) | (simp [isIntB, *]; omega), rfl⟩)
theorem srv_isWide (n : Int) (w : World) : Calls Tryd.prog 24 #[.int .i64 n] w fun e w' => e = .returned (.bool (isWideB n)) ∧ w = w' := by
  go_enter Tryd.func24, Tryd.ntmps24
  go_wp2
  all_goals (go_ret; exact ⟨by first | (simp [isWideB, *]; done) | (simp [isWideB, *]; omega), rfl⟩)
theorem srv_valid (s b c : Int) (w : World) : Calls Tryd.prog 22 #[.agg #[.int .i64 s, .int .i64 b, .int .i64 c]] w fun e w' => e = .returned (.bool (vldB s b c)) ∧ w.alloc (.cells #[.int .i64 s, .int .i64 b, .int .i64 c] 23) = w' := by
  go_enter Tryd.func22, Tryd.ntmps22
  go_wp2_with (first | (go_at_call 25; refine (srv_isInt _ _).mono ?_; rintro e w' ⟨rfl, rfl⟩))
  all_goals (go_ret; exact ⟨by first | (simp [vldB, *]; done) | (simp [vldB, *]; omega), by first | rfl | simp [*]⟩)
theorem srv_new (s b c : Int) (w : World) : Calls Tryd.prog 8 #[.agg #[.int .i64 s, .int .i64 b, .int .i64 c]] w fun e w' => e = .returned (newV s b c) ∧ ∃ o1 o2 o3, ((w.alloc o1).alloc o2).alloc o3 = w' := by
  cases hv : vldB s b c
  · have HV : newV s b c = .tuple #[cachedV 0 0 0 false, .int .i64 2] := by rw [newV, if_neg (by simp [hv])]
    rw [HV]
    clear HV
    go_enter Tryd.func8, Tryd.ntmps8
    go_wp2_with (first | (go_at_call 22; refine (srv_valid _ _ _ _).mono ?_; rintro e w' ⟨rfl, rfl⟩))
    refine bodyPost_ret (v := .tuple #[cachedV 0 0 0 false, .int .i64 2]) (by simp [results, Tryd.results8, go_sem, cachedV]) rfl ⟨rfl, _, _, _, rfl⟩
  · have HV : newV s b c = .tuple #[cachedV s 0 0 false, .int .i64 0] := by rw [newV, if_pos hv]
    rw [HV]
    clear HV
    go_enter Tryd.func8, Tryd.ntmps8
    go_wp2_with (first | (go_at_call 22; refine (srv_valid _ _ _ _).mono ?_; rintro e w' ⟨rfl, rfl⟩))
    refine bodyPost_ret (v := .tuple #[cachedV s 0 0 false, .int .i64 0]) (by simp [results, Tryd.results8, go_sem, cachedV]) rfl ⟨rfl, _, _, _, rfl⟩
set_option maxHeartbeats 1000000 in
theorem srv_recover (s b c m : Int) (so : Bool) (w : World) : Calls Tryd.prog 12 #[.agg #[.int .i64 s, .int .i64 b, .int .i64 c], .int .i64 m, .bool so] w fun e w' => e = .returned (recV s b c m so) ∧ Below w.heap.size w w' := by
  by_cases hv : vldB s b c = true ∧ isIntB m = true
  · obtain ⟨hv, hm⟩ := hv
    have ⟨hb1, hb2, _, _, _⟩ := vld_parts hv
    have ⟨hm1, hm2⟩ := int_parts hm
    cases so with
    | true =>
      have HV : recV s b c m true = .tuple #[cachedV (m + b) 0 m true, .int .i64 0] := by rw [recV, if_pos ⟨hv, hm⟩, if_pos rfl]
      rw [HV]
      clear HV
      go_enter Tryd.func12, Tryd.ntmps12
      go_wp2_with (first | (go_at_call 22; refine (srv_valid _ _ _ _).mono ?_; rintro e w' ⟨rfl, rfl⟩) | (go_at_call 25; refine (srv_isInt _ _).mono ?_; rintro e w' ⟨rfl, rfl⟩))
      refine bodyPost_ret (v := .tuple #[cachedV (m + b) 0 m true, .int .i64 0]) (by simp [results, Tryd.results12, go_sem, cachedV]) rfl ⟨rfl, ?_⟩
      (repeat (first | exact Below.refl _ _ | apply below_alloc | apply below_drew1 | apply below_drew | refine below_set2 ?_ _ _ (by simp; omega)))
    | false =>
      have HV : recV s b c m false = .tuple #[cachedV s 0 0 false, .int .i64 0] := by rw [recV, if_pos ⟨hv, hm⟩, if_neg (by decide)]
      have HN : newV s b c = .tuple #[.agg #[.int .i64 s, .int .i64 0, .int .i64 0, .bool false], .int .i64 0] := by rw [newV, if_pos hv]; rfl
      rw [HV]
      clear HV
      go_enter Tryd.func12, Tryd.ntmps12
      go_wp2_with (first | (go_at_call 22; refine (srv_valid _ _ _ _).mono ?_; rintro e w' ⟨rfl, rfl⟩) | (go_at_call 25; refine (srv_isInt _ _).mono ?_; rintro e w' ⟨rfl, rfl⟩) | (go_at_call 8; refine (srv_new _ _ _ _).mono ?_; rintro e w' ⟨rfl, o1, o2, o3, rfl⟩))
      refine bodyPost_ret (v := .tuple #[cachedV s 0 0 false, .int .i64 0]) (by simp [results, Tryd.results12, go_sem, cachedV]) rfl ⟨rfl, ?_⟩
      (repeat (first | exact Below.refl _ _ | apply below_alloc | apply below_drew1 | apply below_drew | refine below_set2 ?_ _ _ (by simp; omega)))
  · have HV : recV s b c m so = .tuple #[cachedV 0 0 0 false, .int .i64 2] := by rw [recV, if_neg hv]
    rw [HV]
    clear HV
    have hv' : vldB s b c = false ∨ (vldB s b c = true ∧ isIntB m = false) := by
      cases h1 : vldB s b c <;> cases h2 : isIntB m <;> simp_all
    rcases hv' with hv' | ⟨hv', hm⟩
    all_goals
      clear hv
      go_enter Tryd.func12, Tryd.ntmps12
      go_wp2_with (first | (go_at_call 22; refine (srv_valid _ _ _ _).mono ?_; rintro e w' ⟨rfl, rfl⟩) | (go_at_call 25; refine (srv_isInt _ _).mono ?_; rintro e w' ⟨rfl, rfl⟩))
      refine bodyPost_ret (v := .tuple #[cachedV 0 0 0 false, .int .i64 2]) (by simp [results, Tryd.results12, go_sem, cachedV]) rfl ⟨rfl, ?_⟩
      (repeat (first | exact Below.refl _ _ | apply below_alloc | apply below_drew1 | apply below_drew | refine below_set2 ?_ _ _ (by simp; omega)))

set_option maxHeartbeats 1000000 in
theorem srv_next_left (s b c n l m : Int) (so : Bool) (w : World) (hv : vldB s b c = true) (hn : isIntB n = true) (hm : isWideB m = true) (hw : isWideB n = true) (h0 : 0 < l) (h1 : l ≤ c) (hb1 : -1099511627776 ≤ b) (hb2 : b ≤ 1099511627776) (hn1 : -1099511627776 ≤ n) (hn2 : n ≤ 1099511627776) (hc1 : c ≤ 1000) (hm1 : -2199023255552 ≤ m) (hm2 : m ≤ 2199023255552) :
    Calls Tryd.prog 10 #[.agg #[.int .i64 s, .int .i64 b, .int .i64 c], .agg #[.int .i64 n, .int .i64 l, .int .i64 m, .bool so]] w fun e w' => e = .returned (tupV n (n + b) (l - 1) m so 0 false 0) ∧ Below w.heap.size w w' := by
  go_enter Tryd.func10, Tryd.ntmps10
  go_wp2_with (first | (go_at_call 22; refine (srv_valid _ _ _ _).mono ?_; rintro e w' ⟨rfl, rfl⟩) | (go_at_call 24; refine (srv_isWide _ _).mono ?_; rintro e w' ⟨rfl, rfl⟩) | (go_at_call 25; refine (srv_isInt _ _).mono ?_; rintro e w' ⟨rfl, rfl⟩))
  go_region
  go_wp2
  refine bodyPost_ret (v := tupV n (n + b) (l - 1) m so 0 false 0) (by simp [results, Tryd.results10, go_sem, tupV]) rfl ⟨rfl, ?_⟩
  (repeat (first | exact Below.refl _ _ | apply below_alloc | apply below_drew1 | apply below_drew | refine below_set2 ?_ _ _ (by simp; omega)))
set_option maxHeartbeats 2000000 in
theorem srv_next_more (s b c n l m : Int) (so : Bool) (w : World) (hv : vldB s b c = true) (hn : isIntB n = true) (hm : isWideB m = true) (hw : isWideB n = true) (h0 : 0 ≤ l) (h0' : l ≤ 0) (h1 : l ≤ c) (hb1 : -1099511627776 ≤ b) (hb2 : b ≤ 1099511627776) (hn1 : -1099511627776 ≤ n) (hn2 : n ≤ 1099511627776) (hc0 : 1 ≤ c) (hc1 : c ≤ 1000) (hm1 : -2199023255552 ≤ m) (hm2 : m ≤ 2199023255552) :
    Calls Tryd.prog 10 #[.agg #[.int .i64 s, .int .i64 b, .int .i64 c], .agg #[.int .i64 n, .int .i64 l, .int .i64 m, .bool so]] w fun e w' => e = .returned (tupV n (n + b) (moreN n b c) (n + (moreN n b c) * b) true (n + (moreN n b c) * b) true 0) ∧ Below w.heap.size w w' := by
  go_enter Tryd.func10, Tryd.ntmps10
  go_wp2_with (first | (go_at_call 22; refine (srv_valid _ _ _ _).mono ?_; rintro e w' ⟨rfl, rfl⟩) | (go_at_call 24; refine (srv_isWide _ _).mono ?_; rintro e w' ⟨rfl, rfl⟩) | (go_at_call 25; refine (srv_isInt _ _).mono ?_; rintro e w' ⟨rfl, rfl⟩))
  go_loop [9] (fun v => ∃ j : Nat, (j : Int) ≤ c - 1 ∧ v = .int .i64 j ∧ Aside0 (moreF n b ((c - 1).toNat - j) j = moreN n b c)) (fun v => (c - 1 - intOf v).toNat)
  case atStart => exact ⟨0, by omega, rfl, ⟨rfl⟩⟩
  case round =>
    obtain ⟨j, hj, rfl, A⟩ := hrel
    have ⟨hk1, hk2⟩ := mul_bd hb1 hb2 j (by omega) (by omega)
    by_cases hlt : (j : Int) < c - 1
    · have ⟨hj1, hj2⟩ := mul_bd hb1 hb2 ((j : Int) + 1) (by omega) (by omega)
      cases hi : isIntB (n + ((j : Int) + 1) * b) with
      | true =>
        go_wp2_with (first | (go_at_call 25; refine (srv_isInt _ _).mono ?_; rintro e w' ⟨rfl, rfl⟩))
        go_round
        case rel => exact ⟨j + 1, by omega, by go_num, ⟨by rw [← A.out, show (c - 1).toNat - j = ((c - 1).toNat - (j + 1)) + 1 by omega, moreF, if_pos hi]⟩⟩
        case measure => simp [intOf]; omega
      | false =>
        have HM := Aside0.mk ((moreF_stop hi).symm.trans A.out)
        go_wp2_with (first | (go_at_call 25; refine (srv_isInt _ _).mono ?_; rintro e w' ⟨rfl, rfl⟩))
        go_region
        go_wp2
        go_region
        go_wp2
        refine bodyPost_ret (v := tupV n (n + b) j (n + j * b) true (n + j * b) true 0) (by simp [results, Tryd.results10, go_sem, tupV]) rfl ⟨by rw [HM.out], ?_⟩
        (repeat (first | exact Below.refl _ _ | apply below_alloc | apply below_drew1 | apply below_drew | refine below_set2 ?_ _ _ (by simp; omega)))
    · have HM := Aside0.mk (show j = moreN n b c by rw [← A.out, show (c - 1).toNat - j = 0 by omega, moreF])
      go_wp2_with (first | (go_at_call 25; refine (srv_isInt _ _).mono ?_; rintro e w' ⟨rfl, rfl⟩))
      go_region
      go_wp2
      go_region
      go_wp2
      refine bodyPost_ret (v := tupV n (n + b) j (n + j * b) true (n + j * b) true 0) (by simp [results, Tryd.results10, go_sem, tupV]) rfl ⟨by rw [HM.out], ?_⟩
      (repeat (first | exact Below.refl _ _ | apply below_alloc | apply below_drew1 | apply below_drew | refine below_set2 ?_ _ _ (by simp; omega)))

set_option maxHeartbeats 2000000 in
theorem srv_next_err (s b c n l m : Int) (so : Bool) (w : World) (hx : Aside0 (vldB s b c = true → isWideB n = true → isWideB m = true → 0 ≤ l → l ≤ c → isIntB n = true → False)) :
    Calls Tryd.prog 10 #[.agg #[.int .i64 s, .int .i64 b, .int .i64 c], .agg #[.int .i64 n, .int .i64 l, .int .i64 m, .bool so]] w fun e w' => e = .returned (nextR s b c n l m so).v ∧ Below w.heap.size w w' := by
  go_enter Tryd.func10, Tryd.ntmps10
  go_wp2_with (first | (go_at_call 22; refine (srv_valid _ _ _ _).mono ?_; rintro e w' ⟨rfl, rfl⟩) | (go_at_call 24; refine (srv_isWide _ _).mono ?_; rintro e w' ⟨rfl, rfl⟩) | (go_at_call 25; refine (srv_isInt _ _).mono ?_; rintro e w' ⟨rfl, rfl⟩))
  all_goals first
    | (go_region; go_wp2; refine bodyPost_ret (v := tupV 0 0 0 0 false 0 false 2) (by simp [results, Tryd.results10, go_sem, tupV]) rfl ⟨congrArg Ending.returned (nextR_arg ‹_›), ?_⟩; (repeat (first | exact Below.refl _ _ | apply below_alloc | apply below_drew1 | apply below_drew | refine below_set2 ?_ _ _ (by simp; omega))); done)
    | (go_region; go_wp2; refine bodyPost_ret (v := tupV 0 0 0 0 false 0 false 30) (by simp [results, Tryd.results10, go_sem, tupV]) rfl ⟨congrArg Ending.returned (nextR_form ‹_› (by intros; first | contradiction | omega)), ?_⟩; (repeat (first | exact Below.refl _ _ | apply below_alloc | apply below_drew1 | apply below_drew | refine below_set2 ?_ _ _ (by simp; omega))); done)
    | (go_region; go_wp2; refine bodyPost_ret (v := tupV 0 0 0 0 false 0 false 21) (by simp [results, Tryd.results10, go_sem, tupV]) rfl ⟨congrArg Ending.returned (nextR_range ‹_› ‹_› ‹_› (by omega) (by omega) ‹_›), ?_⟩; (repeat (first | exact Below.refl _ _ | apply below_alloc | apply below_drew1 | apply below_drew | refine below_set2 ?_ _ _ (by simp; omega))); done)
    | (exfalso; exact hx.out (by simpa using ‹(!vldB s b c) = false›) ‹_› ‹_› (by omega) (by omega) (by simpa using ‹(!isIntB n) = false›))

theorem srv_next (s b c n l m : Int) (so : Bool) (w : World) : Calls Tryd.prog 10 #[.agg #[.int .i64 s, .int .i64 b, .int .i64 c], .agg #[.int .i64 n, .int .i64 l, .int .i64 m, .bool so]] w fun e w' => e = .returned (nextR s b c n l m so).v ∧ Below w.heap.size w w' := by
  by_cases hx : vldB s b c = true ∧ isWideB n = true ∧ isWideB m = true ∧ 0 ≤ l ∧ l ≤ c ∧ isIntB n = true
  · obtain ⟨h1, h2, h3, h4, h5, h6⟩ := hx
    have ⟨b1, b2, _, c0, c1⟩ := vld_parts h1
    have ⟨n1, n2⟩ := int_parts h6
    have ⟨m1, m2⟩ := wide_parts h3
    by_cases hl : 0 < l
    · rw [← nextR_left h1 h2 h3 h5 h6 hl]
      exact srv_next_left s b c n l m so w h1 h6 h3 h2 hl h5 b1 b2 n1 n2 c1 m1 m2
    · rw [← nextR_more h1 h2 h3 h4 h5 h6 (by omega)]
      exact srv_next_more s b c n l m so w h1 h6 h3 h2 h4 (by omega) h5 b1 b2 n1 n2 c0 c1 m1 m2
  · exact srv_next_err s b c n l m so w ⟨fun h1 h2 h3 h4 h5 h6 => hx ⟨h1, h2, h3, h4, h5, h6⟩⟩

/-! ### ref_ -/
theorem ref_isInt (n : Int) (w : World) : Calls Tryd.prog 26 #[.int .i64 n] w fun e w' => e = .returned (.bool (isIntB n)) ∧ w = w' := by
  go_enter Tryd.func26, Tryd.ntmps26
  go_wp2
  all_goals (go_ret; exact ⟨by first | (simp [isIntB, *]; done) | (simp [isIntB, *]; omega), rfl⟩)
theorem ref_valid (s b c : Int) (w : World) : Calls Tryd.prog 23 #[.agg #[.int .i64 s, .int .i64 b, .int .i64 c]] w fun e w' => e = .returned (.bool (vldB s b c)) ∧ w.alloc (.cells #[.int .i64 s, .int .i64 b, .int .i64 c] 23) = w' := by
  go_enter Tryd.func23, Tryd.ntmps23
  go_wp2_with (first | (go_at_call 26; refine (ref_isInt _ _).mono ?_; rintro e w' ⟨rfl, rfl⟩))
  all_goals (go_ret; exact ⟨by first | (simp [vldB, *]; done) | (simp [vldB, *]; omega), by first | rfl | simp [*]⟩)
theorem ref_new (s b c : Int) (w : World) : Calls Tryd.prog 9 #[.agg #[.int .i64 s, .int .i64 b, .int .i64 c]] w fun e w' => e = .returned (newV s b c) ∧ ∃ o1 o2 o3, ((w.alloc o1).alloc o2).alloc o3 = w' := by
  cases hv : vldB s b c
  · have HV : newV s b c = .tuple #[cachedV 0 0 0 false, .int .i64 2] := by rw [newV, if_neg (by simp [hv])]
    rw [HV]
    clear HV
    go_enter Tryd.func9, Tryd.ntmps9
    go_wp2_with (first | (go_at_call 23; refine (ref_valid _ _ _ _).mono ?_; rintro e w' ⟨rfl, rfl⟩))
    refine bodyPost_ret (v := .tuple #[cachedV 0 0 0 false, .int .i64 2]) (by simp [results, Tryd.results9, go_sem, cachedV]) rfl ⟨rfl, _, _, _, rfl⟩
  · have HV : newV s b c = .tuple #[cachedV s 0 0 false, .int .i64 0] := by rw [newV, if_pos hv]
    rw [HV]
    clear HV
    go_enter Tryd.func9, Tryd.ntmps9
    go_wp2_with (first | (go_at_call 23; refine (ref_valid _ _ _ _).mono ?_; rintro e w' ⟨rfl, rfl⟩))
    refine bodyPost_ret (v := .tuple #[cachedV s 0 0 false, .int .i64 0]) (by simp [results, Tryd.results9, go_sem, cachedV]) rfl ⟨rfl, _, _, _, rfl⟩
set_option maxHeartbeats 1000000 in
theorem ref_recover (s b c m : Int) (so : Bool) (w : World) : Calls Tryd.prog 13 #[.agg #[.int .i64 s, .int .i64 b, .int .i64 c], .int .i64 m, .bool so] w fun e w' => e = .returned (recV s b c m so) ∧ Below w.heap.size w w' := by
  by_cases hv : vldB s b c = true ∧ isIntB m = true
  · obtain ⟨hv, hm⟩ := hv
    have ⟨hb1, hb2, _, _, _⟩ := vld_parts hv
    have ⟨hm1, hm2⟩ := int_parts hm
    cases so with
    | true =>
      have HV : recV s b c m true = .tuple #[cachedV (m + b) 0 m true, .int .i64 0] := by rw [recV, if_pos ⟨hv, hm⟩, if_pos rfl]
      rw [HV]
      clear HV
      go_enter Tryd.func13, Tryd.ntmps13
      go_wp2_with (first | (go_at_call 23; refine (ref_valid _ _ _ _).mono ?_; rintro e w' ⟨rfl, rfl⟩) | (go_at_call 26; refine (ref_isInt _ _).mono ?_; rintro e w' ⟨rfl, rfl⟩))
      refine bodyPost_ret (v := .tuple #[cachedV (m + b) 0 m true, .int .i64 0]) (by simp [results, Tryd.results13, go_sem, cachedV]) rfl ⟨rfl, ?_⟩
      (repeat (first | exact Below.refl _ _ | apply below_alloc | apply below_drew1 | apply below_drew | refine below_set2 ?_ _ _ (by simp; omega)))
    | false =>
      have HV : recV s b c m false = .tuple #[cachedV s 0 0 false, .int .i64 0] := by rw [recV, if_pos ⟨hv, hm⟩, if_neg (by decide)]
      have HN : newV s b c = .tuple #[.agg #[.int .i64 s, .int .i64 0, .int .i64 0, .bool false], .int .i64 0] := by rw [newV, if_pos hv]; rfl
      rw [HV]
      clear HV
      go_enter Tryd.func13, Tryd.ntmps13
      go_wp2_with (first | (go_at_call 23; refine (ref_valid _ _ _ _).mono ?_; rintro e w' ⟨rfl, rfl⟩) | (go_at_call 26; refine (ref_isInt _ _).mono ?_; rintro e w' ⟨rfl, rfl⟩) | (go_at_call 9; refine (ref_new _ _ _ _).mono ?_; rintro e w' ⟨rfl, o1, o2, o3, rfl⟩))
      refine bodyPost_ret (v := .tuple #[cachedV s 0 0 false, .int .i64 0]) (by simp [results, Tryd.results13, go_sem, cachedV]) rfl ⟨rfl, ?_⟩
      (repeat (first | exact Below.refl _ _ | apply below_alloc | apply below_drew1 | apply below_drew | refine below_set2 ?_ _ _ (by simp; omega)))
  · have HV : recV s b c m so = .tuple #[cachedV 0 0 0 false, .int .i64 2] := by rw [recV, if_neg hv]
    rw [HV]
    clear HV
    have hv' : vldB s b c = false ∨ (vldB s b c = true ∧ isIntB m = false) := by
      cases h1 : vldB s b c <;> cases h2 : isIntB m <;> simp_all
    rcases hv' with hv' | ⟨hv', hm⟩
    all_goals
      clear hv
      go_enter Tryd.func13, Tryd.ntmps13
      go_wp2_with (first | (go_at_call 23; refine (ref_valid _ _ _ _).mono ?_; rintro e w' ⟨rfl, rfl⟩) | (go_at_call 26; refine (ref_isInt _ _).mono ?_; rintro e w' ⟨rfl, rfl⟩))
      refine bodyPost_ret (v := .tuple #[cachedV 0 0 0 false, .int .i64 2]) (by simp [results, Tryd.results13, go_sem, cachedV]) rfl ⟨rfl, ?_⟩
      (repeat (first | exact Below.refl _ _ | apply below_alloc | apply below_drew1 | apply below_drew | refine below_set2 ?_ _ _ (by simp; omega)))

set_option maxHeartbeats 1000000 in
theorem ref_next_left (s b c n l m : Int) (so : Bool) (w : World) (hv : vldB s b c = true) (hn : isIntB n = true) (hm : isWideB m = true) (hw : isWideB n = true) (h0 : 0 < l) (h1 : l ≤ c) (hb1 : -1099511627776 ≤ b) (hb2 : b ≤ 1099511627776) (hn1 : -1099511627776 ≤ n) (hn2 : n ≤ 1099511627776) (hc1 : c ≤ 1000) (hm1 : -2199023255552 ≤ m) (hm2 : m ≤ 2199023255552) :
    Calls Tryd.prog 11 #[.agg #[.int .i64 s, .int .i64 b, .int .i64 c], .agg #[.int .i64 n, .int .i64 l, .int .i64 m, .bool so]] w fun e w' => e = .returned (tupV n (n + b) (l - 1) m so 0 false 0) ∧ Below w.heap.size w w' := by
  go_enter Tryd.func11, Tryd.ntmps11
  go_wp2_with (first | (go_at_call 23; refine (ref_valid _ _ _ _).mono ?_; rintro e w' ⟨rfl, rfl⟩) | (go_at_call 26; refine (ref_isInt _ _).mono ?_; rintro e w' ⟨rfl, rfl⟩))
  go_region
  go_wp2
  refine bodyPost_ret (v := tupV n (n + b) (l - 1) m so 0 false 0) (by simp [results, Tryd.results11, go_sem, tupV]) rfl ⟨rfl, ?_⟩
  (repeat (first | exact Below.refl _ _ | apply below_alloc | apply below_drew1 | apply below_drew | refine below_set2 ?_ _ _ (by simp; omega)))
set_option maxHeartbeats 2000000 in
theorem ref_next_more (s b c n l m : Int) (so : Bool) (w : World) (hv : vldB s b c = true) (hn : isIntB n = true) (hm : isWideB m = true) (hw : isWideB n = true) (h0 : 0 ≤ l) (h0' : l ≤ 0) (h1 : l ≤ c) (hb1 : -1099511627776 ≤ b) (hb2 : b ≤ 1099511627776) (hn1 : -1099511627776 ≤ n) (hn2 : n ≤ 1099511627776) (hc0 : 1 ≤ c) (hc1 : c ≤ 1000) (hm1 : -2199023255552 ≤ m) (hm2 : m ≤ 2199023255552) :
    Calls Tryd.prog 11 #[.agg #[.int .i64 s, .int .i64 b, .int .i64 c], .agg #[.int .i64 n, .int .i64 l, .int .i64 m, .bool so]] w fun e w' => e = .returned (tupV n (n + b) (moreN n b c) (n + (moreN n b c) * b) true (n + (moreN n b c) * b) true 0) ∧ Below w.heap.size w w' := by
  go_enter Tryd.func11, Tryd.ntmps11
  go_wp2_with (first | (go_at_call 23; refine (ref_valid _ _ _ _).mono ?_; rintro e w' ⟨rfl, rfl⟩) | (go_at_call 26; refine (ref_isInt _ _).mono ?_; rintro e w' ⟨rfl, rfl⟩))
  go_loop [10, 11] (fun u v => ∃ j : Nat, (j : Int) ≤ c - 1 ∧ v = .int .i64 j ∧ u = .int .i64 (n + j * b) ∧ Aside0 (moreF n b ((c - 1).toNat - j) j = moreN n b c)) (fun _ v => (c - 1 - intOf v).toNat)
  case atStart => exact ⟨0, by omega, rfl, by simp, ⟨rfl⟩⟩
  case round =>
    obtain ⟨j, hj, rfl, rfl, A⟩ := hrel
    have ⟨hk1, hk2⟩ := mul_bd hb1 hb2 j (by omega) (by omega)
    have hje : n + (j : Int) * b + b = n + ((j : Int) + 1) * b := by rw [Int.add_mul]; omega
    by_cases hlt : (j : Int) < c - 1
    · cases hi : isIntB (n + (j : Int) * b + b) with
      | true =>
        have HJ := Aside0.mk hje
        clear hje
        go_wp2_with (first | (go_at_call 26; refine (ref_isInt _ _).mono ?_; rintro e w' ⟨rfl, rfl⟩))
        go_round
        case rel => exact ⟨j + 1, by omega, by go_num, by rw [HJ.out]; go_num, ⟨by rw [← A.out, show (c - 1).toNat - j = ((c - 1).toNat - (j + 1)) + 1 by omega, moreF, if_pos (by rw [← HJ.out]; exact hi)]⟩⟩
        case measure => simp [intOf]; omega
      | false =>
        have HM := Aside0.mk ((moreF_stop (by rw [← hje]; exact hi)).symm.trans A.out)
        clear hje
        go_wp2_with (first | (go_at_call 26; refine (ref_isInt _ _).mono ?_; rintro e w' ⟨rfl, rfl⟩))
        go_region
        go_wp2
        refine bodyPost_ret (v := tupV n (n + b) j (n + j * b) true (n + j * b) true 0) (by simp [results, Tryd.results11, go_sem, tupV]) rfl ⟨by rw [HM.out], ?_⟩
        (repeat (first | exact Below.refl _ _ | apply below_alloc | apply below_drew1 | apply below_drew | refine below_set2 ?_ _ _ (by simp; omega)))
    · have HM := Aside0.mk (show j = moreN n b c by rw [← A.out, show (c - 1).toNat - j = 0 by omega, moreF])
      clear hje
      go_wp2_with (first | (go_at_call 26; refine (ref_isInt _ _).mono ?_; rintro e w' ⟨rfl, rfl⟩))
      go_region
      go_wp2
      refine bodyPost_ret (v := tupV n (n + b) j (n + j * b) true (n + j * b) true 0) (by simp [results, Tryd.results11, go_sem, tupV]) rfl ⟨by rw [HM.out], ?_⟩
      (repeat (first | exact Below.refl _ _ | apply below_alloc | apply below_drew1 | apply below_drew | refine below_set2 ?_ _ _ (by simp; omega)))

set_option maxHeartbeats 2000000 in
theorem ref_next_err (s b c n l m : Int) (so : Bool) (w : World) (hx : Aside0 (vldB s b c = true → isWideB n = true → isWideB m = true → 0 ≤ l → l ≤ c → isIntB n = true → False)) :
    Calls Tryd.prog 11 #[.agg #[.int .i64 s, .int .i64 b, .int .i64 c], .agg #[.int .i64 n, .int .i64 l, .int .i64 m, .bool so]] w fun e w' => e = .returned (nextR s b c n l m so).v ∧ Below w.heap.size w w' := by
  go_enter Tryd.func11, Tryd.ntmps11
  go_wp2_with (first | (go_at_call 23; refine (ref_valid _ _ _ _).mono ?_; rintro e w' ⟨rfl, rfl⟩) | (go_at_call 26; refine (ref_isInt _ _).mono ?_; rintro e w' ⟨rfl, rfl⟩))
  all_goals first
    | (refine bodyPost_ret (v := tupV 0 0 0 0 false 0 false 2) (by simp [results, Tryd.results11, go_sem, tupV]) rfl ⟨congrArg Ending.returned (nextR_arg ‹_›), ?_⟩; (repeat (first | exact Below.refl _ _ | apply below_alloc | apply below_drew1 | apply below_drew | refine below_set2 ?_ _ _ (by simp; omega))); done)
    | (refine bodyPost_ret (v := tupV 0 0 0 0 false 0 false 30) (by simp [results, Tryd.results11, go_sem, tupV]) rfl ⟨congrArg Ending.returned (nextR_form ‹_› (by intro q1 q2; have q1 := wide_parts q1; have q2 := wide_parts q2; intros; omega)), ?_⟩; (repeat (first | exact Below.refl _ _ | apply below_alloc | apply below_drew1 | apply below_drew | refine below_set2 ?_ _ _ (by simp; omega))); done)
    | (refine bodyPost_ret (v := tupV 0 0 0 0 false 0 false 21) (by simp [results, Tryd.results11, go_sem, tupV]) rfl ⟨congrArg Ending.returned (nextR_range ‹_› (wide_mk (by omega) (by omega)) (wide_mk (by omega) (by omega)) (by omega) (by omega) ‹_›), ?_⟩; (repeat (first | exact Below.refl _ _ | apply below_alloc | apply below_drew1 | apply below_drew | refine below_set2 ?_ _ _ (by simp; omega))); done)
    | (exfalso; exact hx.out (by simpa using ‹(!vldB s b c) = false›) (wide_mk (by omega) (by omega)) (wide_mk (by omega) (by omega)) (by omega) (by omega) (by simpa using ‹(!isIntB n) = false›))

theorem ref_next (s b c n l m : Int) (so : Bool) (w : World) : Calls Tryd.prog 11 #[.agg #[.int .i64 s, .int .i64 b, .int .i64 c], .agg #[.int .i64 n, .int .i64 l, .int .i64 m, .bool so]] w fun e w' => e = .returned (nextR s b c n l m so).v ∧ Below w.heap.size w w' := by
  by_cases hx : vldB s b c = true ∧ isWideB n = true ∧ isWideB m = true ∧ 0 ≤ l ∧ l ≤ c ∧ isIntB n = true
  · obtain ⟨h1, h2, h3, h4, h5, h6⟩ := hx
    have ⟨b1, b2, _, c0, c1⟩ := vld_parts h1
    have ⟨n1, n2⟩ := int_parts h6
    have ⟨m1, m2⟩ := wide_parts h3
    by_cases hl : 0 < l
    · rw [← nextR_left h1 h2 h3 h5 h6 hl]
      exact ref_next_left s b c n l m so w h1 h6 h3 h2 hl h5 b1 b2 n1 n2 c1 m1 m2
    · rw [← nextR_more h1 h2 h3 h4 h5 h6 (by omega)]
      exact ref_next_more s b c n l m so w h1 h6 h3 h2 h4 (by omega) h5 b1 b2 n1 n2 c0 c1 m1 m2
  · exact ref_next_err s b c n l m so w ⟨fun h1 h2 h3 h4 h5 h6 => hx ⟨h1, h2, h3, h4, h5, h6⟩⟩
end Go.Proofs.YtinidfeoellmhaaDoor
