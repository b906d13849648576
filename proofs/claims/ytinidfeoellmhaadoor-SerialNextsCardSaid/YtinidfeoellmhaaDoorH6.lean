/-
  The contract of the statements' own awake: it returns true, and writes nothing that was there. No conditions.
-/
import Derived.Test.YtinidfeoellmhaaDoorH5
namespace Go.Proofs.YtinidfeoellmhaaDoor
open Go.RowKit Go.Proofs.YtinidfeoellmhaaDoorW.PrintWords
set_option linter.unusedVariables false
set_option linter.unusedSimpArgs false

theorem lit_bools (W : World) (xs : List Bool) (hm : xs.length ≤ 9223372036854775807) : ReadsOf Value.bool false (W.alloc (.cells (encs Value.bool xs).toArray 4)) (some ⟨W.heap.size, 0, none⟩) xs.length xs := by
  have h := own_lit_of (enc := Value.bool) W W.heap.size 4 xs (Nat.le_refl _) hm
  obtain ⟨A, c, e, hl, hr⟩ := own_reads_of_le (enc := Value.bool) (d := false) h
  cases e
  exact hr
theorem lit_ints (W : World) (xs : List Int) (hm : xs.length ≤ 9223372036854775807) : SlI (W.alloc (.cells (nums .i64 xs).toArray 3)) (.slice (some ⟨W.heap.size, 0, none⟩) xs.length xs.length) xs :=
  SlI.own (own_lit W W.heap.size 3 .i64 xs (Nat.le_refl _) hm)

def s113 : Value := .agg #[.int .i64 1, .int .i64 1, .int .i64 3]
theorem aw_run (g : Nat) (W : World) (h : ReadsOf Value.bool false W (some ⟨g, 0, none⟩) 4 [true, true, false, true]) : Calls Tryd.prog 18 #[.agg #[.int .i64 1, .int .i64 1, .int .i64 3], .slice (some ⟨g, 0, none⟩) 4 4] W fun e w' => ∃ v0 v1, e = .returned (.tuple #[v0, v1, .int .i64 0]) ∧ SlI w' v0 [1, 2, 4] ∧ SlI w' v1 [3, 6] ∧ Below W.heap.size W w' := by
  refine (srv_run 1 1 3 (some ⟨g, 0, none⟩) 4 [true, true, false, true] W h (by simp)).mono ?_
  rintro e w' ⟨v0, v1, rfl, h0, h1, hb⟩
  exact ⟨v0, v1, rfl, h0, h1, hb⟩
theorem srv_new_below (s b c : Int) (w : World) : Calls Tryd.prog 8 #[.agg #[.int .i64 s, .int .i64 b, .int .i64 c]] w fun e w' => e = .returned (newV s b c) ∧ Below w.heap.size w w' :=
  (srv_new s b c w).mono fun _ _ ⟨he, o1, o2, o3, hw⟩ => ⟨he, hw ▸ below_alloc (below_alloc (below_alloc (Below.refl _ _) _) _) _⟩
theorem aw_new (W : World) : Calls Tryd.prog 8 #[.agg #[.int .i64 1, .int .i64 1, .int .i64 3]] W fun e w' => e = .returned (.tuple #[.agg #[.int .i64 1, .int .i64 0, .int .i64 0, .bool false], .int .i64 0]) ∧ Below W.heap.size W w' := srv_new_below 1 1 3 W
theorem aw_new2 (W : World) : Calls Tryd.prog 8 #[.agg #[.int .i64 1, .int .i64 0, .int .i64 1]] W fun e w' => e = .returned (.tuple #[.agg #[.int .i64 0, .int .i64 0, .int .i64 0, .bool false], .int .i64 2]) ∧ Below W.heap.size W w' := srv_new_below 1 0 1 W
theorem aw_next (W : World) : Calls Tryd.prog 10 #[.agg #[.int .i64 1, .int .i64 1, .int .i64 3], .agg #[.int .i64 1, .int .i64 0, .int .i64 0, .bool false]] W fun e w' => e = .returned (.tuple #[.int .i64 1, .agg #[.int .i64 2, .int .i64 2, .int .i64 3, .bool true], .int .i64 3, .bool true, .int .i64 0]) ∧ Below W.heap.size W w' := srv_next 1 1 3 1 0 0 false W
theorem aw_next2 (W : World) : Calls Tryd.prog 10 #[.agg #[.int .i64 1, .int .i64 1, .int .i64 3], .agg #[.int .i64 0, .int .i64 9, .int .i64 0, .bool false]] W fun e w' => e = .returned (.tuple #[.int .i64 0, .agg #[.int .i64 0, .int .i64 0, .int .i64 0, .bool false], .int .i64 0, .bool false, .int .i64 30]) ∧ Below W.heap.size W w' := srv_next 1 1 3 0 9 0 false W
theorem aw_next3 (W : World) : Calls Tryd.prog 10 #[.agg #[.int .i64 1, .int .i64 1, .int .i64 3], .agg #[.int .i64 1099511627777, .int .i64 0, .int .i64 0, .bool false]] W fun e w' => e = .returned (.tuple #[.int .i64 0, .agg #[.int .i64 0, .int .i64 0, .int .i64 0, .bool false], .int .i64 0, .bool false, .int .i64 21]) ∧ Below W.heap.size W w' := srv_next 1 1 3 1099511627777 0 0 false W
theorem aw_recover (W : World) : Calls Tryd.prog 12 #[.agg #[.int .i64 1, .int .i64 1, .int .i64 3], .int .i64 3, .bool true] W fun e w' => e = .returned (.tuple #[.agg #[.int .i64 4, .int .i64 0, .int .i64 3, .bool true], .int .i64 0]) ∧ Below W.heap.size W w' := srv_recover 1 1 3 3 true W
theorem aw_rec (W : World) : Calls Tryd.prog 14 #[.string ⟨#[97]⟩, .string ⟨#[115]⟩, .int .i64 3] W fun e w' => e = .returned (.tuple #[.agg #[.int .i64 10, .int .i64 0, .string ⟨#[97]⟩, .string ⟨#[115]⟩, .int .i64 0, .slice none 0 0, .int .i64 0, .string ⟨#[]⟩, .int .i64 3], .int .i64 0]) ∧ Below W.heap.size W w' := by
  have h : recOk ⟨#[97]⟩ ⟨#[115]⟩ 3 = true := by decide +kernel
  have h2 : recRes ⟨#[97]⟩ ⟨#[115]⟩ 3 = .tuple #[rec10 ⟨#[97]⟩ ⟨#[115]⟩ 3, .int .i64 0] := by rw [recRes, if_pos h]
  refine (srv_rec ⟨#[97]⟩ ⟨#[115]⟩ 3 W (by decide) (by decide)).mono ?_
  rintro e w' ⟨rfl, hb⟩
  exact ⟨by rw [h2]; rfl, hb⟩
theorem aw_same (v0 : Value) (g : Nat) (xs : List Int) (n : Nat) (W : World) (h0 : SlI W v0 xs) (h1 : SlI W (.slice (some ⟨g, 0, none⟩) n n) xs) : Calls Tryd.prog 20 #[v0, .slice (some ⟨g, 0, none⟩) n n] W fun e w' => e = .returned (.bool true) ∧ Below W.heap.size W w' :=
  (sameInts _ _ xs xs W h0 h1).mono fun _ _ ⟨he, hd⟩ => ⟨by rw [he]; simp, hd.below⟩

set_option maxRecDepth 100000 in
set_option maxHeartbeats 4000000 in
theorem awake (w : World) : Calls Tryd.prog 17 #[] w fun e w' => e = .returned (.bool true) ∧ Below w.heap.size w w' := by
  go_enter Tryd.func17, Tryd.ntmps17
  go_wp2_with fail
  refine (aw_run (w.heap.size + 1) _ (by have h := lit_bools (w.alloc (.cells #[.int .i64 1, .int .i64 1, .int .i64 3] 23)) [true, true, false, true] (by simp); simpa [encs] using h)).mono ?_
  rintro e w1 ⟨v0, v1, rfl, I0, I1, hb⟩
  have K1 : Aside0 (w1.heap[w.heap.size]? = some (.cells #[.int .i64 1, .int .i64 1, .int .i64 3] 23 (0, 0))) := ⟨blk_below (blk_alloc (blk_new w (.cells #[.int .i64 1, .int .i64 1, .int .i64 3] 23)) _) hb⟩
  have HB := Aside0.mk (below_after (below_alloc (below_alloc (Below.refl _ _) _) _) hb)
  have HI0 := Aside0.mk I0
  have HI1 := Aside0.mk I1
  clear hb I0 I1
  have z1 := blk_lt K1.out
  obtain ⟨k1a, k1b, k1c⟩ := blk3 K1.out
  go_wp2_with fail
  refine (aw_new _).mono ?_
  rintro e w2 ⟨rfl, hb⟩
  replace K1 := Aside0.mk (blk_below K1.out hb)
  replace HI0 := Aside0.mk (HI0.out.below (below_after (by repeat (first | exact Below.refl _ _ | apply below_alloc)) hb))
  replace HI1 := Aside0.mk (HI1.out.below (below_after (by repeat (first | exact Below.refl _ _ | apply below_alloc)) hb))
  replace HB := Aside0.mk (below_after (by repeat (first | exact HB.out | apply below_alloc)) hb)
  clear hb k1a k1b k1c z1
  have z1 := blk_lt K1.out
  obtain ⟨k1a, k1b, k1c⟩ := blk3 K1.out
  go_wp2_with fail
  refine (aw_next _).mono ?_
  rintro e w3 ⟨rfl, hb⟩
  replace K1 := Aside0.mk (blk_below (blk_alloc K1.out _) hb)
  have K5 := Aside0.mk (blk_below (blk_new w2 (.cells #[.int .i64 1, .int .i64 0, .int .i64 0, .bool false] 25)) hb)
  replace HI0 := Aside0.mk (HI0.out.below (below_after (by repeat (first | exact Below.refl _ _ | apply below_alloc)) hb))
  replace HI1 := Aside0.mk (HI1.out.below (below_after (by repeat (first | exact Below.refl _ _ | apply below_alloc)) hb))
  replace HB := Aside0.mk (below_after (by repeat (first | exact HB.out | apply below_alloc)) hb)
  clear hb k1a k1b k1c z1
  have z1 := blk_lt K1.out
  have z5 := blk_lt K5.out
  obtain ⟨k1a, k1b, k1c⟩ := blk3 K1.out
  obtain ⟨k5a, k5b, k5c, k5d, -⟩ := blk4 K5.out
  go_wp2_with fail
  refine (aw_recover _).mono ?_
  rintro e w4 ⟨rfl, hb⟩
  replace K1 := Aside0.mk (blk_below (blk_alloc K1.out _) hb)
  replace K5 := Aside0.mk (blk_below (blk_alloc K5.out _) hb)
  have K8 := Aside0.mk (blk_below (blk_new w3 (.cells #[.int .i64 2, .int .i64 2, .int .i64 3, .bool true] 25)) hb)
  replace HI0 := Aside0.mk (HI0.out.below (below_after (by repeat (first | exact Below.refl _ _ | apply below_alloc)) hb))
  replace HI1 := Aside0.mk (HI1.out.below (below_after (by repeat (first | exact Below.refl _ _ | apply below_alloc)) hb))
  replace HB := Aside0.mk (below_after (by repeat (first | exact HB.out | apply below_alloc)) hb)
  clear hb k1a k1b k1c k5a k5b k5c k5d z1 z5
  have z1 := blk_lt K1.out
  have z5 := blk_lt K5.out
  have z8 := blk_lt K8.out
  obtain ⟨k1a, k1b, k1c⟩ := blk3 K1.out
  obtain ⟨k5a, k5b, k5c, k5d, -⟩ := blk4 K5.out
  obtain ⟨k8a, k8b, k8c, k8d, -⟩ := blk4 K8.out
  go_wp2_with fail
  refine (aw_rec _).mono ?_
  rintro e w5 ⟨rfl, hb⟩
  replace K1 := Aside0.mk (blk_below (blk_alloc K1.out _) hb)
  replace K5 := Aside0.mk (blk_below (blk_alloc K5.out _) hb)
  replace K8 := Aside0.mk (blk_below (blk_alloc K8.out _) hb)
  have K12 := Aside0.mk (blk_below (blk_new w4 (.cells #[.int .i64 4, .int .i64 0, .int .i64 3, .bool true] 25)) hb)
  replace HI0 := Aside0.mk (HI0.out.below (below_after (by repeat (first | exact Below.refl _ _ | apply below_alloc)) hb))
  replace HI1 := Aside0.mk (HI1.out.below (below_after (by repeat (first | exact Below.refl _ _ | apply below_alloc)) hb))
  replace HB := Aside0.mk (below_after (by repeat (first | exact HB.out | apply below_alloc)) hb)
  clear hb k1a k1b k1c k5a k5b k5c k5d k8a k8b k8c k8d z1 z5 z8
  have z1 := blk_lt K1.out
  have z5 := blk_lt K5.out
  have z8 := blk_lt K8.out
  have z12 := blk_lt K12.out
  obtain ⟨k1a, k1b, k1c⟩ := blk3 K1.out
  obtain ⟨k5a, k5b, k5c, k5d, -⟩ := blk4 K5.out
  obtain ⟨k8a, k8b, k8c, k8d, -⟩ := blk4 K8.out
  obtain ⟨k12a, k12b, k12c, k12d, -⟩ := blk4 K12.out
  go_wp2_with fail
  refine (aw_new2 _).mono ?_
  rintro e w6 ⟨rfl, hb⟩
  replace K1 := Aside0.mk (blk_below (blk_alloc K1.out _) hb)
  replace K5 := Aside0.mk (blk_below (blk_alloc K5.out _) hb)
  replace K8 := Aside0.mk (blk_below (blk_alloc K8.out _) hb)
  replace K12 := Aside0.mk (blk_below (blk_alloc K12.out _) hb)
  have K14 := Aside0.mk (blk_below (blk_new w5 (.cells #[.int .i64 10, .int .i64 0, .string ⟨#[97]⟩, .string ⟨#[115]⟩, .int .i64 0, .slice none 0 0, .int .i64 0, .string ⟨#[]⟩, .int .i64 3] 38)) hb)
  replace HI0 := Aside0.mk (HI0.out.below (below_after (by repeat (first | exact Below.refl _ _ | apply below_alloc)) hb))
  replace HI1 := Aside0.mk (HI1.out.below (below_after (by repeat (first | exact Below.refl _ _ | apply below_alloc)) hb))
  replace HB := Aside0.mk (below_after (by repeat (first | exact HB.out | apply below_alloc)) hb)
  clear hb k1a k1b k1c k5a k5b k5c k5d k8a k8b k8c k8d k12a k12b k12c k12d z1 z5 z8 z12
  have z1 := blk_lt K1.out
  have z5 := blk_lt K5.out
  have z8 := blk_lt K8.out
  have z12 := blk_lt K12.out
  have z14 := blk_lt K14.out
  obtain ⟨k1a, k1b, k1c⟩ := blk3 K1.out
  obtain ⟨k5a, k5b, k5c, k5d, -⟩ := blk4 K5.out
  obtain ⟨k8a, k8b, k8c, k8d, -⟩ := blk4 K8.out
  obtain ⟨k12a, k12b, k12c, k12d, -⟩ := blk4 K12.out
  have k14a := (blk_cell K14.out 0).trans rfl
  go_wp2_with fail
  refine (aw_next2 _).mono ?_
  rintro e w7 ⟨rfl, hb⟩
  replace K1 := Aside0.mk (blk_below (blk_alloc K1.out _) hb)
  replace K5 := Aside0.mk (blk_below (blk_alloc K5.out _) hb)
  replace K8 := Aside0.mk (blk_below (blk_alloc K8.out _) hb)
  replace K12 := Aside0.mk (blk_below (blk_alloc K12.out _) hb)
  replace K14 := Aside0.mk (blk_below (blk_alloc K14.out _) hb)
  have K16 := Aside0.mk (blk_below (blk_new w6 (.cells #[.int .i64 0, .int .i64 0, .int .i64 0, .bool false] 25)) hb)
  replace HI0 := Aside0.mk (HI0.out.below (below_after (by repeat (first | exact Below.refl _ _ | apply below_alloc)) hb))
  replace HI1 := Aside0.mk (HI1.out.below (below_after (by repeat (first | exact Below.refl _ _ | apply below_alloc)) hb))
  replace HB := Aside0.mk (below_after (by repeat (first | exact HB.out | apply below_alloc)) hb)
  clear hb k1a k1b k1c k5a k5b k5c k5d k8a k8b k8c k8d k12a k12b k12c k12d k14a z1 z5 z8 z12 z14
  have z1 := blk_lt K1.out
  have z5 := blk_lt K5.out
  have z8 := blk_lt K8.out
  have z12 := blk_lt K12.out
  have z14 := blk_lt K14.out
  have z16 := blk_lt K16.out
  obtain ⟨k1a, k1b, k1c⟩ := blk3 K1.out
  obtain ⟨k5a, k5b, k5c, k5d, -⟩ := blk4 K5.out
  obtain ⟨k8a, k8b, k8c, k8d, -⟩ := blk4 K8.out
  obtain ⟨k12a, k12b, k12c, k12d, -⟩ := blk4 K12.out
  have k14a := (blk_cell K14.out 0).trans rfl
  obtain ⟨k16a, k16b, k16c, k16d, -⟩ := blk4 K16.out
  go_wp2_with fail
  refine (aw_next3 _).mono ?_
  rintro e w8 ⟨rfl, hb⟩
  replace K1 := Aside0.mk (blk_below (blk_alloc K1.out _) hb)
  replace K5 := Aside0.mk (blk_below (blk_alloc K5.out _) hb)
  replace K8 := Aside0.mk (blk_below (blk_alloc K8.out _) hb)
  replace K12 := Aside0.mk (blk_below (blk_alloc K12.out _) hb)
  replace K14 := Aside0.mk (blk_below (blk_alloc K14.out _) hb)
  replace K16 := Aside0.mk (blk_below (blk_alloc K16.out _) hb)
  have K19 := Aside0.mk (blk_below (blk_new w7 (.cells #[.int .i64 0, .int .i64 0, .int .i64 0, .bool false] 25)) hb)
  replace HI0 := Aside0.mk (HI0.out.below (below_after (by repeat (first | exact Below.refl _ _ | apply below_alloc)) hb))
  replace HI1 := Aside0.mk (HI1.out.below (below_after (by repeat (first | exact Below.refl _ _ | apply below_alloc)) hb))
  replace HB := Aside0.mk (below_after (by repeat (first | exact HB.out | apply below_alloc)) hb)
  clear hb k1a k1b k1c k5a k5b k5c k5d k8a k8b k8c k8d k12a k12b k12c k12d k14a k16a k16b k16c k16d z1 z5 z8 z12 z14 z16
  have z1 := blk_lt K1.out
  have z5 := blk_lt K5.out
  have z8 := blk_lt K8.out
  have z12 := blk_lt K12.out
  have z14 := blk_lt K14.out
  have z16 := blk_lt K16.out
  have z19 := blk_lt K19.out
  obtain ⟨k1a, k1b, k1c⟩ := blk3 K1.out
  obtain ⟨k5a, k5b, k5c, k5d, -⟩ := blk4 K5.out
  obtain ⟨k8a, k8b, k8c, k8d, -⟩ := blk4 K8.out
  obtain ⟨k12a, k12b, k12c, k12d, -⟩ := blk4 K12.out
  have k14a := (blk_cell K14.out 0).trans rfl
  obtain ⟨k16a, k16b, k16c, k16d, -⟩ := blk4 K16.out
  obtain ⟨k19a, k19b, k19c, k19d, -⟩ := blk4 K19.out
  go_wp2_with fail
  refine (aw_same _ (w8.heap.size + 1) [1, 2, 4] 3 _ (HI0.out.below (by repeat (first | exact Below.refl _ _ | apply below_alloc))) (by have h := lit_ints (w8.alloc (.cells #[.int .i64 0, .int .i64 0, .int .i64 0, .bool false] 25)) [1, 2, 4] (by simp); simpa [nums] using h)).mono ?_
  rintro e w9 ⟨rfl, hb⟩
  replace K1 := Aside0.mk (blk_below (blk_alloc (blk_alloc K1.out _) _) hb)
  replace K5 := Aside0.mk (blk_below (blk_alloc (blk_alloc K5.out _) _) hb)
  replace K8 := Aside0.mk (blk_below (blk_alloc (blk_alloc K8.out _) _) hb)
  replace K12 := Aside0.mk (blk_below (blk_alloc (blk_alloc K12.out _) _) hb)
  replace K14 := Aside0.mk (blk_below (blk_alloc (blk_alloc K14.out _) _) hb)
  replace K16 := Aside0.mk (blk_below (blk_alloc (blk_alloc K16.out _) _) hb)
  replace K19 := Aside0.mk (blk_below (blk_alloc (blk_alloc K19.out _) _) hb)
  replace HI0 := Aside0.mk (HI0.out.below (below_after (by repeat (first | exact Below.refl _ _ | apply below_alloc)) hb))
  replace HI1 := Aside0.mk (HI1.out.below (below_after (by repeat (first | exact Below.refl _ _ | apply below_alloc)) hb))
  replace HB := Aside0.mk (below_after (by repeat (first | exact HB.out | apply below_alloc)) hb)
  clear hb k1a k1b k1c k5a k5b k5c k5d k8a k8b k8c k8d k12a k12b k12c k12d k14a k16a k16b k16c k16d k19a k19b k19c k19d z1 z5 z8 z12 z14 z16 z19
  have z1 := blk_lt K1.out
  have z5 := blk_lt K5.out
  have z8 := blk_lt K8.out
  have z12 := blk_lt K12.out
  have z14 := blk_lt K14.out
  have z16 := blk_lt K16.out
  have z19 := blk_lt K19.out
  obtain ⟨k1a, k1b, k1c⟩ := blk3 K1.out
  obtain ⟨k5a, k5b, k5c, k5d, -⟩ := blk4 K5.out
  obtain ⟨k8a, k8b, k8c, k8d, -⟩ := blk4 K8.out
  obtain ⟨k12a, k12b, k12c, k12d, -⟩ := blk4 K12.out
  have k14a := (blk_cell K14.out 0).trans rfl
  obtain ⟨k16a, k16b, k16c, k16d, -⟩ := blk4 K16.out
  obtain ⟨k19a, k19b, k19c, k19d, -⟩ := blk4 K19.out
  go_wp2_with fail
  refine (aw_same _ (w9.heap.size) [3, 6] 2 _ (HI1.out.below (by repeat (first | exact Below.refl _ _ | apply below_alloc))) (by have h := lit_ints (w9) [3, 6] (by simp); simpa [nums] using h)).mono ?_
  rintro e w10 ⟨rfl, hb⟩
  replace K1 := Aside0.mk (blk_below (blk_alloc K1.out _) hb)
  replace K5 := Aside0.mk (blk_below (blk_alloc K5.out _) hb)
  replace K8 := Aside0.mk (blk_below (blk_alloc K8.out _) hb)
  replace K12 := Aside0.mk (blk_below (blk_alloc K12.out _) hb)
  replace K14 := Aside0.mk (blk_below (blk_alloc K14.out _) hb)
  replace K16 := Aside0.mk (blk_below (blk_alloc K16.out _) hb)
  replace K19 := Aside0.mk (blk_below (blk_alloc K19.out _) hb)
  replace HI0 := Aside0.mk (HI0.out.below (below_after (by repeat (first | exact Below.refl _ _ | apply below_alloc)) hb))
  replace HI1 := Aside0.mk (HI1.out.below (below_after (by repeat (first | exact Below.refl _ _ | apply below_alloc)) hb))
  replace HB := Aside0.mk (below_after (by repeat (first | exact HB.out | apply below_alloc)) hb)
  clear hb k1a k1b k1c k5a k5b k5c k5d k8a k8b k8c k8d k12a k12b k12c k12d k14a k16a k16b k16c k16d k19a k19b k19c k19d z1 z5 z8 z12 z14 z16 z19
  have z1 := blk_lt K1.out
  have z5 := blk_lt K5.out
  have z8 := blk_lt K8.out
  have z12 := blk_lt K12.out
  have z14 := blk_lt K14.out
  have z16 := blk_lt K16.out
  have z19 := blk_lt K19.out
  obtain ⟨k1a, k1b, k1c⟩ := blk3 K1.out
  obtain ⟨k5a, k5b, k5c, k5d, -⟩ := blk4 K5.out
  obtain ⟨k8a, k8b, k8c, k8d, -⟩ := blk4 K8.out
  obtain ⟨k12a, k12b, k12c, k12d, -⟩ := blk4 K12.out
  have k14a := (blk_cell K14.out 0).trans rfl
  obtain ⟨k16a, k16b, k16c, k16d, -⟩ := blk4 K16.out
  obtain ⟨k19a, k19b, k19c, k19d, -⟩ := blk4 K19.out
  go_wp2_with fail
  go_ret
  exact ⟨by first | rfl | simp, by repeat (first | exact HB.out | apply below_alloc)⟩
end Go.Proofs.YtinidfeoellmhaaDoor
