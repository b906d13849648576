import Derived.Test.YtinidfeoellmhaaDoorR2
import Derived.Test.YtinidfeoellmhaaDoorH5
import Derived.LoopN
namespace Go.Proofs.YtinidfeoellmhaaDoor
open Go.RowKit Go.Proofs.YtinidfeoellmhaaDoorW.PrintWords
set_option linter.unusedVariables false
set_option linter.unusedSimpArgs false

theorem refSameRow_nil (w : World) : Calls Tryd.prog 29 #[.slice none 0 0, .slice none 0 0] w fun e w' => e = .returned (.bool true) ∧ w = w' := by
  go_enter Tryd.func29, Tryd.ntmps29
  go_wp2
  refine wp_loop_rounds 1 ?_
  rw [rounds_succ]
  go_wp2
  go_ret
  exact ⟨rfl, rfl⟩
def recK (k : Int) (o nm : ByteArray) (n : Int) : Value := .agg #[.int .i64 k, .int .i64 0, .string o, .string nm, .int .i64 0, .slice none 0 0, .int .i64 0, .string ⟨#[]⟩, .int .i64 n]
theorem refSame (k : Int) (o nm : ByteArray) (n : Int) (w : World) : Calls Tryd.prog 16 #[recK k o nm n, recK k o nm n] w fun e w' => e = .returned (.bool true) ∧ Below w.heap.size w w' := by
  unfold recK
  go_enter Tryd.func16, Tryd.ntmps16
  go_wp2_with (first | (go_at_call 29; refine (refSameRow_nil _).mono ?_; rintro e w' ⟨rfl, rfl⟩))
  go_ret
  exact ⟨by simp, by repeat (first | exact Below.refl _ _ | apply below_alloc)⟩
def onm : ByteArray := ⟨#[79, 78, 77]⟩
theorem refFields (w : World) : Calls Tryd.prog 36 #[.int .i64 10] w fun e w' => e = .returned (.tuple #[.string ⟨#[79, 78, 77]⟩, .bool true]) ∧ w = w' := by
  go_enter Tryd.func36, Tryd.ntmps36
  go_wp2
  refine bodyPost_ret (v := .tuple #[.string ⟨#[79, 78, 77]⟩, .bool true]) (by simp [results, Tryd.results36, go_sem]) rfl ⟨rfl, rfl⟩
theorem refBetween (n l : Int) (w : World) : Calls Tryd.prog 45 #[.int .i64 n, .int .i64 l] w fun e w' => e = .returned (.bool (decide (l ≤ n) && decide (n ≤ 1099511627776))) ∧ w = w' := by
  go_enter Tryd.func45, Tryd.ntmps45
  go_wp2
  all_goals (go_ret; exact ⟨by first | (simp [*]; done) | (simp [*]; omega), rfl⟩)
set_option maxHeartbeats 1000000 in
theorem refField79 (o nm : ByteArray) (n : Int) (w : World) (hs : o.size ≤ 9223372036854775807) : Calls Tryd.prog 37 #[rec10 o nm n, .int .u8 79] w fun e w' => e = .returned (.bool (nameB o)) ∧ Below w.heap.size w w' := by
  unfold rec10
  go_enter Tryd.func37, Tryd.ntmps37
  go_wp2_with (first | (go_at_call 46; refine (refIsName _ _ hs).mono ?_; rintro e w' ⟨rfl, rfl⟩))
  go_ret
  exact ⟨rfl, below_alloc (Below.refl _ _) _⟩
set_option maxHeartbeats 1000000 in
theorem refField78 (o nm : ByteArray) (n : Int) (w : World) (hs : nm.size ≤ 9223372036854775807) : Calls Tryd.prog 37 #[rec10 o nm n, .int .u8 78] w fun e w' => e = .returned (.bool (nameB nm)) ∧ Below w.heap.size w w' := by
  unfold rec10
  go_enter Tryd.func37, Tryd.ntmps37
  go_wp2_with (first | (go_at_call 46; refine (refIsName _ _ hs).mono ?_; rintro e w' ⟨rfl, rfl⟩))
  go_ret
  exact ⟨rfl, below_alloc (Below.refl _ _) _⟩
set_option maxHeartbeats 1000000 in
theorem refField77 (o nm : ByteArray) (n : Int) (w : World) : Calls Tryd.prog 37 #[rec10 o nm n, .int .u8 77] w fun e w' => e = .returned (.bool (isIntB n)) ∧ Below w.heap.size w w' := by
  unfold rec10
  go_enter Tryd.func37, Tryd.ntmps37
  go_wp2_with (first | (go_at_call 45; refine (refBetween _ _ _).mono ?_; rintro e w' ⟨rfl, rfl⟩))
  go_ret
  exact ⟨by simp [isIntB], below_alloc (Below.refl _ _) _⟩
set_option maxHeartbeats 1000000 in
theorem refBlank79 (o nm : ByteArray) (n : Int) (w : World) : Calls Tryd.prog 38 #[rec10 o nm n, .int .u8 79] w fun e w' => e = .returned (rec10 ⟨#[]⟩ nm n) ∧ Below w.heap.size w w' := by
  unfold rec10
  go_enter Tryd.func38, Tryd.ntmps38
  go_wp2
  refine bodyPost_ret (v := rec10 ⟨#[]⟩ nm n) (by simp [results, Tryd.results38, go_sem, rec10]) rfl ⟨rfl, ?_⟩
  repeat (first | exact Below.refl _ _ | apply below_alloc)
set_option maxHeartbeats 1000000 in
theorem refBlank78 (o nm : ByteArray) (n : Int) (w : World) : Calls Tryd.prog 38 #[rec10 o nm n, .int .u8 78] w fun e w' => e = .returned (rec10 o ⟨#[]⟩ n) ∧ Below w.heap.size w w' := by
  unfold rec10
  go_enter Tryd.func38, Tryd.ntmps38
  go_wp2
  refine bodyPost_ret (v := rec10 o ⟨#[]⟩ n) (by simp [results, Tryd.results38, go_sem, rec10]) rfl ⟨rfl, ?_⟩
  repeat (first | exact Below.refl _ _ | apply below_alloc)
set_option maxHeartbeats 1000000 in
theorem refBlank77 (o nm : ByteArray) (n : Int) (w : World) : Calls Tryd.prog 38 #[rec10 o nm n, .int .u8 77] w fun e w' => e = .returned (rec10 o nm 0) ∧ Below w.heap.size w w' := by
  unfold rec10
  go_enter Tryd.func38, Tryd.ntmps38
  go_wp2
  refine bodyPost_ret (v := rec10 o nm 0) (by simp [results, Tryd.results38, go_sem, rec10]) rfl ⟨rfl, ?_⟩
  repeat (first | exact Below.refl _ _ | apply below_alloc)
end Go.Proofs.YtinidfeoellmhaaDoor
