import Derived.Test.YtinidfeoellmhaaDoorH4
import Derived.Test.YtinidfeoellmhaaDoorS0
namespace Go.Proofs.YtinidfeoellmhaaDoor
open Go.RowKit Go.Proofs.YtinidfeoellmhaaDoorW.PrintWords
set_option linter.unusedVariables false
set_option linter.unusedSimpArgs false

theorem refSmall (c : Int) (w : World) : Calls Tryd.prog 61 #[.int .u8 c] w fun e w' => e = .returned (.bool (smallB c)) ∧ w = w' := by
  go_enter Tryd.func61, Tryd.ntmps61
  go_wp2
  all_goals (go_ret; exact ⟨by first | (simp [smallB, *]; done) | (simp [smallB, *]; omega), rfl⟩)
theorem refDigit (c : Int) (w : World) : Calls Tryd.prog 70 #[.int .u8 c] w fun e w' => e = .returned (.bool (digitB c)) ∧ w = w' := by
  go_enter Tryd.func70, Tryd.ntmps70
  go_wp2
  all_goals (go_ret; exact ⟨by first | (simp [digitB, *]; done) | (simp [digitB, *]; omega), rfl⟩)
theorem refNamed (c : Int) (w : World) : Calls Tryd.prog 60 #[.int .u8 c] w fun e w' => e = .returned (.bool (namedB c)) ∧ w = w' := by
  go_enter Tryd.func60, Tryd.ntmps60
  go_wp2_with (first | (go_at_call 61; refine (refSmall _ _).mono ?_; rintro e w' ⟨rfl, rfl⟩) | (go_at_call 70; refine (refDigit _ _).mono ?_; rintro e w' ⟨rfl, rfl⟩))
  all_goals (go_ret; exact ⟨by first | (simp [namedB, *]; done) | (simp_all [namedB]; done), rfl⟩)

def shapedB (s : ByteArray) : Bool := decide (1 ≤ s.size) && smallB (bt s 0) && (bytesOf s).all namedB
theorem refShaped (s : ByteArray) (w : World) (hs : s.size ≤ 9223372036854775807) : Calls Tryd.prog 52 #[.string s] w fun e w' => e = .returned (.bool (shapedB s)) ∧ w = w' := by
  go_enter Tryd.func52, Tryd.ntmps52
  go_wp2
  go_loop [3] (fun v => ∃ i : Nat, i ≤ s.size ∧ v = .int .i64 i ∧ Aside0 (((bytesOf s).take i).all namedB = true)) (fun v => s.size - (intOf v).toNat)
  case atStart => exact ⟨0, by omega, rfl, ⟨by simp⟩⟩
  case round =>
    obtain ⟨i, hi, rfl, HA⟩ := hrel
    by_cases hlt : i < s.size
    · have hltz : (i : Int) < (s.size : Int) := by omega
      have he : ((s[i]'hlt).toNat : Int) = bt s (i : Int) := bt_at s (i : Int) hlt
      have hn := refNamed ((s[i]'hlt).toNat : Int)
      have hlen := bytesOf_length s
      have htk : (bytesOf s).take (i + 1) = (bytesOf s).take i ++ [bt s i] := by
        rw [List.take_succ_eq_append_getElem (by omega), ← rd_bytesOf]
        simp [rd, show i < (bytesOf s).length by omega]
      have hmem : bt s (i : Int) ∈ bytesOf s := by
        rw [← rd_bytesOf]
        simp [rd, show i < (bytesOf s).length by omega]
      cases hq : namedB (bt s i) with
      | true =>
        rw [he, hq, ← he] at hn
        clear he hmem
        go_wp2_with (first | (go_at_call 60; refine (hn _).mono ?_; rintro e w' ⟨rfl, rfl⟩))
        go_round
        case rel => exact ⟨i + 1, by omega, by go_num, ⟨by rw [htk, List.all_append, HA.out]; simpa using hq⟩⟩
        case measure => simp [intOf]; omega
      | false =>
        have hf : shapedB s = false := by
          have : (bytesOf s).all namedB = false := by
            rw [List.all_eq_false]; exact ⟨_, hmem, by rw [hq]; decide⟩
          simp [shapedB, this]
        rw [he, hq, ← he] at hn
        clear he hmem htk
        go_wp2_with (first | (go_at_call 60; refine (hn _).mono ?_; rintro e w' ⟨rfl, rfl⟩))
        go_ret
        exact ⟨by first | rfl | (rw [hf]; rfl), rfl⟩
    · have i1 : i = s.size := by omega
      subst i1
      have ha := HA.out
      rw [List.take_of_length_le (by rw [bytesOf_length]; omega)] at ha
      have hltz : ¬ (s.size : Int) < (s.size : Int) := by omega
      clear HA hi hlt
      by_cases h0 : s.size = 0
      · have he : s.toList = [] := by rw [ByteArray.toList_eq]; exact List.eq_nil_of_length_eq_zero (by rw [data_length]; exact h0)
        have hf : shapedB s = false := by simp [shapedB, h0]
        go_wp2
        go_ret
        exact ⟨by first | rfl | (rw [hf]; rfl), rfl⟩
      · have hpos : 0 < s.size := by omega
        have he : s.toList.isEmpty = false := by
          rw [ByteArray.toList_eq, List.isEmpty_eq_false_iff]; intro e; have := data_length s; rw [e] at this; simp at this; omega
        have he2 : ¬ (s.toList = []) := by intro e; rw [e] at he; simp at he
        have hf : shapedB s = smallB ((s[0]'hpos).toNat : Int) := by simp [shapedB, ha, bt_head s hpos, show 1 ≤ s.size by omega]
        go_wp2_with (first | (go_at_call 61; refine (refSmall _ _).mono ?_; rintro e w' ⟨rfl, rfl⟩))
        go_ret
        exact ⟨by first | rfl | (rw [hf]; rfl), rfl⟩
end Go.Proofs.YtinidfeoellmhaaDoor
