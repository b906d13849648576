import Derived.Test.YtinidfeoellmhaaDoorR1
namespace Go.Proofs.YtinidfeoellmhaaDoor
open Go.RowKit Go.Proofs.YtinidfeoellmhaaDoorW.PrintWords
set_option linter.unusedVariables false
set_option linter.unusedSimpArgs false

/-- The words of the reference, each as its bytes. -/
def refL : List (List UInt8) := [[97, 100, 100], [97, 102, 116, 101, 114], [97, 108, 108], [97, 108, 116, 101, 114], [97, 110, 100], [97, 114, 114, 97, 121], [97, 115], [97, 117, 116, 111, 110, 111, 109, 111, 117, 115], [98, 101, 102, 111, 114, 101], [98, 101, 103, 105, 110], [98, 101, 116, 119, 101, 101, 110], [98, 111, 111, 108], [98, 117, 108, 107], [98, 121], [99, 97, 99, 104, 101], [99, 97, 115, 101], [99, 104, 101, 99, 107], [99, 108, 111, 115, 101], [99, 111, 108, 108, 101, 99, 116], [99, 111, 109, 109, 105, 116], [99, 111, 110, 115, 116, 114, 97, 105, 110, 116], [99, 111, 117, 110, 116], [99, 114, 101, 97, 116, 101], [99, 117, 114, 115, 111, 114], [100, 101, 99, 108, 97, 114, 101], [100, 101, 102, 97, 117, 108, 116], [100, 101, 102, 101, 114, 114, 101, 100], [100, 101, 108, 101, 116, 101], [100, 101, 115, 99], [100, 105, 115, 116, 105, 110, 99, 116], [100, 114, 111, 112], [101, 97, 99, 104], [101, 108, 115, 101], [101, 108, 115, 105, 102], [101, 110, 100], [101, 120, 99, 101, 112, 116, 105, 111, 110], [101, 120, 101, 99, 117, 116, 101], [101, 120, 105, 115, 116, 115], [101, 120, 105, 116], [102, 97, 108, 115, 101], [102, 101, 116, 99, 104], [102, 111, 114], [102, 111, 114, 97, 108, 108], [102, 111, 114, 101, 105, 103, 110], [102, 111, 117, 110, 100], [102, 114, 111, 109], [102, 117, 110, 99, 116, 105, 111, 110], [103, 114, 97, 110, 116], [103, 114, 111, 117, 112], [104, 97, 118, 105, 110, 103], [105, 102], [105, 110], [105, 110, 100, 101, 120], [105, 110, 115, 101, 114, 116], [105, 110, 116], [105, 110, 116, 111], [105, 110, 118, 111, 107, 101, 114], [105, 115], [105, 115, 111, 112, 101, 110], [107, 101, 121], [108, 105, 107, 101], [108, 105, 109, 105, 116], [108, 111, 111, 112], [109, 111, 100], [110, 101, 119], [110, 111, 116], [110, 111, 116, 102, 111, 117, 110, 100], [110, 117, 108, 108], [111, 102], [111, 108, 100], [111, 110], [111, 112, 101, 110], [111, 114], [111, 114, 100, 101, 114], [111, 117, 116], [112, 97, 99, 107, 97, 103, 101], [112, 114, 105, 109, 97, 114, 121], [112, 114, 105, 118, 97, 116, 101], [112, 114, 111, 99, 101, 100, 117, 114, 101], [114, 97, 105, 115, 101], [114, 101, 102, 101, 114, 101, 110, 99, 101, 115], [114, 101, 112, 108, 97, 99, 101], [114, 101, 116, 117, 114, 110], [114, 101, 118, 101, 114, 115, 101], [114, 101, 118, 111, 107, 101], [114, 111, 108, 108, 98, 97, 99, 107], [114, 111, 119], [114, 111, 119, 99, 111, 117, 110, 116], [115, 97, 118, 101, 112, 111, 105, 110, 116], [115, 101, 108, 101, 99, 116], [115, 101, 113, 117, 101, 110, 99, 101], [115, 101, 116], [115, 113, 108], [115, 116, 97, 114, 116], [116, 97, 98, 108, 101], [116, 101, 120, 116], [116, 104, 101, 110], [116, 111], [116, 114, 105, 103, 103, 101, 114], [116, 114, 117, 101], [117, 110, 105, 113, 117, 101], [117, 112, 100, 97, 116, 101], [117, 115, 101, 114], [118, 97, 108, 117, 101, 115], [118, 105, 101, 119], [119, 104, 101, 110], [119, 104, 101, 114, 101], [119, 104, 105, 108, 101]]
def encW : List (List UInt8) → List UInt8
  | [] => [32]
  | x :: l => 32 :: (x ++ encW l)
def wordsS : ByteArray := ⟨(encW refL).toArray⟩
theorem wordsS_size : wordsS.size = 662 := by kernel_rfl
theorem words_is (a b : List UInt8) (h : (⟨(List.append a b).toArray⟩ : ByteArray) = wordsS) : (⟨(List.append a b).toArray⟩ : ByteArray) = wordsS := h

/-- All bytes are small letters. -/
def letters (s : ByteArray) : Bool := (bytesOf s).all smallB
theorem enc_head : ∀ l : List (List UInt8), ∃ r, encW l = 32 :: r
  | [] => ⟨[], rfl⟩
  | x :: l => ⟨x ++ encW l, rfl⟩
theorem pre_split : ∀ {t x r : List UInt8}, 32 ∉ t → 32 ∉ x → t ++ [32] <+: x ++ 32 :: r → t = x
  | [], [], _, _, _, _ => rfl
  | [], y :: x, r, _, hx, h => by
    simp at h
    exact absurd h (fun e => hx (by rw [← e]; simp))
  | y :: t, [], r, ht, _, h => by
    simp [List.cons_prefix_cons] at h
    exact absurd h.1 (fun e => ht (by rw [← e]; simp))
  | y :: t, z :: x, r, ht, hx, h => by
    rw [List.cons_append, List.cons_append, List.cons_prefix_cons] at h
    rw [h.1, pre_split (fun e => ht (by simp [e])) (fun e => hx (by simp [e])) h.2]
theorem inf_skip : ∀ {x p r : List UInt8}, 32 ∉ x → 32 :: p <:+: x ++ r → 32 :: p <:+: r
  | [], _, _, _, h => h
  | y :: x, p, r, hx, h => by
    rw [List.cons_append, List.infix_cons_iff] at h
    rcases h with h | h
    · rw [List.cons_prefix_cons] at h
      exact absurd h.1 (fun e => hx (by rw [e]; simp))
    · exact inf_skip (fun e => hx (by simp [e])) h
theorem inf_enc {t : List UInt8} (ht : 32 ∉ t) : ∀ {l : List (List UInt8)}, (∀ x ∈ l, 32 ∉ x) → (32 :: (t ++ [32]) <:+: encW l ↔ t ∈ l)
  | [], _ => by
    constructor
    · intro h
      have := h.length_le
      simp [encW] at this
    · intro h; exact absurd h (by simp)
  | x :: l, hl => by
    obtain ⟨r, hr⟩ := enc_head l
    have hx := hl x (by simp)
    have ih := inf_enc ht (l := l) (fun y hy => hl y (by simp [hy]))
    rw [encW, List.infix_cons_iff, List.cons_prefix_cons]
    constructor
    · rintro (⟨_, h⟩ | h)
      · rw [hr] at h
        rw [pre_split ht hx h]; simp
      · exact List.mem_cons_of_mem _ (ih.1 (inf_skip hx h))
    · intro h
      rcases List.mem_cons.1 h with h | h
      · left
        refine ⟨rfl, ?_⟩
        rw [h, hr]
        exact ⟨r, by simp⟩
      · right
        exact (ih.2 h).trans (List.suffix_append _ _).isInfix
theorem refL_clean : ∀ x ∈ refL, (32 : UInt8) ∉ x := by
  have h : (refL.all fun x => !x.contains 32) = true := by kernel_rfl
  intro x hx
  have := List.all_eq_true.1 h x hx
  simpa using this
theorem letters_clean {s : ByteArray} (h : letters s = true) : (32 : UInt8) ∉ s.data.toList := by
  intro hm
  have := List.all_eq_true.1 h ((32 : UInt8).toNat : Int) (List.mem_map.2 ⟨32, hm, rfl⟩)
  exact absurd this (by decide)
theorem pad_list (s : ByteArray) : (({ data := #[32] } : ByteArray) ++ s ++ { data := #[32] }).data.toList = 32 :: (s.data.toList ++ [32]) := by
  simp [ByteArray.data_append]
theorem ext_list (i n : Nat) : (wordsS.extract i (i + n)).data.toList = ((encW refL).drop i).take n := by
  rw [ByteArray.data_extract, Array.toList_extract, List.extract_eq_take_drop, Nat.add_sub_cancel_left]
  rfl
theorem word_hit {s P : ByteArray} (hc : letters s = true) (hP : ({ data := #[32] } : ByteArray) ++ s ++ { data := #[32] } = P) {i : Nat} (h : ((wordsS.extract i (i + P.size)).toList == P.toList) = true) : refL.contains s.data.toList = true := by
  have h1 : (wordsS.extract i (i + P.size)).data.toList = P.data.toList := by simpa [ByteArray.toList_eq] using h
  rw [ext_list, ← hP, pad_list] at h1
  have h2 : 32 :: (s.data.toList ++ [32]) <:+: encW refL := by
    rw [← h1]; exact (List.take_prefix _ _).isInfix.trans (List.drop_suffix _ _).isInfix
  simpa using (inf_enc (letters_clean hc) refL_clean).1 h2
theorem word_miss {s P : ByteArray} (hc : letters s = true) (hP : ({ data := #[32] } : ByteArray) ++ s ++ { data := #[32] } = P) {i : Nat} (hi : ¬ i + P.size ≤ 662) (h : ∀ j, j < i → ((wordsS.extract j (j + P.size)).toList == P.toList) = false) : refL.contains s.data.toList = false := by
  rw [Bool.eq_false_iff]
  intro hm
  have h2 := (inf_enc (letters_clean hc) refL_clean).2 (by simpa using hm)
  rw [← pad_list, hP] at h2
  obtain ⟨a, b, hab⟩ := h2
  have hl : (encW refL).length = 662 := by kernel_rfl
  have hPl : P.data.toList.length = P.size := data_length P
  have h3 : a.length + P.size ≤ 662 := by
    have := congrArg List.length hab
    simp only [List.length_append] at this
    omega
  have h4 := h a.length (by omega)
  have h5 : (wordsS.extract a.length (a.length + P.size)).data.toList = P.data.toList := by
    rw [ext_list, ← hab, List.append_assoc, List.drop_left, ← hPl, List.take_left]
  rw [ByteArray.toList_eq, ByteArray.toList_eq, h5] at h4
  simp at h4

set_option maxRecDepth 100000 in
theorem refWord (s : ByteArray) (w : World) (hs : s.size ≤ 30) (hne : s.size ≠ 0) : Calls Tryd.prog 53 #[.string s] w fun e w' => e = .returned (.bool (letters s && refL.contains s.data.toList)) ∧ w = w' := by
  have hpos : 0 < s.size := by omega
  have he : s.toList.isEmpty = false := by
    rw [ByteArray.toList_eq, List.isEmpty_eq_false_iff]; intro e; have := data_length s; rw [e] at this; simp at this; omega
  have he2 : ¬ (s.toList = []) := by intro e; rw [e] at he; simp at he
  generalize hR : (letters s && refL.contains s.data.toList) = R
  have HR := Aside0.mk hR
  clear hR
  go_enter Tryd.func53, Tryd.ntmps53
  rw [words_is _ _ ?hh]
  case hh => kernel_rfl
  have hwz := wordsS_size
  go_wp2
  go_loop [3] (fun v => ∃ i : Nat, i ≤ s.size ∧ v = .int .i64 i ∧ Aside0 (((bytesOf s).take i).all smallB = true)) (fun v => s.size - (intOf v).toNat)
  case atStart => exact ⟨0, by omega, rfl, ⟨by simp⟩⟩
  case round =>
    obtain ⟨i, hi, rfl, HA⟩ := hrel
    by_cases hlt : i < s.size
    · have hltz : (i : Int) < (s.size : Int) := by omega
      have he : ((s[i]'hlt).toNat : Int) = bt s (i : Int) := bt_at s (i : Int) hlt
      have hn := refSmall ((s[i]'hlt).toNat : Int)
      have hlen := bytesOf_length s
      have htk : (bytesOf s).take (i + 1) = (bytesOf s).take i ++ [bt s i] := by
        rw [List.take_succ_eq_append_getElem (by omega), ← rd_bytesOf]
        simp [rd, show i < (bytesOf s).length by omega]
      have hmem : bt s (i : Int) ∈ bytesOf s := by
        rw [← rd_bytesOf]
        simp [rd, show i < (bytesOf s).length by omega]
      cases hq : smallB (bt s i) with
      | true =>
        rw [he, hq, ← he] at hn
        clear he hmem
        go_wp2_with (first | (go_at_call 61; refine (hn _).mono ?_; rintro e w' ⟨rfl, rfl⟩))
        go_round
        case rel => exact ⟨i + 1, by omega, by go_num, ⟨by rw [htk, List.all_append, HA.out]; simpa using hq⟩⟩
        case measure => simp [intOf]; omega
      | false =>
        have hf : letters s = false := by
          rw [letters, List.all_eq_false]; exact ⟨_, hmem, by rw [hq]; decide⟩
        have hf2 := Aside0.mk (show R = false by rw [← HR.out, hf]; rfl)
        clear hf
        rw [he, hq, ← he] at hn
        clear he hmem htk
        go_wp2_with (first | (go_at_call 61; refine (hn _).mono ?_; rintro e w' ⟨rfl, rfl⟩))
        go_ret
        exact ⟨by rw [hf2.out]; rfl, rfl⟩
    · have i1 : i = s.size := by omega
      subst i1
      have ha := HA.out
      rw [List.take_of_length_le (by rw [bytesOf_length]; omega)] at ha
      have hltz : ¬ (s.size : Int) < (s.size : Int) := by omega
      clear HA hi hlt
      go_wp2
      generalize hP : (({ data := #[32] } : ByteArray) ++ s ++ { data := #[32] }) = P
      have hPz := Aside0.mk (show P.size = s.size + 2 by rw [← hP, ByteArray.size_append, ByteArray.size_append]; show 1 + s.size + 1 = s.size + 2; omega)
      have hPs : P.size ≤ 32 := by have := hPz.out; omega
      have hP2 := Aside0.mk hP
      clear hP
      go_loop [4] (fun v => ∃ i : Nat, i ≤ 662 ∧ v = .int .i64 i ∧ Aside0 (∀ j, j < i → ((wordsS.extract j (j + P.size)).toList == P.toList) = false)) (fun v => 662 - (intOf v).toNat)
      case atStart => exact ⟨0, by omega, rfl, ⟨fun j h => absurd h (Nat.not_lt_zero _)⟩⟩
      case round =>
        obtain ⟨i, hi, rfl, HA⟩ := hrel
        by_cases hlt : i + P.size ≤ 662
        · have hi1 := Aside0.mk (show i + 1 ≤ 662 by have := hPz.out; omega)
          have hltz : (i : Int) + (P.size : Int) ≤ 662 := by omega
          have b1 : (i : Int) ≤ (i : Int) + (P.size : Int) := by omega
          have b2 : (0 : Int) ≤ (i : Int) := by omega
          have b3 : ((i : Int) + (P.size : Int)).toNat = i + P.size := by omega
          cases hq : (wordsS.extract i (i + P.size)).toList == P.toList with
          | true =>
            have hf := Aside0.mk (show R = true by rw [← HR.out, word_hit ha hP2.out hq]; rw [letters, ha]; rfl)
            go_wp2
            go_ret
            exact ⟨by rw [hf.out]; rfl, rfl⟩
          | false =>
            have HA2 := Aside0.mk (fun j (h : j < i + 1) => if e : j = i then (by rw [e]; exact hq) else HA.out j (by omega) : ∀ j, j < i + 1 → ((wordsS.extract j (j + P.size)).toList == P.toList) = false)
            go_wp2
            go_round
            case rel => exact ⟨i + 1, hi1.out, by go_num, HA2⟩
            case measure => clear b3; have := hi1.out; simp [intOf]; omega
        · have hltz : ¬ (i : Int) + (P.size : Int) ≤ 662 := by omega
          have hf := Aside0.mk (show R = false by rw [← HR.out, word_miss ha hP2.out hlt HA.out]; simp)
          go_wp2
          go_ret
          exact ⟨by rw [hf.out]; rfl, rfl⟩

theorem wordL_letters : ∀ x ∈ wordL, letters x.2 = true := by
  have h : (wordL.all fun x => letters x.2) = true := by kernel_rfl
  exact fun x hx => List.all_eq_true.1 h x hx
theorem wordL_refL : ∀ x ∈ wordL, refL.contains x.2.data.toList = true := by
  have h : (wordL.all fun x => refL.contains x.2.data.toList) = true := by kernel_rfl
  exact fun x hx => List.all_eq_true.1 h x hx
theorem refL_wordL : ∀ y ∈ refL, ∃ x ∈ wordL, x.2.data.toList = y := by
  have h : (refL.all fun y => wordL.any fun x => x.2.data.toList == y) = true := by kernel_rfl
  intro y hy
  obtain ⟨x, hx, he⟩ := List.any_eq_true.1 (List.all_eq_true.1 h y hy)
  exact ⟨x, hx, by simpa using he⟩
theorem word_same (s : ByteArray) : (letters s && refL.contains s.data.toList) = wordB s := by
  rw [Bool.eq_iff_iff, Bool.and_eq_true, wordB, List.any_eq_true]
  constructor
  · rintro ⟨_, h⟩
    obtain ⟨x, hx, he⟩ := refL_wordL s.data.toList (by simpa using h)
    exact ⟨x, hx, by simp only [ByteArray.toList_eq, he, beq_self_eq_true]⟩
  · rintro ⟨x, hx, he⟩
    have h1 : s.data.toList = x.2.data.toList := by
      rw [← ByteArray.toList_eq, ← ByteArray.toList_eq]; exact eq_of_beq he
    refine ⟨?_, ?_⟩
    · have := wordL_letters x hx
      rw [letters, bytesOf] at this ⊢
      rw [h1]; exact this
    · rw [h1]; exact wordL_refL x hx

theorem refIsName (s : ByteArray) (w : World) (hs : s.size ≤ 9223372036854775807) : Calls Tryd.prog 46 #[.string s] w fun e w' => e = .returned (.bool (nameB s)) ∧ w = w' := by
  have hn : nameB s = (shapedB s && (decide (s.size ≤ 30) && !wordB s)) := by
    unfold nameB nameB0 shapedB
    cases decide (1 ≤ s.size) <;> cases smallB (bt s 0) <;> cases decide (s.size ≤ 30) <;> cases (bytesOf s).all namedB <;> simp
  have hsh := refShaped s
  cases h1 : shapedB s with
  | false =>
    rw [hn, h1]
    have h2 := fun w => hsh w hs
    rw [h1] at h2
    clear hn hsh
    go_enter Tryd.func46, Tryd.ntmps46
    go_wp2_with (first | (go_at_call 52; refine (h2 _).mono ?_; rintro e w' ⟨rfl, rfl⟩))
    go_ret
    exact ⟨rfl, rfl⟩
  | true =>
    have h2 := fun w => hsh w hs
    rw [h1] at h2
    by_cases h3 : s.size ≤ 30
    · have h4 : s.size ≠ 0 := by
        intro e; rw [shapedB] at h1; simp [e] at h1
      have h5 := fun w => refWord s w h3 h4
      rw [word_same] at h5
      rw [hn, h1]
      have h3z : (s.size : Int) ≤ 30 := by omega
      clear hn hsh
      go_enter Tryd.func46, Tryd.ntmps46
      go_wp2_with (first | (go_at_call 52; refine (h2 _).mono ?_; rintro e w' ⟨rfl, rfl⟩) | (go_at_call 53; refine (h5 _).mono ?_; rintro e w' ⟨rfl, rfl⟩))
      go_ret
      exact ⟨by simp [h3], rfl⟩
    · rw [hn, h1]
      have h3z : ¬ (s.size : Int) ≤ 30 := by omega
      clear hn hsh
      go_enter Tryd.func46, Tryd.ntmps46
      go_wp2_with (first | (go_at_call 52; refine (h2 _).mono ?_; rintro e w' ⟨rfl, rfl⟩))
      go_ret
      exact ⟨by simp [h3], rfl⟩
end Go.Proofs.YtinidfeoellmhaaDoor
