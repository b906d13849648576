/-
  The contracts of serial.Rec and of the reference's SameInts: each returns what one plain function says, and writes nothing that was there. Names are strings of at most 2^63 - 1 bytes.
-/
import Derived.Test.YtinidfeoellmhaaDoorH2
import Derived.Test.YtinidfeoellmhaaDoorH4
namespace Go.Proofs.YtinidfeoellmhaaDoor
open Go.RowKit Go.Proofs.YtinidfeoellmhaaDoorW.PrintWords
set_option linter.unusedVariables false
set_option linter.unusedSimpArgs false

def recOk (o nm : ByteArray) (n : Int) : Bool := nameB o && (nameB nm && isIntB n)
def recZero : Value := .agg #[.int .i64 0, .int .i64 0, .string ⟨#[]⟩, .string ⟨#[]⟩, .int .i64 0, .slice none 0 0, .int .i64 0, .string ⟨#[]⟩, .int .i64 0]
def recRes (o nm : ByteArray) (n : Int) : Value := if recOk o nm n = true then .tuple #[rec10 o nm n, .int .i64 0] else .tuple #[recZero, .int .i64 2]
theorem set9_blk {w : World} {gg t : Nat} {a b c d e f g h i a' b' c' d' e' f' g' h' i' : Value} (hb : w.heap[gg]? = some (.cells #[a, b, c, d, e, f, g, h, i] t (0, 0))) :
    (((((((((w.setCell ⟨gg, 0, none⟩ a').setCell ⟨gg, 1, none⟩ b').setCell ⟨gg, 2, none⟩ c').setCell ⟨gg, 3, none⟩ d').setCell ⟨gg, 4, none⟩ e').setCell ⟨gg, 5, none⟩ f').setCell ⟨gg, 6, none⟩ g').setCell ⟨gg, 7, none⟩ h').setCell ⟨gg, 8, none⟩ i').heap[gg]? = some (.cells #[a', b', c', d', e', f', g', h', i'] t (0, 0)) := by
  have := blk_set (blk_set (blk_set (blk_set (blk_set (blk_set (blk_set (blk_set (blk_set hb 0 a') 1 b') 2 c') 3 d') 4 e') 5 f') 6 g') 7 h') 8 i'
  simpa using this
set_option maxHeartbeats 1000000 in
theorem srv_rec (o nm : ByteArray) (n : Int) (w : World) (ho : o.size ≤ 9223372036854775807) (hn : nm.size ≤ 9223372036854775807) :
    Calls Tryd.prog 14 #[.string o, .string nm, .int .i64 n] w fun e w' => e = .returned (recRes o nm n) ∧ Below w.heap.size w w' := by
  have hv := fun w => redoValid o nm n w ho hn
  unfold rec10 at hv
  cases hr : recOk o nm n with
  | true =>
    have HR : recRes o nm n = .tuple #[rec10 o nm n, .int .i64 0] := by rw [recRes, if_pos hr]
    have hr' : (nameB o && (nameB nm && isIntB n)) = true := hr
    rw [HR]
    clear HR hr
    rw [hr'] at hv
    go_enter Tryd.func14, Tryd.ntmps14
    go_wp2_with (first | (go_at_call 27; refine (hv _).mono ?_; clear hv; rintro e w' ⟨rfl, hb⟩; have K0 := blk_below (blk_alloc (blk_new w (.cells #[.int .i64 0, .int .i64 0, .string ⟨#[]⟩, .string ⟨#[]⟩, .int .i64 0, .slice none 0 0, .int .i64 0, .string ⟨#[]⟩, .int .i64 0] 38)) (.cells #[.int .i64 10, .int .i64 0, .string o, .string nm, .int .i64 0, .slice none 0 0, .int .i64 0, .string ⟨#[]⟩, .int .i64 n] 38)) hb; have K1 : w'.heap[w.heap.size + 1]? = some (.cells #[.int .i64 10, .int .i64 0, .string o, .string nm, .int .i64 0, .slice none 0 0, .int .i64 0, .string ⟨#[]⟩, .int .i64 n] 38 (0, 0)) := blk_below (by have h := blk_new (w.alloc (.cells #[.int .i64 0, .int .i64 0, .string ⟨#[]⟩, .string ⟨#[]⟩, .int .i64 0, .slice none 0 0, .int .i64 0, .string ⟨#[]⟩, .int .i64 0] 38)) (.cells #[.int .i64 10, .int .i64 0, .string o, .string nm, .int .i64 0, .slice none 0 0, .int .i64 0, .string ⟨#[]⟩, .int .i64 n] 38); simpa using h) hb; obtain ⟨c0, c1, c2, c3, c4, c5, c6, c7, c8⟩ := cell9 K0; obtain ⟨d0, d1, d2, d3, d4, d5, d6, d7, d8⟩ := cell9 K1; have f0 := blk_frozen K0 0; have f1 := blk_frozen K0 1; have f2 := blk_frozen K0 2; have f3 := blk_frozen K0 3; have f4 := blk_frozen K0 4; have f5 := blk_frozen K0 5; have f6 := blk_frozen K0 6; have f7 := blk_frozen K0 7; have f8 := blk_frozen K0 8; have KK := Aside0.mk K0; clear K0 K1; have HB := Aside0.mk (below_after (below_alloc (below_alloc (Below.refl _ _) _) _) hb); clear hb))
    refine (?key : ∀ W : World, W.heap[w.heap.size]? = some (.cells (recCells o nm n) 38 (0, 0)) → Below w.heap.size w W → bodyPost Tryd.prog Tryd.f14 _ Exit.ret _ W) _ ?h1 ?h2
    case key =>
      intro W hW hB
      refine bodyPost_ret (results_ct rfl _ _ w.heap.size 38 (recCells o nm n) (0, 0) _ rfl hW Tryd.underlying38 rfl (by kernel_rfl)) rfl ⟨?_, hB⟩
      rfl
    case h1 => exact set9_blk KK.out
    case h2 => (repeat (first | (with_reducible exact HB.out) | (with_reducible refine below_set2 ?_ _ _ (by simp))))
  | false =>
    have HR : recRes o nm n = .tuple #[recZero, .int .i64 2] := by rw [recRes, if_neg (by simp [hr])]
    have hr' : (nameB o && (nameB nm && isIntB n)) = false := hr
    rw [HR]
    clear HR hr
    rw [hr'] at hv
    go_enter Tryd.func14, Tryd.ntmps14
    go_wp2_with (first | (go_at_call 27; refine (hv _).mono ?_; clear hv; rintro e w' ⟨rfl, hb⟩; have K0 := blk_below (blk_alloc (blk_new w (.cells #[.int .i64 0, .int .i64 0, .string ⟨#[]⟩, .string ⟨#[]⟩, .int .i64 0, .slice none 0 0, .int .i64 0, .string ⟨#[]⟩, .int .i64 0] 38)) (.cells #[.int .i64 10, .int .i64 0, .string o, .string nm, .int .i64 0, .slice none 0 0, .int .i64 0, .string ⟨#[]⟩, .int .i64 n] 38)) hb; have K1 : w'.heap[w.heap.size + 1]? = some (.cells #[.int .i64 10, .int .i64 0, .string o, .string nm, .int .i64 0, .slice none 0 0, .int .i64 0, .string ⟨#[]⟩, .int .i64 n] 38 (0, 0)) := blk_below (by have h := blk_new (w.alloc (.cells #[.int .i64 0, .int .i64 0, .string ⟨#[]⟩, .string ⟨#[]⟩, .int .i64 0, .slice none 0 0, .int .i64 0, .string ⟨#[]⟩, .int .i64 0] 38)) (.cells #[.int .i64 10, .int .i64 0, .string o, .string nm, .int .i64 0, .slice none 0 0, .int .i64 0, .string ⟨#[]⟩, .int .i64 n] 38); simpa using h) hb; obtain ⟨c0, c1, c2, c3, c4, c5, c6, c7, c8⟩ := cell9 K0; obtain ⟨d0, d1, d2, d3, d4, d5, d6, d7, d8⟩ := cell9 K1; have f0 := blk_frozen K0 0; have f1 := blk_frozen K0 1; have f2 := blk_frozen K0 2; have f3 := blk_frozen K0 3; have f4 := blk_frozen K0 4; have f5 := blk_frozen K0 5; have f6 := blk_frozen K0 6; have f7 := blk_frozen K0 7; have f8 := blk_frozen K0 8; have KK := Aside0.mk K0; clear K0 K1; have HB := Aside0.mk (below_after (below_alloc (below_alloc (Below.refl _ _) _) _) hb); clear hb))
    refine bodyPost_ret (v := .tuple #[recZero, .int .i64 2]) (by simp [results, Tryd.results14, go_sem, c0, c1, c2, c3, c4, c5, c6, c7, c8, recZero]) rfl ⟨rfl, ?_⟩
    (repeat (first | (with_reducible exact HB.out) | (with_reducible refine below_set2 ?_ _ _ (by simp))))

/-- justiciarref18.SameInts. -/
theorem sameInts (v0 v1 : Value) (xs ys : List Int) (w : World) (h0 : SlI w v0 xs) (h1 : SlI w v1 ys) :
    Calls Tryd.prog 20 #[v0, v1] w fun e w' => e = .returned (.bool (decide (xs = ys))) ∧ Drawn0 w w' := by
  obtain ⟨A, ca, rfl, hca, ra⟩ := h0
  obtain ⟨B, cb, rfl, hcb, rb⟩ := h1
  have RA := Aside0.mk ra
  have RB := Aside0.mk rb
  clear ra rb
  obtain ⟨d, hd⟩ : ∃ d, decide (xs = ys) = d := ⟨_, rfl⟩
  rw [hd]
  have HD := Aside0.mk hd
  clear hd
  have hbig := RA.out.2.1
  by_cases hl : xs.length = ys.length
  · have hl1 : ((xs.length : Int) != (ys.length : Int)) = false := by simp [hl]
    have hl2 : (xs.length != ys.length) = false := by simp [hl]
    have HL := Aside0.mk hl
    clear hl
    go_enter Tryd.func20, Tryd.ntmps20
    go_wp2
    go_loopw [13] (fun v wr => ∃ i : Nat, i ≤ xs.length ∧ v = .int .i64 i ∧ Aside0 (∀ j, j < i → xs[j]? = ys[j]?) ∧ Drawn0 w wr) (fun v _ => xs.length - (intOf v).toNat)
    case atStart => exact ⟨0, by omega, rfl, ⟨fun j hj => absurd hj (by omega)⟩, Drawn0.refl _⟩
    case round =>
      obtain ⟨i, hi, rfl, HA, ⟨nd, rfl⟩⟩ := hrel
      have HL' := HL.out
      by_cases hlt : i < xs.length
      · have hltz : (i : Int) < (xs.length : Int) := by omega
        obtain ⟨ad, rfl, hca2⟩ := RA.out.at_ i (by omega) (by omega)
        obtain ⟨bd, rfl, hcb2⟩ := RB.out.at_ i (by omega) (by omega)
        rw [Int.toNat_natCast] at hca2 hcb2
        have hlty : (i : Int) < (ys.length : Int) := by omega
        clear HL'
        by_cases he : rd xs i = rd ys i
        · have he1 : (rd xs i != rd ys i) = false := by simpa using he
          have HE := Aside0.mk he
          clear he
          go_wp2
          go_quiet (fail)
          go_wp2
          go_roundw
          case rel => exact ⟨i + 1, by omega, by go_num, ⟨fun j hj => by
            by_cases h : j = i
            · subst h
              have h2 := HE.out
              have h3 := HL.out
              simp only [rd, Int.toNat_natCast, List.getD_eq_getElem?_getD] at h2
              rw [List.getElem?_eq_getElem hlt, List.getElem?_eq_getElem (by omega)] at h2 ⊢
              simpa using h2
            · exact HA.out j (by omega)⟩, by repeat (first | exact Drawn0.refl _ | apply Drawn0.step)⟩
          case measure => simp [intOf]; omega
        · have he1 : (rd xs i != rd ys i) = true := by simpa using he
          have hd : d = false := HD.out.symm.trans (by simp; intro e; exact he (by rw [e]))
          subst hd
          clear he
          go_wp2
          go_quiet (fail)
          go_wp2
          go_ret
          exact ⟨rfl, by repeat (first | exact Drawn0.refl _ | apply Drawn0.step)⟩
      · have hltz : ¬ (i : Int) < (xs.length : Int) := by omega
        have hd : d = true := HD.out.symm.trans <| by
          simp only [decide_eq_true_eq]
          apply List.ext_getElem?
          intro j
          by_cases hj : j < i
          · exact HA.out j hj
          · rw [List.getElem?_eq_none (by omega), List.getElem?_eq_none (by omega)]
        subst hd
        clear HL'
        go_wp2
        go_ret
        exact ⟨rfl, by repeat (first | exact Drawn0.refl _ | apply Drawn0.step)⟩
  · have hl1 : ((xs.length : Int) != (ys.length : Int)) = true := by simp; omega
    have hl2 : (xs.length != ys.length) = true := by simpa using hl
    have hd : d = false := HD.out.symm.trans (by simp; intro e; exact hl (by rw [e]))
    subst hd
    clear hl
    go_enter Tryd.func20, Tryd.ntmps20
    go_wp2
    go_ret
    exact ⟨rfl, Drawn0.refl _⟩
end Go.Proofs.YtinidfeoellmhaaDoor
