import Derived.Test.YtinidfeoellmhaaDoorR4
namespace Go.Proofs.YtinidfeoellmhaaDoor
open Go.RowKit Go.Proofs.YtinidfeoellmhaaDoorW.PrintWords
set_option linter.unusedVariables false
set_option linter.unusedSimpArgs false

set_option maxHeartbeats 1000000 in
theorem ref_rec (o nm : ByteArray) (n : Int) (w : World) (ho : o.size ≤ 9223372036854775807) (hn : nm.size ≤ 9223372036854775807) :
    Calls Tryd.prog 15 #[.string o, .string nm, .int .i64 n] w fun e w' => e = .returned (recRes o nm n) ∧ Below w.heap.size w w' := by
  have hv := fun w => refValid o nm n w ho hn
  unfold rec10 at hv
  cases hr : recOk o nm n with
  | true =>
    have HR : recRes o nm n = .tuple #[rec10 o nm n, .int .i64 0] := by rw [recRes, if_pos hr]
    have hr' : (nameB o && (nameB nm && isIntB n)) = true := hr
    rw [HR]
    clear HR hr
    rw [hr'] at hv
    go_enter Tryd.func15, Tryd.ntmps15
    go_wp2_with (first | (go_at_call 28; refine (hv _).mono ?_; clear hv; rintro e w' ⟨rfl, hb⟩; have K0 := blk_below (blk_alloc (blk_new w (.cells #[.int .i64 0, .int .i64 0, .string ⟨#[]⟩, .string ⟨#[]⟩, .int .i64 0, .slice none 0 0, .int .i64 0, .string ⟨#[]⟩, .int .i64 0] 38)) (.cells #[.int .i64 10, .int .i64 0, .string o, .string nm, .int .i64 0, .slice none 0 0, .int .i64 0, .string ⟨#[]⟩, .int .i64 n] 38)) hb; have K1 : w'.heap[w.heap.size + 1]? = some (.cells #[.int .i64 10, .int .i64 0, .string o, .string nm, .int .i64 0, .slice none 0 0, .int .i64 0, .string ⟨#[]⟩, .int .i64 n] 38 (0, 0)) := blk_below (by have h := blk_new (w.alloc (.cells #[.int .i64 0, .int .i64 0, .string ⟨#[]⟩, .string ⟨#[]⟩, .int .i64 0, .slice none 0 0, .int .i64 0, .string ⟨#[]⟩, .int .i64 0] 38)) (.cells #[.int .i64 10, .int .i64 0, .string o, .string nm, .int .i64 0, .slice none 0 0, .int .i64 0, .string ⟨#[]⟩, .int .i64 n] 38); simpa using h) hb; obtain ⟨c0, c1, c2, c3, c4, c5, c6, c7, c8⟩ := cell9 K0; obtain ⟨d0, d1, d2, d3, d4, d5, d6, d7, d8⟩ := cell9 K1; have f0 := blk_frozen K0 0; have f1 := blk_frozen K0 1; have f2 := blk_frozen K0 2; have f3 := blk_frozen K0 3; have f4 := blk_frozen K0 4; have f5 := blk_frozen K0 5; have f6 := blk_frozen K0 6; have f7 := blk_frozen K0 7; have f8 := blk_frozen K0 8; have KK := Aside0.mk K0; clear K0 K1; have HB := Aside0.mk (below_after (below_alloc (below_alloc (Below.refl _ _) _) _) hb); clear hb))
    refine (?key : ∀ W : World, W.heap[w.heap.size]? = some (.cells (recCells o nm n) 38 (0, 0)) → Below w.heap.size w W → bodyPost Tryd.prog Tryd.f15 _ Exit.ret _ W) _ ?h1 ?h2
    case key =>
      intro W hW hB
      refine bodyPost_ret (results_ct rfl _ _ w.heap.size 38 (recCells o nm n) (0, 0) _ rfl hW Tryd.underlying38 rfl (by kernel_rfl)) rfl ⟨?_, hB⟩
      rfl
    case h1 => exact set9_blk KK.out
    case h2 => (repeat (first | (with_reducible exact HB.out) | (with_reducible refine below_set2 ?_ _ _ (by simp))))
  | false =>
    have HR : recRes o nm n = .tuple #[recZero, .int .i64 2] := by rw [recRes, if_neg (by simp [hr])]
    have hr' : (nameB o && (nameB nm && isIntB n)) = false := hr
    rw [HR]
    clear HR hr
    rw [hr'] at hv
    go_enter Tryd.func15, Tryd.ntmps15
    go_wp2_with (first | (go_at_call 28; refine (hv _).mono ?_; clear hv; rintro e w' ⟨rfl, hb⟩; have K0 := blk_below (blk_alloc (blk_new w (.cells #[.int .i64 0, .int .i64 0, .string ⟨#[]⟩, .string ⟨#[]⟩, .int .i64 0, .slice none 0 0, .int .i64 0, .string ⟨#[]⟩, .int .i64 0] 38)) (.cells #[.int .i64 10, .int .i64 0, .string o, .string nm, .int .i64 0, .slice none 0 0, .int .i64 0, .string ⟨#[]⟩, .int .i64 n] 38)) hb; have K1 : w'.heap[w.heap.size + 1]? = some (.cells #[.int .i64 10, .int .i64 0, .string o, .string nm, .int .i64 0, .slice none 0 0, .int .i64 0, .string ⟨#[]⟩, .int .i64 n] 38 (0, 0)) := blk_below (by have h := blk_new (w.alloc (.cells #[.int .i64 0, .int .i64 0, .string ⟨#[]⟩, .string ⟨#[]⟩, .int .i64 0, .slice none 0 0, .int .i64 0, .string ⟨#[]⟩, .int .i64 0] 38)) (.cells #[.int .i64 10, .int .i64 0, .string o, .string nm, .int .i64 0, .slice none 0 0, .int .i64 0, .string ⟨#[]⟩, .int .i64 n] 38); simpa using h) hb; obtain ⟨c0, c1, c2, c3, c4, c5, c6, c7, c8⟩ := cell9 K0; obtain ⟨d0, d1, d2, d3, d4, d5, d6, d7, d8⟩ := cell9 K1; have f0 := blk_frozen K0 0; have f1 := blk_frozen K0 1; have f2 := blk_frozen K0 2; have f3 := blk_frozen K0 3; have f4 := blk_frozen K0 4; have f5 := blk_frozen K0 5; have f6 := blk_frozen K0 6; have f7 := blk_frozen K0 7; have f8 := blk_frozen K0 8; have KK := Aside0.mk K0; clear K0 K1; have HB := Aside0.mk (below_after (below_alloc (below_alloc (Below.refl _ _) _) _) hb); clear hb))
    refine bodyPost_ret (v := .tuple #[recZero, .int .i64 2]) (by simp [results, Tryd.results15, go_sem, c0, c1, c2, c3, c4, c5, c6, c7, c8, recZero]) rfl ⟨rfl, ?_⟩
    (repeat (first | (with_reducible exact HB.out) | (with_reducible refine below_set2 ?_ _ _ (by simp))))

end Go.Proofs.YtinidfeoellmhaaDoor
