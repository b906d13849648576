import Derived.Test.YtinidfeoellmhaaDoorR3
namespace Go.Proofs.YtinidfeoellmhaaDoor
open Go.RowKit Go.Proofs.YtinidfeoellmhaaDoorW.PrintWords
set_option linter.unusedVariables false
set_option linter.unusedSimpArgs false

theorem blk_drewX {W : World} {g t : Nat} {cs : Array Value} (h : W.heap[g]? = some (.cells cs t (0, 0))) : W.drew.heap[g]? = some (.cells cs t (0, 0)) := h
theorem set9_far {w : World} {g gg t : Nat} {cs : Array Value} {a' b' c' d' e' f' g' h' i' : Value} (hb : w.heap[g]? = some (.cells cs t (0, 0))) (hg : g ≠ gg) :
    (((((((((w.setCell ⟨gg, 0, none⟩ a').setCell ⟨gg, 1, none⟩ b').setCell ⟨gg, 2, none⟩ c').setCell ⟨gg, 3, none⟩ d').setCell ⟨gg, 4, none⟩ e').setCell ⟨gg, 5, none⟩ f').setCell ⟨gg, 6, none⟩ g').setCell ⟨gg, 7, none⟩ h').setCell ⟨gg, 8, none⟩ i').heap[g]? = some (.cells cs t (0, 0)) :=
  blk_far (blk_far (blk_far (blk_far (blk_far (blk_far (blk_far (blk_far (blk_far hb hg _) hg _) hg _) hg _) hg _) hg _) hg _) hg _) hg _
theorem set9_below {B : Nat} {w0 w : World} {gg : Nat} {a' b' c' d' e' f' g' h' i' : Value} (h : Below B w0 w) (hg : B ≤ gg) :
    Below B w0 (((((((((w.setCell ⟨gg, 0, none⟩ a').setCell ⟨gg, 1, none⟩ b').setCell ⟨gg, 2, none⟩ c').setCell ⟨gg, 3, none⟩ d').setCell ⟨gg, 4, none⟩ e').setCell ⟨gg, 5, none⟩ f').setCell ⟨gg, 6, none⟩ g').setCell ⟨gg, 7, none⟩ h').setCell ⟨gg, 8, none⟩ i') :=
  below_set2 (below_set2 (below_set2 (below_set2 (below_set2 (below_set2 (below_set2 (below_set2 (below_set2 h _ _ hg) _ _ hg) _ _ hg) _ _ hg) _ _ hg) _ _ hg) _ _ hg) _ _ hg) _ _ hg

set_option maxHeartbeats 4000000 in
theorem refValid0 (o nm : ByteArray) (n : Int) (w : World) (ho : o.size ≤ 9223372036854775807) (hn : nm.size ≤ 9223372036854775807) (h1 : nameB o = false) :
    Calls Tryd.prog 28 #[rec10 o nm n] w fun e w' => e = .returned (.bool false) ∧ Below w.heap.size w w' := by
  have f1 := fun w => refField79 o nm n w ho
  have g1 := fun w => refBlank79 o nm n w
  have g2 := fun w => refBlank78 ⟨#[]⟩ nm n w
  have g3 := fun w => refBlank77 ⟨#[]⟩ ⟨#[]⟩ n w
  rw [h1] at f1
  clear h1
  unfold rec10 at f1 g1 g2 g3 ⊢
  go_enter Tryd.func28, Tryd.ntmps28
  go_wp2_with (first | (go_at_call 36; refine (refFields _).mono ?_; rintro e w' ⟨rfl, rfl⟩))
  have A0 : Aside0 (((w.alloc (.cells (recCells o nm n) 38)).alloc (.cells (recCells o nm n) 38)).drew.heap[w.heap.size]? = some (.cells (recCells o nm n) 38 (0, 0))) := ⟨blk_drewX (blk_alloc (blk_new _ _) _)⟩
  have A1 : Aside0 (((w.alloc (.cells (recCells o nm n) 38)).alloc (.cells (recCells o nm n) 38)).drew.heap[w.heap.size + 1]? = some (.cells (recCells o nm n) 38 (0, 0))) := ⟨blk_drewX (by have h := blk_new (w.alloc (.cells (recCells o nm n) 38)) (.cells (recCells o nm n) 38); simpa using h)⟩
  have A2 : Aside0 (Below w.heap.size w ((w.alloc (.cells (recCells o nm n) 38)).alloc (.cells (recCells o nm n) 38)).drew) := ⟨below_drew (below_alloc (below_alloc (Below.refl _ _) _) _)⟩
  refine wp_loop_rounds 4 ?_
  rw [rounds_succ]
  go_wp2
  refine st_region 6 (by kernel_rfl) (by kernel_rfl) ?_
  simp only [List.take_succ_cons, List.take_zero, List.drop_succ_cons, List.drop_zero]
  iterate 6 (refine st_yes (by kernel_rfl) (fun K hK => ?_); go_simp; refine hK _ ?_; clear hK K)
  refine st_end ?_
  go_wp2_with fail
  refine (f1 _).mono ?_
  rintro e w11 ⟨rfl, hb⟩
  have B0 := Aside0.mk (blk_below A0.out hb)
  have B1 := Aside0.mk (blk_below A1.out hb)
  have B2 := Aside0.mk (below_after A2.out hb)
  clear A0 A1 A2 hb
  obtain ⟨d0, d1, d2, d3, d4, d5, d6, d7, d8⟩ := cell9 B1.out
  go_wp2
  refine st_region 4 (by kernel_rfl) (by kernel_rfl) ?_
  simp only [List.take_succ_cons, List.take_zero, List.drop_succ_cons, List.drop_zero]
  iterate 4 (refine st_yes (by kernel_rfl) (fun K hK => ?_); go_simp; refine hK _ ?_; clear hK K)
  refine st_end ?_
  go_wp2_with fail
  refine (g1 _).mono ?_
  rintro e w21 ⟨rfl, hb⟩
  have D0 := Aside0.mk (blk_below (blk_drewX B0.out) hb)
  have D1 := Aside0.mk (blk_below (blk_drewX B1.out) hb)
  have D2 := Aside0.mk (below_after (below_drew B2.out) hb)
  clear B0 B1 B2 hb d0 d1 d2 d3 d4 d5 d6 d7 d8
  have C0 := D0
  have C1 := D1
  have C2 := D2
  clear D0 D1 D2
  obtain ⟨d0, d1, d2, d3, d4, d5, d6, d7, d8⟩ := cell9 C1.out
  obtain ⟨e0, e1, e2, e3, e4, e5, e6, e7, e8⟩ := cell9 C0.out
  have fz := fun k => blk_frozen C1.out k
  go_wp2
  rw [rounds_succ]
  go_wp2
  refine st_region 6 (by kernel_rfl) (by kernel_rfl) ?_
  simp only [List.take_succ_cons, List.take_zero, List.drop_succ_cons, List.drop_zero]
  iterate 2 (refine st_yes (by kernel_rfl) (fun K hK => ?_); go_simp; refine hK _ ?_; clear hK K)
  iterate 4 (refine st_no (by kernel_rfl) ?_; simp only [Act.put, List.setIfInBounds_toArray, List.set_cons_zero, List.set_cons_succ])
  refine st_end ?_
  go_wp2
  refine st_region 4 (by kernel_rfl) (by kernel_rfl) ?_
  simp only [List.take_succ_cons, List.take_zero, List.drop_succ_cons, List.drop_zero]
  iterate 4 (refine st_yes (by kernel_rfl) (fun K hK => ?_); go_simp; refine hK _ ?_; clear hK K)
  refine st_end ?_
  go_wp2_with fail
  refine (g2 _).mono ?_
  rintro e w22 ⟨rfl, hb⟩
  have D0 := Aside0.mk (blk_below (blk_drewX (blk_drewX (set9_far C0.out (by simp)))) hb)
  have D1 := Aside0.mk (blk_below (blk_drewX (blk_drewX (set9_blk C1.out))) hb)
  have D2 := Aside0.mk (below_after (below_drew (below_drew (set9_below C2.out (by simp)))) hb)
  clear C0 C1 C2 hb d0 d1 d2 d3 d4 d5 d6 d7 d8 e0 e1 e2 e3 e4 e5 e6 e7 e8 fz
  have C0 := D0
  have C1 := D1
  have C2 := D2
  clear D0 D1 D2
  obtain ⟨d0, d1, d2, d3, d4, d5, d6, d7, d8⟩ := cell9 C1.out
  obtain ⟨e0, e1, e2, e3, e4, e5, e6, e7, e8⟩ := cell9 C0.out
  have fz := fun k => blk_frozen C1.out k
  go_wp2
  rw [rounds_succ]
  go_wp2
  refine st_region 6 (by kernel_rfl) (by kernel_rfl) ?_
  simp only [List.take_succ_cons, List.take_zero, List.drop_succ_cons, List.drop_zero]
  iterate 2 (refine st_yes (by kernel_rfl) (fun K hK => ?_); go_simp; refine hK _ ?_; clear hK K)
  iterate 4 (refine st_no (by kernel_rfl) ?_; simp only [Act.put, List.setIfInBounds_toArray, List.set_cons_zero, List.set_cons_succ])
  refine st_end ?_
  go_wp2
  refine st_region 4 (by kernel_rfl) (by kernel_rfl) ?_
  simp only [List.take_succ_cons, List.take_zero, List.drop_succ_cons, List.drop_zero]
  iterate 4 (refine st_yes (by kernel_rfl) (fun K hK => ?_); go_simp; refine hK _ ?_; clear hK K)
  refine st_end ?_
  go_wp2_with fail
  refine (g3 _).mono ?_
  rintro e w23 ⟨rfl, hb⟩
  have D0 := Aside0.mk (blk_below (blk_drewX (blk_drewX (set9_far C0.out (by simp)))) hb)
  have D1 := Aside0.mk (blk_below (blk_drewX (blk_drewX (set9_blk C1.out))) hb)
  have D2 := Aside0.mk (below_after (below_drew (below_drew (set9_below C2.out (by simp)))) hb)
  clear C0 C1 C2 hb d0 d1 d2 d3 d4 d5 d6 d7 d8 e0 e1 e2 e3 e4 e5 e6 e7 e8 fz
  have C0 := D0
  have C1 := D1
  have C2 := D2
  clear D0 D1 D2
  obtain ⟨d0, d1, d2, d3, d4, d5, d6, d7, d8⟩ := cell9 C1.out
  obtain ⟨e0, e1, e2, e3, e4, e5, e6, e7, e8⟩ := cell9 C0.out
  have fz := fun k => blk_frozen C1.out k
  go_wp2
  rw [rounds_succ]
  go_wp2
  go_ret
  exact ⟨rfl, set9_below C2.out (by simp)⟩

set_option maxHeartbeats 4000000 in
theorem refValid1 (o nm : ByteArray) (n : Int) (w : World) (ho : o.size ≤ 9223372036854775807) (hn : nm.size ≤ 9223372036854775807) (h1 : nameB o = true) (h2 : nameB nm = false) :
    Calls Tryd.prog 28 #[rec10 o nm n] w fun e w' => e = .returned (.bool false) ∧ Below w.heap.size w w' := by
  have f1 := fun w => refField79 o nm n w ho
  have f2 := fun w => refField78 o nm n w hn
  have g1 := fun w => refBlank79 o nm n w
  have g2 := fun w => refBlank78 ⟨#[]⟩ nm n w
  have g3 := fun w => refBlank77 ⟨#[]⟩ ⟨#[]⟩ n w
  rw [h1] at f1
  rw [h2] at f2
  clear h1 h2
  unfold rec10 at f1 f2 g1 g2 g3 ⊢
  go_enter Tryd.func28, Tryd.ntmps28
  go_wp2_with (first | (go_at_call 36; refine (refFields _).mono ?_; rintro e w' ⟨rfl, rfl⟩))
  have A0 : Aside0 (((w.alloc (.cells (recCells o nm n) 38)).alloc (.cells (recCells o nm n) 38)).drew.heap[w.heap.size]? = some (.cells (recCells o nm n) 38 (0, 0))) := ⟨blk_drewX (blk_alloc (blk_new _ _) _)⟩
  have A1 : Aside0 (((w.alloc (.cells (recCells o nm n) 38)).alloc (.cells (recCells o nm n) 38)).drew.heap[w.heap.size + 1]? = some (.cells (recCells o nm n) 38 (0, 0))) := ⟨blk_drewX (by have h := blk_new (w.alloc (.cells (recCells o nm n) 38)) (.cells (recCells o nm n) 38); simpa using h)⟩
  have A2 : Aside0 (Below w.heap.size w ((w.alloc (.cells (recCells o nm n) 38)).alloc (.cells (recCells o nm n) 38)).drew) := ⟨below_drew (below_alloc (below_alloc (Below.refl _ _) _) _)⟩
  refine wp_loop_rounds 4 ?_
  rw [rounds_succ]
  go_wp2
  refine st_region 6 (by kernel_rfl) (by kernel_rfl) ?_
  simp only [List.take_succ_cons, List.take_zero, List.drop_succ_cons, List.drop_zero]
  iterate 6 (refine st_yes (by kernel_rfl) (fun K hK => ?_); go_simp; refine hK _ ?_; clear hK K)
  refine st_end ?_
  go_wp2_with fail
  refine (f1 _).mono ?_
  rintro e w11 ⟨rfl, hb⟩
  have B0 := Aside0.mk (blk_below A0.out hb)
  have B1 := Aside0.mk (blk_below A1.out hb)
  have B2 := Aside0.mk (below_after A2.out hb)
  clear A0 A1 A2 hb
  obtain ⟨d0, d1, d2, d3, d4, d5, d6, d7, d8⟩ := cell9 B1.out
  go_wp2
  refine st_region 4 (by kernel_rfl) (by kernel_rfl) ?_
  simp only [List.take_succ_cons, List.take_zero, List.drop_succ_cons, List.drop_zero]
  iterate 4 (refine st_yes (by kernel_rfl) (fun K hK => ?_); go_simp; refine hK _ ?_; clear hK K)
  refine st_end ?_
  go_wp2_with fail
  refine (g1 _).mono ?_
  rintro e w21 ⟨rfl, hb⟩
  have D0 := Aside0.mk (blk_below (blk_drewX B0.out) hb)
  have D1 := Aside0.mk (blk_below (blk_drewX B1.out) hb)
  have D2 := Aside0.mk (below_after (below_drew B2.out) hb)
  clear B0 B1 B2 hb d0 d1 d2 d3 d4 d5 d6 d7 d8
  have C0 := D0
  have C1 := D1
  have C2 := D2
  clear D0 D1 D2
  obtain ⟨d0, d1, d2, d3, d4, d5, d6, d7, d8⟩ := cell9 C1.out
  obtain ⟨e0, e1, e2, e3, e4, e5, e6, e7, e8⟩ := cell9 C0.out
  have fz := fun k => blk_frozen C1.out k
  go_wp2
  rw [rounds_succ]
  go_wp2
  refine st_region 6 (by kernel_rfl) (by kernel_rfl) ?_
  simp only [List.take_succ_cons, List.take_zero, List.drop_succ_cons, List.drop_zero]
  iterate 6 (refine st_yes (by kernel_rfl) (fun K hK => ?_); go_simp; refine hK _ ?_; clear hK K)
  refine st_end ?_
  go_wp2_with fail
  refine (f2 _).mono ?_
  rintro e w12 ⟨rfl, hb⟩
  have B0 := Aside0.mk (blk_below (blk_drewX (set9_far C0.out (by simp))) hb)
  have B1 := Aside0.mk (blk_below (blk_drewX (set9_blk C1.out)) hb)
  have B2 := Aside0.mk (below_after (below_drew (set9_below C2.out (by simp))) hb)
  clear C0 C1 C2 d0 d1 d2 d3 d4 d5 d6 d7 d8 e0 e1 e2 e3 e4 e5 e6 e7 e8 fz hb
  obtain ⟨d0, d1, d2, d3, d4, d5, d6, d7, d8⟩ := cell9 B1.out
  go_wp2
  refine st_region 4 (by kernel_rfl) (by kernel_rfl) ?_
  simp only [List.take_succ_cons, List.take_zero, List.drop_succ_cons, List.drop_zero]
  iterate 4 (refine st_yes (by kernel_rfl) (fun K hK => ?_); go_simp; refine hK _ ?_; clear hK K)
  refine st_end ?_
  go_wp2_with fail
  refine (g2 _).mono ?_
  rintro e w22 ⟨rfl, hb⟩
  have D0 := Aside0.mk (blk_below (blk_drewX B0.out) hb)
  have D1 := Aside0.mk (blk_below (blk_drewX B1.out) hb)
  have D2 := Aside0.mk (below_after (below_drew B2.out) hb)
  clear B0 B1 B2 hb d0 d1 d2 d3 d4 d5 d6 d7 d8
  have C0 := D0
  have C1 := D1
  have C2 := D2
  clear D0 D1 D2
  obtain ⟨d0, d1, d2, d3, d4, d5, d6, d7, d8⟩ := cell9 C1.out
  obtain ⟨e0, e1, e2, e3, e4, e5, e6, e7, e8⟩ := cell9 C0.out
  have fz := fun k => blk_frozen C1.out k
  go_wp2
  rw [rounds_succ]
  go_wp2
  refine st_region 6 (by kernel_rfl) (by kernel_rfl) ?_
  simp only [List.take_succ_cons, List.take_zero, List.drop_succ_cons, List.drop_zero]
  iterate 2 (refine st_yes (by kernel_rfl) (fun K hK => ?_); go_simp; refine hK _ ?_; clear hK K)
  iterate 4 (refine st_no (by kernel_rfl) ?_; simp only [Act.put, List.setIfInBounds_toArray, List.set_cons_zero, List.set_cons_succ])
  refine st_end ?_
  go_wp2
  refine st_region 4 (by kernel_rfl) (by kernel_rfl) ?_
  simp only [List.take_succ_cons, List.take_zero, List.drop_succ_cons, List.drop_zero]
  iterate 4 (refine st_yes (by kernel_rfl) (fun K hK => ?_); go_simp; refine hK _ ?_; clear hK K)
  refine st_end ?_
  go_wp2_with fail
  refine (g3 _).mono ?_
  rintro e w23 ⟨rfl, hb⟩
  have D0 := Aside0.mk (blk_below (blk_drewX (blk_drewX (set9_far C0.out (by simp)))) hb)
  have D1 := Aside0.mk (blk_below (blk_drewX (blk_drewX (set9_blk C1.out))) hb)
  have D2 := Aside0.mk (below_after (below_drew (below_drew (set9_below C2.out (by simp)))) hb)
  clear C0 C1 C2 hb d0 d1 d2 d3 d4 d5 d6 d7 d8 e0 e1 e2 e3 e4 e5 e6 e7 e8 fz
  have C0 := D0
  have C1 := D1
  have C2 := D2
  clear D0 D1 D2
  obtain ⟨d0, d1, d2, d3, d4, d5, d6, d7, d8⟩ := cell9 C1.out
  obtain ⟨e0, e1, e2, e3, e4, e5, e6, e7, e8⟩ := cell9 C0.out
  have fz := fun k => blk_frozen C1.out k
  go_wp2
  rw [rounds_succ]
  go_wp2
  go_ret
  exact ⟨rfl, set9_below C2.out (by simp)⟩

set_option maxHeartbeats 4000000 in
theorem refValid2 (o nm : ByteArray) (n : Int) (w : World) (ho : o.size ≤ 9223372036854775807) (hn : nm.size ≤ 9223372036854775807) (h1 : nameB o = true) (h2 : nameB nm = true) (h3 : isIntB n = false) :
    Calls Tryd.prog 28 #[rec10 o nm n] w fun e w' => e = .returned (.bool false) ∧ Below w.heap.size w w' := by
  have f1 := fun w => refField79 o nm n w ho
  have f2 := fun w => refField78 o nm n w hn
  have f3 := fun w => refField77 o nm n w
  have g1 := fun w => refBlank79 o nm n w
  have g2 := fun w => refBlank78 ⟨#[]⟩ nm n w
  have g3 := fun w => refBlank77 ⟨#[]⟩ ⟨#[]⟩ n w
  rw [h1] at f1
  rw [h2] at f2
  rw [h3] at f3
  clear h1 h2 h3
  unfold rec10 at f1 f2 f3 g1 g2 g3 ⊢
  go_enter Tryd.func28, Tryd.ntmps28
  go_wp2_with (first | (go_at_call 36; refine (refFields _).mono ?_; rintro e w' ⟨rfl, rfl⟩))
  have A0 : Aside0 (((w.alloc (.cells (recCells o nm n) 38)).alloc (.cells (recCells o nm n) 38)).drew.heap[w.heap.size]? = some (.cells (recCells o nm n) 38 (0, 0))) := ⟨blk_drewX (blk_alloc (blk_new _ _) _)⟩
  have A1 : Aside0 (((w.alloc (.cells (recCells o nm n) 38)).alloc (.cells (recCells o nm n) 38)).drew.heap[w.heap.size + 1]? = some (.cells (recCells o nm n) 38 (0, 0))) := ⟨blk_drewX (by have h := blk_new (w.alloc (.cells (recCells o nm n) 38)) (.cells (recCells o nm n) 38); simpa using h)⟩
  have A2 : Aside0 (Below w.heap.size w ((w.alloc (.cells (recCells o nm n) 38)).alloc (.cells (recCells o nm n) 38)).drew) := ⟨below_drew (below_alloc (below_alloc (Below.refl _ _) _) _)⟩
  refine wp_loop_rounds 4 ?_
  rw [rounds_succ]
  go_wp2
  refine st_region 6 (by kernel_rfl) (by kernel_rfl) ?_
  simp only [List.take_succ_cons, List.take_zero, List.drop_succ_cons, List.drop_zero]
  iterate 6 (refine st_yes (by kernel_rfl) (fun K hK => ?_); go_simp; refine hK _ ?_; clear hK K)
  refine st_end ?_
  go_wp2_with fail
  refine (f1 _).mono ?_
  rintro e w11 ⟨rfl, hb⟩
  have B0 := Aside0.mk (blk_below A0.out hb)
  have B1 := Aside0.mk (blk_below A1.out hb)
  have B2 := Aside0.mk (below_after A2.out hb)
  clear A0 A1 A2 hb
  obtain ⟨d0, d1, d2, d3, d4, d5, d6, d7, d8⟩ := cell9 B1.out
  go_wp2
  refine st_region 4 (by kernel_rfl) (by kernel_rfl) ?_
  simp only [List.take_succ_cons, List.take_zero, List.drop_succ_cons, List.drop_zero]
  iterate 4 (refine st_yes (by kernel_rfl) (fun K hK => ?_); go_simp; refine hK _ ?_; clear hK K)
  refine st_end ?_
  go_wp2_with fail
  refine (g1 _).mono ?_
  rintro e w21 ⟨rfl, hb⟩
  have D0 := Aside0.mk (blk_below (blk_drewX B0.out) hb)
  have D1 := Aside0.mk (blk_below (blk_drewX B1.out) hb)
  have D2 := Aside0.mk (below_after (below_drew B2.out) hb)
  clear B0 B1 B2 hb d0 d1 d2 d3 d4 d5 d6 d7 d8
  have C0 := D0
  have C1 := D1
  have C2 := D2
  clear D0 D1 D2
  obtain ⟨d0, d1, d2, d3, d4, d5, d6, d7, d8⟩ := cell9 C1.out
  obtain ⟨e0, e1, e2, e3, e4, e5, e6, e7, e8⟩ := cell9 C0.out
  have fz := fun k => blk_frozen C1.out k
  go_wp2
  rw [rounds_succ]
  go_wp2
  refine st_region 6 (by kernel_rfl) (by kernel_rfl) ?_
  simp only [List.take_succ_cons, List.take_zero, List.drop_succ_cons, List.drop_zero]
  iterate 6 (refine st_yes (by kernel_rfl) (fun K hK => ?_); go_simp; refine hK _ ?_; clear hK K)
  refine st_end ?_
  go_wp2_with fail
  refine (f2 _).mono ?_
  rintro e w12 ⟨rfl, hb⟩
  have B0 := Aside0.mk (blk_below (blk_drewX (set9_far C0.out (by simp))) hb)
  have B1 := Aside0.mk (blk_below (blk_drewX (set9_blk C1.out)) hb)
  have B2 := Aside0.mk (below_after (below_drew (set9_below C2.out (by simp))) hb)
  clear C0 C1 C2 d0 d1 d2 d3 d4 d5 d6 d7 d8 e0 e1 e2 e3 e4 e5 e6 e7 e8 fz hb
  obtain ⟨d0, d1, d2, d3, d4, d5, d6, d7, d8⟩ := cell9 B1.out
  go_wp2
  refine st_region 4 (by kernel_rfl) (by kernel_rfl) ?_
  simp only [List.take_succ_cons, List.take_zero, List.drop_succ_cons, List.drop_zero]
  iterate 4 (refine st_yes (by kernel_rfl) (fun K hK => ?_); go_simp; refine hK _ ?_; clear hK K)
  refine st_end ?_
  go_wp2_with fail
  refine (g2 _).mono ?_
  rintro e w22 ⟨rfl, hb⟩
  have D0 := Aside0.mk (blk_below (blk_drewX B0.out) hb)
  have D1 := Aside0.mk (blk_below (blk_drewX B1.out) hb)
  have D2 := Aside0.mk (below_after (below_drew B2.out) hb)
  clear B0 B1 B2 hb d0 d1 d2 d3 d4 d5 d6 d7 d8
  have C0 := D0
  have C1 := D1
  have C2 := D2
  clear D0 D1 D2
  obtain ⟨d0, d1, d2, d3, d4, d5, d6, d7, d8⟩ := cell9 C1.out
  obtain ⟨e0, e1, e2, e3, e4, e5, e6, e7, e8⟩ := cell9 C0.out
  have fz := fun k => blk_frozen C1.out k
  go_wp2
  rw [rounds_succ]
  go_wp2
  refine st_region 6 (by kernel_rfl) (by kernel_rfl) ?_
  simp only [List.take_succ_cons, List.take_zero, List.drop_succ_cons, List.drop_zero]
  iterate 6 (refine st_yes (by kernel_rfl) (fun K hK => ?_); go_simp; refine hK _ ?_; clear hK K)
  refine st_end ?_
  go_wp2_with fail
  refine (f3 _).mono ?_
  rintro e w13 ⟨rfl, hb⟩
  have B0 := Aside0.mk (blk_below (blk_drewX (set9_far C0.out (by simp))) hb)
  have B1 := Aside0.mk (blk_below (blk_drewX (set9_blk C1.out)) hb)
  have B2 := Aside0.mk (below_after (below_drew (set9_below C2.out (by simp))) hb)
  clear C0 C1 C2 d0 d1 d2 d3 d4 d5 d6 d7 d8 e0 e1 e2 e3 e4 e5 e6 e7 e8 fz hb
  obtain ⟨d0, d1, d2, d3, d4, d5, d6, d7, d8⟩ := cell9 B1.out
  go_wp2
  refine st_region 4 (by kernel_rfl) (by kernel_rfl) ?_
  simp only [List.take_succ_cons, List.take_zero, List.drop_succ_cons, List.drop_zero]
  iterate 4 (refine st_yes (by kernel_rfl) (fun K hK => ?_); go_simp; refine hK _ ?_; clear hK K)
  refine st_end ?_
  go_wp2_with fail
  refine (g3 _).mono ?_
  rintro e w23 ⟨rfl, hb⟩
  have D0 := Aside0.mk (blk_below (blk_drewX B0.out) hb)
  have D1 := Aside0.mk (blk_below (blk_drewX B1.out) hb)
  have D2 := Aside0.mk (below_after (below_drew B2.out) hb)
  clear B0 B1 B2 hb d0 d1 d2 d3 d4 d5 d6 d7 d8
  have C0 := D0
  have C1 := D1
  have C2 := D2
  clear D0 D1 D2
  obtain ⟨d0, d1, d2, d3, d4, d5, d6, d7, d8⟩ := cell9 C1.out
  obtain ⟨e0, e1, e2, e3, e4, e5, e6, e7, e8⟩ := cell9 C0.out
  have fz := fun k => blk_frozen C1.out k
  go_wp2
  rw [rounds_succ]
  go_wp2
  go_ret
  exact ⟨rfl, set9_below C2.out (by simp)⟩

set_option maxHeartbeats 4000000 in
theorem refValid3 (o nm : ByteArray) (n : Int) (w : World) (ho : o.size ≤ 9223372036854775807) (hn : nm.size ≤ 9223372036854775807) (h1 : nameB o = true) (h2 : nameB nm = true) (h3 : isIntB n = true) :
    Calls Tryd.prog 28 #[rec10 o nm n] w fun e w' => e = .returned (.bool true) ∧ Below w.heap.size w w' := by
  have f1 := fun w => refField79 o nm n w ho
  have f2 := fun w => refField78 o nm n w hn
  have f3 := fun w => refField77 o nm n w
  have g1 := fun w => refBlank79 o nm n w
  have g2 := fun w => refBlank78 ⟨#[]⟩ nm n w
  have g3 := fun w => refBlank77 ⟨#[]⟩ ⟨#[]⟩ n w
  have sm := fun w => refSame 10 ⟨#[]⟩ ⟨#[]⟩ 0 w
  unfold recK at sm
  rw [h1] at f1
  rw [h2] at f2
  rw [h3] at f3
  clear h1 h2 h3
  unfold rec10 at f1 f2 f3 g1 g2 g3 ⊢
  go_enter Tryd.func28, Tryd.ntmps28
  go_wp2_with (first | (go_at_call 36; refine (refFields _).mono ?_; rintro e w' ⟨rfl, rfl⟩))
  have A0 : Aside0 (((w.alloc (.cells (recCells o nm n) 38)).alloc (.cells (recCells o nm n) 38)).drew.heap[w.heap.size]? = some (.cells (recCells o nm n) 38 (0, 0))) := ⟨blk_drewX (blk_alloc (blk_new _ _) _)⟩
  have A1 : Aside0 (((w.alloc (.cells (recCells o nm n) 38)).alloc (.cells (recCells o nm n) 38)).drew.heap[w.heap.size + 1]? = some (.cells (recCells o nm n) 38 (0, 0))) := ⟨blk_drewX (by have h := blk_new (w.alloc (.cells (recCells o nm n) 38)) (.cells (recCells o nm n) 38); simpa using h)⟩
  have A2 : Aside0 (Below w.heap.size w ((w.alloc (.cells (recCells o nm n) 38)).alloc (.cells (recCells o nm n) 38)).drew) := ⟨below_drew (below_alloc (below_alloc (Below.refl _ _) _) _)⟩
  refine wp_loop_rounds 4 ?_
  rw [rounds_succ]
  go_wp2
  refine st_region 6 (by kernel_rfl) (by kernel_rfl) ?_
  simp only [List.take_succ_cons, List.take_zero, List.drop_succ_cons, List.drop_zero]
  iterate 6 (refine st_yes (by kernel_rfl) (fun K hK => ?_); go_simp; refine hK _ ?_; clear hK K)
  refine st_end ?_
  go_wp2_with fail
  refine (f1 _).mono ?_
  rintro e w11 ⟨rfl, hb⟩
  have B0 := Aside0.mk (blk_below A0.out hb)
  have B1 := Aside0.mk (blk_below A1.out hb)
  have B2 := Aside0.mk (below_after A2.out hb)
  clear A0 A1 A2 hb
  obtain ⟨d0, d1, d2, d3, d4, d5, d6, d7, d8⟩ := cell9 B1.out
  go_wp2
  refine st_region 4 (by kernel_rfl) (by kernel_rfl) ?_
  simp only [List.take_succ_cons, List.take_zero, List.drop_succ_cons, List.drop_zero]
  iterate 4 (refine st_yes (by kernel_rfl) (fun K hK => ?_); go_simp; refine hK _ ?_; clear hK K)
  refine st_end ?_
  go_wp2_with fail
  refine (g1 _).mono ?_
  rintro e w21 ⟨rfl, hb⟩
  have D0 := Aside0.mk (blk_below (blk_drewX B0.out) hb)
  have D1 := Aside0.mk (blk_below (blk_drewX B1.out) hb)
  have D2 := Aside0.mk (below_after (below_drew B2.out) hb)
  clear B0 B1 B2 hb d0 d1 d2 d3 d4 d5 d6 d7 d8
  have C0 := D0
  have C1 := D1
  have C2 := D2
  clear D0 D1 D2
  obtain ⟨d0, d1, d2, d3, d4, d5, d6, d7, d8⟩ := cell9 C1.out
  obtain ⟨e0, e1, e2, e3, e4, e5, e6, e7, e8⟩ := cell9 C0.out
  have fz := fun k => blk_frozen C1.out k
  go_wp2
  rw [rounds_succ]
  go_wp2
  refine st_region 6 (by kernel_rfl) (by kernel_rfl) ?_
  simp only [List.take_succ_cons, List.take_zero, List.drop_succ_cons, List.drop_zero]
  iterate 6 (refine st_yes (by kernel_rfl) (fun K hK => ?_); go_simp; refine hK _ ?_; clear hK K)
  refine st_end ?_
  go_wp2_with fail
  refine (f2 _).mono ?_
  rintro e w12 ⟨rfl, hb⟩
  have B0 := Aside0.mk (blk_below (blk_drewX (set9_far C0.out (by simp))) hb)
  have B1 := Aside0.mk (blk_below (blk_drewX (set9_blk C1.out)) hb)
  have B2 := Aside0.mk (below_after (below_drew (set9_below C2.out (by simp))) hb)
  clear C0 C1 C2 d0 d1 d2 d3 d4 d5 d6 d7 d8 e0 e1 e2 e3 e4 e5 e6 e7 e8 fz hb
  obtain ⟨d0, d1, d2, d3, d4, d5, d6, d7, d8⟩ := cell9 B1.out
  go_wp2
  refine st_region 4 (by kernel_rfl) (by kernel_rfl) ?_
  simp only [List.take_succ_cons, List.take_zero, List.drop_succ_cons, List.drop_zero]
  iterate 4 (refine st_yes (by kernel_rfl) (fun K hK => ?_); go_simp; refine hK _ ?_; clear hK K)
  refine st_end ?_
  go_wp2_with fail
  refine (g2 _).mono ?_
  rintro e w22 ⟨rfl, hb⟩
  have D0 := Aside0.mk (blk_below (blk_drewX B0.out) hb)
  have D1 := Aside0.mk (blk_below (blk_drewX B1.out) hb)
  have D2 := Aside0.mk (below_after (below_drew B2.out) hb)
  clear B0 B1 B2 hb d0 d1 d2 d3 d4 d5 d6 d7 d8
  have C0 := D0
  have C1 := D1
  have C2 := D2
  clear D0 D1 D2
  obtain ⟨d0, d1, d2, d3, d4, d5, d6, d7, d8⟩ := cell9 C1.out
  obtain ⟨e0, e1, e2, e3, e4, e5, e6, e7, e8⟩ := cell9 C0.out
  have fz := fun k => blk_frozen C1.out k
  go_wp2
  rw [rounds_succ]
  go_wp2
  refine st_region 6 (by kernel_rfl) (by kernel_rfl) ?_
  simp only [List.take_succ_cons, List.take_zero, List.drop_succ_cons, List.drop_zero]
  iterate 6 (refine st_yes (by kernel_rfl) (fun K hK => ?_); go_simp; refine hK _ ?_; clear hK K)
  refine st_end ?_
  go_wp2_with fail
  refine (f3 _).mono ?_
  rintro e w13 ⟨rfl, hb⟩
  have B0 := Aside0.mk (blk_below (blk_drewX (set9_far C0.out (by simp))) hb)
  have B1 := Aside0.mk (blk_below (blk_drewX (set9_blk C1.out)) hb)
  have B2 := Aside0.mk (below_after (below_drew (set9_below C2.out (by simp))) hb)
  clear C0 C1 C2 d0 d1 d2 d3 d4 d5 d6 d7 d8 e0 e1 e2 e3 e4 e5 e6 e7 e8 fz hb
  obtain ⟨d0, d1, d2, d3, d4, d5, d6, d7, d8⟩ := cell9 B1.out
  go_wp2
  refine st_region 4 (by kernel_rfl) (by kernel_rfl) ?_
  simp only [List.take_succ_cons, List.take_zero, List.drop_succ_cons, List.drop_zero]
  iterate 4 (refine st_yes (by kernel_rfl) (fun K hK => ?_); go_simp; refine hK _ ?_; clear hK K)
  refine st_end ?_
  go_wp2_with fail
  refine (g3 _).mono ?_
  rintro e w23 ⟨rfl, hb⟩
  have D0 := Aside0.mk (blk_below (blk_drewX B0.out) hb)
  have D1 := Aside0.mk (blk_below (blk_drewX B1.out) hb)
  have D2 := Aside0.mk (below_after (below_drew B2.out) hb)
  clear B0 B1 B2 hb d0 d1 d2 d3 d4 d5 d6 d7 d8
  have C0 := D0
  have C1 := D1
  have C2 := D2
  clear D0 D1 D2
  obtain ⟨d0, d1, d2, d3, d4, d5, d6, d7, d8⟩ := cell9 C1.out
  obtain ⟨e0, e1, e2, e3, e4, e5, e6, e7, e8⟩ := cell9 C0.out
  have fz := fun k => blk_frozen C1.out k
  go_wp2
  rw [rounds_succ]
  go_wp2_with fail
  refine (sm _).mono ?_
  rintro e w4 ⟨rfl, hb⟩
  have HE := Aside0.mk (below_after (set9_below C2.out (by simp)) hb)
  clear hb
  go_wp2
  go_ret
  exact ⟨rfl, HE.out⟩

/-- justiciarref20.Valid of a record of a sequence's mark. -/
theorem refValid (o nm : ByteArray) (n : Int) (w : World) (ho : o.size ≤ 9223372036854775807) (hn : nm.size ≤ 9223372036854775807) :
    Calls Tryd.prog 28 #[rec10 o nm n] w fun e w' => e = .returned (.bool (nameB o && (nameB nm && isIntB n))) ∧ Below w.heap.size w w' := by
  cases h1 : nameB o with
  | false => exact refValid0 o nm n w ho hn h1
  | true =>
    cases h2 : nameB nm with
    | false => exact refValid1 o nm n w ho hn h1 h2
    | true =>
      cases h3 : isIntB n with
      | false => exact refValid2 o nm n w ho hn h1 h2 h3
      | true => exact refValid3 o nm n w ho hn h1 h2 h3
end Go.Proofs.YtinidfeoellmhaaDoor
