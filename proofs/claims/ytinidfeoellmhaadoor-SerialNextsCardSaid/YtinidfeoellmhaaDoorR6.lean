import Derived.Test.YtinidfeoellmhaaDoorR5
import Derived.Test.YtinidfeoellmhaaDoorH6
import Derived.LoopN
namespace Go.Proofs.YtinidfeoellmhaaDoor
open Go.RowKit Go.Proofs.YtinidfeoellmhaaDoorW.PrintWords
set_option linter.unusedVariables false
set_option linter.unusedSimpArgs false

theorem newV_form (s b c : Int) : ∃ (x1 x2 x3 : Int) (x4 : Bool) (E : Int), newV s b c = .tuple #[.agg #[.int .i64 x1, .int .i64 x2, .int .i64 x3, .bool x4], .int .i64 E] := by
  unfold newV cachedV; split <;> exact ⟨_, _, _, _, _, rfl⟩
theorem recV_form (s b c m : Int) (so : Bool) : ∃ (x1 x2 x3 : Int) (x4 : Bool) (E : Int), recV s b c m so = .tuple #[.agg #[.int .i64 x1, .int .i64 x2, .int .i64 x3, .bool x4], .int .i64 E] := by
  rw [recV_eq]; exact ⟨_, _, _, _, _, rfl⟩
theorem recRes_form (o nm : ByteArray) (n : Int) : ∃ (k : Int) (o' nm' : ByteArray) (n' E : Int), recRes o nm n = .tuple #[recK k o' nm' n', .int .i64 E] := by
  unfold recRes rec10 recZero recK; split <;> exact ⟨_, _, _, _, _, rfl⟩

theorem set4n_blk {w : World} {gg t : Nat} {a b c d a' b' c' d' : Value} (hb : w.heap[gg]? = some (.cells #[a, b, c, d] t (0, 0))) :
    ((((w.setCell ⟨gg, 0, none⟩ a').setCell ⟨gg, 1, none⟩ b').setCell ⟨gg, 2, none⟩ c').setCell ⟨gg, 3, none⟩ d').heap[gg]? = some (.cells #[a', b', c', d'] t (0, 0)) := by
  have := blk_set (blk_set (blk_set (blk_set hb 0 a') 1 b') 2 c') 3 d'
  simpa using this
theorem set4n_far {w : World} {g gg t : Nat} {cs : Array Value} {a' b' c' d' : Value} (hb : w.heap[g]? = some (.cells cs t (0, 0))) (hg : g ≠ gg) :
    ((((w.setCell ⟨gg, 0, none⟩ a').setCell ⟨gg, 1, none⟩ b').setCell ⟨gg, 2, none⟩ c').setCell ⟨gg, 3, none⟩ d').heap[g]? = some (.cells cs t (0, 0)) :=
  blk_far (blk_far (blk_far (blk_far hb hg _) hg _) hg _) hg _
theorem set4n_below {B : Nat} {w0 w : World} {gg : Nat} {a' b' c' d' : Value} (h : Below B w0 w) (hg : B ≤ gg) :
    Below B w0 ((((w.setCell ⟨gg, 0, none⟩ a').setCell ⟨gg, 1, none⟩ b').setCell ⟨gg, 2, none⟩ c').setCell ⟨gg, 3, none⟩ d') :=
  below_set2 (below_set2 (below_set2 (below_set2 h _ _ hg) _ _ hg) _ _ hg) _ _ hg
theorem cell2a {w : World} {g t : Nat} {a b : Value} (h : w.heap[g]? = some (.cells #[a, b] t (0, 0))) : w.cell? ⟨g, 0, none⟩ = some a := (blk_cell h 0).trans rfl
theorem cell2b {w : World} {g t : Nat} {a b : Value} (h : w.heap[g]? = some (.cells #[a, b] t (0, 0))) : w.cell? ⟨g, 1, none⟩ = some b := (blk_cell h 1).trans rfl
theorem blk_newAt {W : World} {o : Obj} {g : Nat} (h : W.heap.size = g) : (W.alloc o).heap[g]? = some o := by rw [← h]; exact blk_new W o
set_option maxHeartbeats 8000000 in
set_option maxRecDepth 100000 in
theorem law_nexts (s b c n l m : Int) (so : Bool) (o nm : ByteArray) (w : World) (ho : o.size ≤ 9223372036854775807) (hn : nm.size ≤ 9223372036854775807) :
    Calls Tryd.prog 3 #[.agg #[.int .i64 s, .int .i64 b, .int .i64 c], .agg #[.int .i64 n, .int .i64 l, .int .i64 m, .bool so], .agg #[.string o, .string nm]] w fun e w' => e = .returned (.bool true) ∧ Below w.heap.size w w' := by
  have k8 := fun W => srv_new s b c W
  have k9 := fun W => ref_new s b c W
  obtain ⟨x1, x2, x3, x4, E, hN⟩ := newV_form s b c
  rw [hN] at k8 k9
  clear hN
  have kf := fun W => srv_recover s b c m false W
  have kg := fun W => ref_recover s b c m false W
  have kt := fun W => srv_recover s b c m true W
  have ku := fun W => ref_recover s b c m true W
  obtain ⟨y1, y2, y3, y4, E1, hF⟩ := recV_form s b c m false
  obtain ⟨z1, z2, z3, z4, E2, hT⟩ := recV_form s b c m true
  rw [hF] at kf kg
  rw [hT] at kt ku
  clear hF hT
  have k14 := fun W => srv_rec o nm m W ho hn
  have k15 := fun W => ref_rec o nm m W ho hn
  obtain ⟨kk, o', nm', n', E3, hX⟩ := recRes_form o nm m
  rw [hX] at k14 k15
  clear hX
  have k16 := fun W => refSame kk o' nm' n' W
  unfold recK at k14 k15 k16
  go_enter Tryd.func3, Tryd.ntmps3
  have k10 := fun W => srv_next s b c n l m so W
  have k11 := fun W => ref_next s b c n l m so W
  obtain ⟨R, hR⟩ : ∃ R, nextR s b c n l m so = R := ⟨_, rfl⟩
  rw [hR] at k10 k11
  clear hR
  unfold NextR.v tupV at k10 k11
  go_wp2_with (first | (go_at_call 8; refine (k8 _).mono ?_; rintro e w' ⟨rfl, o1, o2, o3, rfl⟩) | (go_at_call 9; refine (k9 _).mono ?_; rintro e w' ⟨rfl, o4, o5, o6, rfl⟩))
  clear k8 k9
  refine (k10 _).mono ?_
  clear k10
  rintro e w1 ⟨rfl, hb⟩
  have G0 := Aside0.mk (blk_below (g := w.heap.size) (o := .cells #[.int .i64 s, .int .i64 b, .int .i64 c] 23) (by repeat (first | (refine blk_newAt ?_; simp; done) | refine blk_alloc ?_ _)) hb)
  have G1 := Aside0.mk (blk_below (g := w.heap.size + 1) (o := .cells #[.int .i64 n, .int .i64 l, .int .i64 m, .bool so] 25) (by repeat (first | (refine blk_newAt ?_; simp; done) | refine blk_alloc ?_ _)) hb)
  have G2 := Aside0.mk (blk_below (g := w.heap.size + 1 + 1) (o := .cells #[.string o, .string nm] 26) (by repeat (first | (refine blk_newAt ?_; simp; done) | refine blk_alloc ?_ _)) hb)
  have GX := Aside0.mk (blk_below (g := w.heap.size + 1 + 1 + 1 + 1 + 1 + 1) (o := .cells #[.int .i64 x1, .int .i64 x2, .int .i64 x3, .bool x4] 25) (by repeat (first | (refine blk_newAt ?_; simp; done) | refine blk_alloc ?_ _)) hb)
  have GY := Aside0.mk (blk_below (g := w.heap.size + 1 + 1 + 1 + 1 + 1 + 1 + 1 + 1 + 1 + 1) (o := .cells #[.int .i64 x1, .int .i64 x2, .int .i64 x3, .bool x4] 25) (by repeat (first | (refine blk_newAt ?_; simp; done) | refine blk_alloc ?_ _)) hb)
  have GB : Aside0 (Below w.heap.size w w1) := ⟨below_after (by repeat (first | exact Below.refl _ _ | apply below_alloc)) hb⟩
  clear hb
  generalize hgY : w.heap.size + 1 + 1 + 1 + 1 + 1 + 1 + 1 + 1 + 1 + 1 = gY at GY ⊢
  generalize hgX : w.heap.size + 1 + 1 + 1 + 1 + 1 + 1 = gX at GX ⊢
  generalize hg2 : w.heap.size + 1 + 1 = g2 at G2 ⊢
  generalize hg1 : w.heap.size + 1 = g1 at G1 ⊢
  have n0X : w.heap.size ≠ gX := by omega
  have n0Y : w.heap.size ≠ gY := by omega
  have n1X : g1 ≠ gX := by omega
  have n1Y : g1 ≠ gY := by omega
  have n2X : g2 ≠ gX := by omega
  have n2Y : g2 ≠ gY := by omega
  have nXY : gX ≠ gY := by omega
  have nYX : gY ≠ gX := by omega
  have lX : w.heap.size ≤ gX := by omega
  have lY : w.heap.size ≤ gY := by omega
  clear hgY hgX hg2 hg1
  obtain ⟨a0, a1, a2⟩ := blk3 G0.out
  obtain ⟨b0, b1, b2, b3, -⟩ := blk4 G1.out
  obtain ⟨p0, p1, p2, p3, -⟩ := blk4 GX.out
  obtain ⟨q0, q1, q2, q3, -⟩ := blk4 GY.out
  have fx := fun k => blk_frozen GX.out k
  have fy := fun k => blk_frozen GY.out k
  go_wp2_with fail
  refine (k11 _).mono ?_
  clear k11
  rintro e w2 ⟨rfl, hb⟩
  have NG0 := Aside0.mk (blk_below (set4n_far G0.out (by assumption)) hb)
  have NG1 := Aside0.mk (blk_below (set4n_far G1.out (by assumption)) hb)
  have NG2 := Aside0.mk (blk_below (set4n_far G2.out (by assumption)) hb)
  have NGX := Aside0.mk (blk_below (set4n_blk GX.out) hb)
  have NGY := Aside0.mk (blk_below (set4n_far GY.out (by assumption)) hb)
  have NGB := Aside0.mk (below_after (set4n_below GB.out (by assumption)) hb)
  clear a0 a1 a2 b0 b1 b2 b3 p0 p1 p2 p3 q0 q1 q2 q3 fx fy
  clear G0 G1 G2 GX GY GB hb 
  have G0 := NG0; clear NG0
  have G1 := NG1; clear NG1
  have G2 := NG2; clear NG2
  have GX := NGX; clear NGX
  have GY := NGY; clear NGY
  have GB := NGB; clear NGB
  obtain ⟨a0, a1, a2⟩ := blk3 G0.out
  obtain ⟨b0, b1, b2, b3, -⟩ := blk4 G1.out
  obtain ⟨p0, p1, p2, p3, -⟩ := blk4 GX.out
  obtain ⟨q0, q1, q2, q3, -⟩ := blk4 GY.out
  have fx := fun k => blk_frozen GX.out k
  have fy := fun k => blk_frozen GY.out k
  go_wp2
  have lS1 := blk_lt GX.out
  have lS2 := blk_lt GY.out
  have nSX : w2.heap.size ≠ gX := by omega
  have nSY : w2.heap.size ≠ gY := by omega
  clear lS1 lS2
  obtain ⟨W, hW⟩ : ∃ W, (((((w2.setCell ⟨gY, 0, none⟩ (.int .i64 R.aN)).setCell ⟨gY, 1, none⟩ (.int .i64 R.aL)).setCell ⟨gY, 2, none⟩ (.int .i64 R.aM)).setCell ⟨gY, 3, none⟩ (.bool R.aS)).alloc (.cells #[.bool false, .bool true] 4)) = W := ⟨_, rfl⟩
  have NG0 := Aside0.mk (blk_alloc (set4n_far (a' := .int .i64 R.aN) (b' := .int .i64 R.aL) (c' := .int .i64 R.aM) (d' := .bool R.aS) G0.out n0Y) (.cells #[.bool false, .bool true] 4))
  have NG1 := Aside0.mk (blk_alloc (set4n_far (a' := .int .i64 R.aN) (b' := .int .i64 R.aL) (c' := .int .i64 R.aM) (d' := .bool R.aS) G1.out n1Y) (.cells #[.bool false, .bool true] 4))
  have NG2 := Aside0.mk (blk_alloc (set4n_far (a' := .int .i64 R.aN) (b' := .int .i64 R.aL) (c' := .int .i64 R.aM) (d' := .bool R.aS) G2.out n2Y) (.cells #[.bool false, .bool true] 4))
  have NGX := Aside0.mk (blk_alloc (set4n_far (a' := .int .i64 R.aN) (b' := .int .i64 R.aL) (c' := .int .i64 R.aM) (d' := .bool R.aS) GX.out nXY) (.cells #[.bool false, .bool true] 4))
  have NGY := Aside0.mk (blk_alloc (set4n_blk (a' := .int .i64 R.aN) (b' := .int .i64 R.aL) (c' := .int .i64 R.aM) (d' := .bool R.aS) GY.out) (.cells #[.bool false, .bool true] 4))
  have NGB := Aside0.mk (below_alloc (set4n_below (a' := .int .i64 R.aN) (b' := .int .i64 R.aL) (c' := .int .i64 R.aM) (d' := .bool R.aS) GB.out lY) (.cells #[.bool false, .bool true] 4))
  have GS : Aside0 ((((((w2.setCell ⟨gY, 0, none⟩ (.int .i64 R.aN)).setCell ⟨gY, 1, none⟩ (.int .i64 R.aL)).setCell ⟨gY, 2, none⟩ (.int .i64 R.aM)).setCell ⟨gY, 3, none⟩ (.bool R.aS)).alloc (.cells #[.bool false, .bool true] 4)).heap[w2.heap.size]? = some (.cells #[.bool false, .bool true] 4)) := ⟨blk_newAt (by simp)⟩
  rw [hW] at NG0 NG1 NG2 NGX NGY NGB GS ⊢
  clear hW a0 a1 a2 b0 b1 b2 b3 p0 p1 p2 p3 q0 q1 q2 q3 fx fy G0 G1 G2 GX GY GB
  have G0 := NG0; clear NG0
  have G1 := NG1; clear NG1
  have G2 := NG2; clear NG2
  have GX := NGX; clear NGX
  have GY := NGY; clear NGY
  have GB := NGB; clear NGB
  generalize w2.heap.size = gS at GS nSX nSY ⊢
  obtain ⟨a0, a1, a2⟩ := blk3 G0.out
  obtain ⟨b0, b1, b2, b3, -⟩ := blk4 G1.out
  have u0 : W.cell? ⟨gS, 0, none⟩ = some (.bool false) := (blk_cell GS.out 0).trans rfl
  have fx := fun k => blk_frozen GX.out k
  obtain ⟨p0, p1, p2, p3, -⟩ := blk4 GX.out
  refine wp_loop_rounds 3 ?_
  rw [rounds_succ]
  go_wp2_with fail
  refine (kf _).mono ?_
  rintro e w3 ⟨rfl, hb⟩
  have NG0 := Aside0.mk (blk_below G0.out hb)
  have NG1 := Aside0.mk (blk_below G1.out hb)
  have NG2 := Aside0.mk (blk_below G2.out hb)
  have NGX := Aside0.mk (blk_below GX.out hb)
  have NGY := Aside0.mk (blk_below GY.out hb)
  have NGS := Aside0.mk (blk_below GS.out hb)
  have NGB := Aside0.mk (below_after GB.out hb)
  clear a0 a1 a2 b0 b1 b2 b3 p0 p1 p2 p3 fx u0 G0 G1 G2 GX GY GS GB hb
  have G0 := NG0; clear NG0
  have G1 := NG1; clear NG1
  have G2 := NG2; clear NG2
  have GX := NGX; clear NGX
  have GY := NGY; clear NGY
  have GS := NGS; clear NGS
  have GB := NGB; clear NGB
  obtain ⟨a0, a1, a2⟩ := blk3 G0.out
  obtain ⟨b0, b1, b2, b3, -⟩ := blk4 G1.out
  have fx := fun k => blk_frozen GX.out k
  obtain ⟨p0, p1, p2, p3, -⟩ := blk4 GX.out
  go_wp2_with fail
  refine (kg _).mono ?_
  rintro e w4 ⟨rfl, hb⟩
  have NG0 := Aside0.mk (blk_below (set4n_far G0.out (by assumption)) hb)
  have NG1 := Aside0.mk (blk_below (set4n_far G1.out (by assumption)) hb)
  have NG2 := Aside0.mk (blk_below (set4n_far G2.out (by assumption)) hb)
  have NGX := Aside0.mk (blk_below (set4n_blk GX.out) hb)
  have NGY := Aside0.mk (blk_below (set4n_far GY.out (by assumption)) hb)
  have NGS := Aside0.mk (blk_below (set4n_far GS.out (by assumption)) hb)
  have NGB := Aside0.mk (below_after (set4n_below GB.out (by assumption)) hb)
  clear a0 a1 a2 b0 b1 b2 b3 p0 p1 p2 p3 fx
  clear G0 G1 G2 GX GY GS GB hb
  have G0 := NG0; clear NG0
  have G1 := NG1; clear NG1
  have G2 := NG2; clear NG2
  have GX := NGX; clear NGX
  have GY := NGY; clear NGY
  have GS := NGS; clear NGS
  have GB := NGB; clear NGB
  obtain ⟨a0, a1, a2⟩ := blk3 G0.out
  obtain ⟨b0, b1, b2, b3, -⟩ := blk4 G1.out
  obtain ⟨p0, p1, p2, p3, -⟩ := blk4 GX.out
  obtain ⟨q0, q1, q2, q3, -⟩ := blk4 GY.out
  have fx := fun k => blk_frozen GX.out k
  have fy := fun k => blk_frozen GY.out k
  have u0 := cell2a GS.out
  have u1 := cell2b GS.out
  have t0 := cell2a G2.out
  have t1 := cell2b G2.out
  go_wp2
  rw [rounds_succ]
  go_wp2_with fail
  refine (kt _).mono ?_
  rintro e w5 ⟨rfl, hb⟩
  have NG0 := Aside0.mk (blk_below (set4n_far G0.out (by assumption)) hb)
  have NG1 := Aside0.mk (blk_below (set4n_far G1.out (by assumption)) hb)
  have NG2 := Aside0.mk (blk_below (set4n_far G2.out (by assumption)) hb)
  have NGX := Aside0.mk (blk_below (set4n_far GX.out (by assumption)) hb)
  have NGY := Aside0.mk (blk_below (set4n_blk GY.out) hb)
  have NGS := Aside0.mk (blk_below (set4n_far GS.out (by assumption)) hb)
  have NGB := Aside0.mk (below_after (set4n_below GB.out (by assumption)) hb)
  clear a0 a1 a2 b0 b1 b2 b3 p0 p1 p2 p3 q0 q1 q2 q3 fx fy u0 u1 t0 t1
  clear G0 G1 G2 GX GY GS GB hb
  have G0 := NG0; clear NG0
  have G1 := NG1; clear NG1
  have G2 := NG2; clear NG2
  have GX := NGX; clear NGX
  have GY := NGY; clear NGY
  have GS := NGS; clear NGS
  have GB := NGB; clear NGB
  obtain ⟨a0, a1, a2⟩ := blk3 G0.out
  obtain ⟨b0, b1, b2, b3, -⟩ := blk4 G1.out
  obtain ⟨p0, p1, p2, p3, -⟩ := blk4 GX.out
  obtain ⟨q0, q1, q2, q3, -⟩ := blk4 GY.out
  have fx := fun k => blk_frozen GX.out k
  have fy := fun k => blk_frozen GY.out k
  have u0 := cell2a GS.out
  have u1 := cell2b GS.out
  have t0 := cell2a G2.out
  have t1 := cell2b G2.out
  go_wp2_with fail
  refine (ku _).mono ?_
  rintro e w6 ⟨rfl, hb⟩
  have NG0 := Aside0.mk (blk_below (set4n_far G0.out (by assumption)) hb)
  have NG1 := Aside0.mk (blk_below (set4n_far G1.out (by assumption)) hb)
  have NG2 := Aside0.mk (blk_below (set4n_far G2.out (by assumption)) hb)
  have NGX := Aside0.mk (blk_below (set4n_blk GX.out) hb)
  have NGY := Aside0.mk (blk_below (set4n_far GY.out (by assumption)) hb)
  have NGS := Aside0.mk (blk_below (set4n_far GS.out (by assumption)) hb)
  have NGB := Aside0.mk (below_after (set4n_below GB.out (by assumption)) hb)
  clear a0 a1 a2 b0 b1 b2 b3 p0 p1 p2 p3 q0 q1 q2 q3 fx fy u0 u1 t0 t1
  clear G0 G1 G2 GX GY GS GB hb
  have G0 := NG0; clear NG0
  have G1 := NG1; clear NG1
  have G2 := NG2; clear NG2
  have GX := NGX; clear NGX
  have GY := NGY; clear NGY
  have GS := NGS; clear NGS
  have GB := NGB; clear NGB
  obtain ⟨a0, a1, a2⟩ := blk3 G0.out
  obtain ⟨b0, b1, b2, b3, -⟩ := blk4 G1.out
  obtain ⟨p0, p1, p2, p3, -⟩ := blk4 GX.out
  obtain ⟨q0, q1, q2, q3, -⟩ := blk4 GY.out
  have fx := fun k => blk_frozen GX.out k
  have fy := fun k => blk_frozen GY.out k
  have u0 := cell2a GS.out
  have u1 := cell2b GS.out
  have t0 := cell2a G2.out
  have t1 := cell2b G2.out
  go_wp2
  rw [rounds_succ]
  go_wp2_with fail
  refine (k14 _).mono ?_
  rintro e w7 ⟨rfl, hb⟩
  have NG0 := Aside0.mk (blk_below (set4n_far G0.out (by assumption)) hb)
  have NG1 := Aside0.mk (blk_below (set4n_far G1.out (by assumption)) hb)
  have NG2 := Aside0.mk (blk_below (set4n_far G2.out (by assumption)) hb)
  have NGX := Aside0.mk (blk_below (set4n_far GX.out (by assumption)) hb)
  have NGY := Aside0.mk (blk_below (set4n_blk GY.out) hb)
  have NGB := Aside0.mk (below_after (set4n_below GB.out (by assumption)) hb)
  clear a0 a1 a2 b0 b1 b2 b3 p0 p1 p2 p3 q0 q1 q2 q3 fx fy u0 u1 t0 t1 G0 G1 G2 GX GY GS GB hb k14 kf kg kt ku
  have G0 := NG0; clear NG0
  have G1 := NG1; clear NG1
  have G2 := NG2; clear NG2
  have GX := NGX; clear NGX
  have GY := NGY; clear NGY
  have GB := NGB; clear NGB
  obtain ⟨b0, b1, b2, b3, -⟩ := blk4 G1.out
  have t0 := cell2a G2.out
  have t1 := cell2b G2.out
  have lt1 := blk_lt G1.out
  have lt2 := blk_lt G2.out
  go_wp2_with fail
  refine (k15 _).mono ?_
  rintro e w8 ⟨rfl, hb⟩
  have GR := Aside0.mk (blk_below (blk_new _ _) hb)
  have NGB := Aside0.mk (below_after (below_alloc GB.out _) hb)
  clear lt1 lt2 b0 b1 b2 b3 t0 t1 G0 G1 G2 GX GY GB hb k15
  generalize w7.heap.size = gR at GR ⊢
  have lt3 := blk_lt GR.out
  obtain ⟨d0, d1, d2, d3, d4, d5, d6, d7, d8⟩ := cell9 GR.out
  go_wp2_with fail
  refine (k16 _).mono ?_
  clear k16
  rintro e w9 ⟨rfl, hb⟩
  have GB := Aside0.mk (below_after (below_alloc NGB.out _) hb)
  clear hb NGB d0 d1 d2 d3 d4 d5 d6 d7 d8 GR lt3
  go_wp2_with (go_at_call 17; refine (awake _).mono ?_; rintro e w' ⟨rfl, hb⟩)
  go_ret
  exact ⟨rfl, below_after GB.out hb⟩
end Go.Proofs.YtinidfeoellmhaaDoor
