/-
  The contracts of serial.Run and of the reference's Run: the numbers and marks that one plain function says; nothing that was there is written. No conditions.
-/
import Derived.Test.YtinidfeoellmhaaDoorH1
namespace Go.Proofs.YtinidfeoellmhaaDoor
open Go.RowKit Go.Proofs.YtinidfeoellmhaaDoorW.PrintWords
set_option linter.unusedVariables false
set_option linter.unusedSimpArgs false

def recS (s b c m : Int) (so : Bool) : Int × Int × Int × Bool :=
  if vldB s b c = true ∧ isIntB m = true then (if so = true then (m + b, 0, m, true) else (s, 0, 0, false)) else (0, 0, 0, false)
def recE (s b c m : Int) : Int := if vldB s b c = true ∧ isIntB m = true then 0 else 2
theorem recV_eq (s b c m : Int) (so : Bool) : recV s b c m so = .tuple #[.agg #[.int .i64 (recS s b c m so).1, .int .i64 (recS s b c m so).2.1, .int .i64 (recS s b c m so).2.2.1, .bool (recS s b c m so).2.2.2], .int .i64 (recE s b c m)] := by
  unfold recV recS recE cachedV
  split
  · split <;> rfl
  · rfl

/-- What Run gives from a state on: the numbers, the marks. -/
def runF (s b c : Int) : List Bool → Int → Int → Int → Bool → List Int → List Int → List Int × List Int
  | [], _, _, _, _, xs, ys => (xs, ys)
  | give :: L, n, l, m, so, xs, ys =>
    if give = false then runF s b c L (recS s b c m so).1 (recS s b c m so).2.1 (recS s b c m so).2.2.1 (recS s b c m so).2.2.2 xs ys
    else if (nextR s b c n l m so).er ≠ 0 then (xs, ys)
    else runF s b c L (nextR s b c n l m so).aN (nextR s b c n l m so).aL (nextR s b c n l m so).aM (nextR s b c n l m so).aS (xs ++ [(nextR s b c n l m so).num]) (if (nextR s b c n l m so).lg = true then ys ++ [(nextR s b c n l m so).mrk] else ys)

def SlI (w : World) (v : Value) (xs : List Int) : Prop := ∃ A c, v = .slice A xs.length c ∧ xs.length ≤ c ∧ ReadsInt w .i64 A xs.length xs
theorem SlI.below {w w1 : World} {v : Value} {xs : List Int} (h : SlI w v xs) (hb : Below w.heap.size w w1) : SlI w1 v xs := by
  obtain ⟨A, c, h1, h2, h3⟩ := h
  exact ⟨A, c, h1, h2, h3.below hb⟩
theorem SlI.own {w : World} {B : Nat} {v : Value} {xs : List Int} (h : w.ownsRow B 3 1 v xs.length (nums .i64 xs)) : SlI w v xs := by
  obtain ⟨A, c, rfl, hl, hr⟩ := own_reads_of_le (enc := Value.int .i64) (d := 0) h
  exact ⟨A, c, rfl, hl, hr⟩

theorem blk4 {w : World} {g t : Nat} {a b c d : Value} (h : w.heap[g]? = some (.cells #[a, b, c, d] t (0, 0))) :
    w.cell? ⟨g, 0, none⟩ = some a ∧ w.cell? ⟨g, 1, none⟩ = some b ∧ w.cell? ⟨g, 2, none⟩ = some c ∧ w.cell? ⟨g, 3, none⟩ = some d ∧ w.frozen? ⟨g, 0, none⟩ = false ∧ w.frozen? ⟨g, 1, none⟩ = false ∧ w.frozen? ⟨g, 2, none⟩ = false ∧ w.frozen? ⟨g, 3, none⟩ = false :=
  ⟨(blk_cell h 0).trans rfl, (blk_cell h 1).trans rfl, (blk_cell h 2).trans rfl, (blk_cell h 3).trans rfl, blk_frozen h 0, blk_frozen h 1, blk_frozen h 2, blk_frozen h 3⟩
theorem blk3 {w : World} {g t : Nat} {a b c : Value} (h : w.heap[g]? = some (.cells #[a, b, c] t (0, 0))) :
    w.cell? ⟨g, 0, none⟩ = some a ∧ w.cell? ⟨g, 1, none⟩ = some b ∧ w.cell? ⟨g, 2, none⟩ = some c :=
  ⟨(blk_cell h 0).trans rfl, (blk_cell h 1).trans rfl, (blk_cell h 2).trans rfl⟩
def set4 (w : World) (g : Nat) (a b c d : Value) : World := (((w.setCell ⟨g, 0, none⟩ a).setCell ⟨g, 1, none⟩ b).setCell ⟨g, 2, none⟩ c).setCell ⟨g, 3, none⟩ d
theorem set4_blk {w : World} {g t : Nat} {a b c d a' b' c' d' : Value} (h : w.heap[g]? = some (.cells #[a, b, c, d] t (0, 0))) : (set4 w g a' b' c' d').heap[g]? = some (.cells #[a', b', c', d'] t (0, 0)) :=
  blk_set (blk_set (blk_set (blk_set h 0 _) 1 _) 2 _) 3 _
theorem set4_keep (w : World) (g : Nat) (a b c d : Value) : KeepBut w (set4 w g a b c d) g none := ((((KeepBut.refl w g none).set_ 0 _).set_ 1 _).set_ 2 _).set_ 3 _
theorem set4_below {B : Nat} {a0 w : World} (h : Below B a0 w) (g : Nat) (hg : B ≤ g) (a b c d : Value) : Below B a0 (set4 w g a b c d) :=
  (((h.setCell (p := ⟨g, 0, none⟩) hg _).setCell (p := ⟨g, 1, none⟩) hg _).setCell (p := ⟨g, 2, none⟩) hg _).setCell (p := ⟨g, 3, none⟩) hg _

theorem drop_at {L : List Bool} {i : Nat} (h : i < L.length) : L.drop i = rdOf false L i :: L.drop (i + 1) := by
  rw [List.drop_eq_getElem_cons h]; simp [rdOf, h]
theorem runF_crash {s b c : Int} {L : List Bool} {i : Nat} {n l m : Int} {so : Bool} {xs ys : List Int} (h : i < L.length) (hg : rdOf false L i = false) :
    runF s b c (L.drop (i + 1)) (recS s b c m so).1 (recS s b c m so).2.1 (recS s b c m so).2.2.1 (recS s b c m so).2.2.2 xs ys = runF s b c (L.drop i) n l m so xs ys := by
  rw [drop_at h, hg]; rfl
theorem runF_stop {s b c : Int} {L : List Bool} {i : Nat} {n l m : Int} {so : Bool} {xs ys : List Int} (h : i < L.length) (hg : rdOf false L i = true) (he : (nextR s b c n l m so).er ≠ 0) :
    (xs, ys) = runF s b c (L.drop i) n l m so xs ys := by
  rw [drop_at h, hg, runF, if_neg (by decide), if_pos he]
theorem runF_next {s b c : Int} {L : List Bool} {i : Nat} {n l m : Int} {so : Bool} {xs ys : List Int} {R : NextR} (h : i < L.length) (hg : rdOf false L i = true) (hR : nextR s b c n l m so = R) (he : R.er = 0) :
    runF s b c (L.drop (i + 1)) R.aN R.aL R.aM R.aS (xs ++ [R.num]) (if R.lg = true then ys ++ [R.mrk] else ys) = runF s b c (L.drop i) n l m so xs ys := by
  rw [drop_at h, hg, runF, if_neg (show ¬ (true = false) by decide), hR, if_neg (show ¬ (R.er ≠ 0) by simp [he])]

theorem keep_app {W w2 : World} {B no : Nat} {v vo v1 : Value} {xo : List Value} (ho : W.ownsRow B 3 1 vo no xo) (ne : NeRow vo v) (hg : W.grownBy w2 v.ownBlock)
    (hat : v1.ownBlock = v.ownBlock ∨ ∃ b, v1.ownBlock = some b ∧ W.heap.size ≤ b) : w2.ownsRow B 3 1 vo no xo ∧ NeRow vo v1 := ⟨own_other ho hg (ne_other (ne_symm ne)), ne_append' ne hat ho⟩

theorem box_at (w : World) (o : Obj) : Value.slice (some ⟨w.heap.size + 1, 0, none⟩) 1 1 = Value.slice (some ⟨(w.alloc o).heap.size, 0, none⟩) 1 1 := by simp

theorem SlI_nil_reads (w : World) : ReadsInt w .i64 none ([] : List Int).length [] := by
  obtain ⟨A, c, h1, h2, h3⟩ := SlI.own (xs := []) (B := 0) (v := .slice none 0 0) (own_nil w 0 3 1)
  cases h1
  exact h3
theorem SlI.nil (w : World) : SlI w (.slice none 0 0) [] := ⟨none, 0, rfl, Nat.le_refl _, SlI_nil_reads w⟩
def runE (s b c : Int) (L : List Bool) : Int := if vldB s b c = true ∧ L.length ≤ 2000 then 0 else 2
def runO (s b c : Int) (L : List Bool) : List Int := if vldB s b c = true ∧ L.length ≤ 2000 then (runF s b c L s 0 0 false [] []).1 else []
def runM (s b c : Int) (L : List Bool) : List Int := if vldB s b c = true ∧ L.length ≤ 2000 then (runF s b c L s 0 0 false [] []).2 else []

theorem info3 : (Tryd.prog.info? 3).map (fun i => (i.zero, i.size, i.bytes)) = some (some (.int .i64 0), 1, 8) := by kernel_rfl

set_option maxHeartbeats 4000000 in
theorem srv_run_ok (s b c : Int) (A : Option Addr) (cp : Nat) (L : List Bool) (w : World) (hr : Aside0 (ReadsOf Value.bool false w A L.length L)) (hcp : L.length ≤ cp) (hv : vldB s b c = true) (hL : L.length ≤ 2000) :
    Calls Tryd.prog 18 #[.agg #[.int .i64 s, .int .i64 b, .int .i64 c], .slice A L.length cp] w fun e w' => ∃ v0 v1, e = .returned (.tuple #[v0, v1, .int .i64 0]) ∧ SlI w' v0 (runF s b c L s 0 0 false [] []).1 ∧ SlI w' v1 (runF s b c L s 0 0 false [] []).2 ∧ Below w.heap.size w w' := by
  have HN : newV s b c = .tuple #[.agg #[.int .i64 s, .int .i64 0, .int .i64 0, .bool false], .int .i64 0] := by rw [newV, if_pos hv]; rfl
  have hL' : ¬ (2000 < (L.length : Int)) := by omega
  obtain ⟨res, hres⟩ : ∃ res, runF s b c L s 0 0 false [] [] = res := ⟨_, rfl⟩
  have HR := Aside0.mk hres
  rw [hres]
  clear hres
  go_enter Tryd.func18, Tryd.ntmps18
  go_wp2_with (first | (go_at_call 8; refine (srv_new _ _ _ _).mono ?_; rintro e w' ⟨rfl, o1, o2, o3, rfl⟩))
  clear HN
  go_loopw [9, 10, 32] (fun v9 v10 v32 wr => ∃ (i : Nat) (xs ys : List Int) (n l m : Int) (so : Bool), i ≤ L.length ∧ v32 = .int .i64 i ∧ Aside0 (wr.ownsRow w.heap.size 3 1 v9 xs.length (nums .i64 xs)) ∧ Aside0 (wr.ownsRow w.heap.size 3 1 v10 ys.length (nums .i64 ys)) ∧ Aside0 (NeRow v9 v10) ∧ Aside0 (wr.heap[w.heap.size]? = some (.cells #[.int .i64 s, .int .i64 b, .int .i64 c] 23 (0, 0))) ∧ Aside0 (wr.heap[w.heap.size + 1 + 1 + 1 + 1]? = some (.cells #[.int .i64 n, .int .i64 l, .int .i64 m, .bool so] 25 (0, 0))) ∧ Aside0 (Below w.heap.size w wr) ∧ Aside0 (xs.length ≤ i ∧ ys.length ≤ i) ∧ Aside0 (runF s b c (L.drop i) n l m so xs ys = res)) (fun _ _ v _ => L.length - (intOf v).toNat)
  case atStart => exact ⟨0, [], [], s, 0, 0, false, by omega, rfl, ⟨own_nil _ _ _ _⟩, ⟨own_nil _ _ _ _⟩, ⟨ne_nil _⟩, ⟨blk_alloc (blk_alloc (blk_alloc (blk_alloc (blk_new _ _) _) _) _) _⟩, ⟨by have h := blk_new ((((w.alloc (.cells #[.int .i64 s, .int .i64 b, .int .i64 c] 23)).alloc o1).alloc o2).alloc o3) (.cells #[.int .i64 s, .int .i64 0, .int .i64 0, .bool false] 25); simpa using h⟩, ⟨by repeat (first | exact Below.refl _ _ | apply below_alloc)⟩, ⟨by simp⟩, ⟨by simpa using HR.out⟩⟩
  case round =>
    clear HR
    obtain ⟨i, xs, ys, n, l, m, so, hi, rfl, HO, HM, NE, B2, B7, HB, HL, HR⟩ := hrel
    by_cases hlt : i < L.length
    · have B2s := blk_lt B2.out
      have B7s := blk_lt B7.out
      obtain ⟨ad, rfl, hcell⟩ := hr.out.at_ i (by omega) (by omega)
      have hcell1 := (HB.out.cell (World.block_lt_of_cell? w _ hcell)).trans hcell
      rw [Int.toNat_natCast] at hcell1
      clear hcell
      have hltz : (i : Int) < (L.length : Int) := by omega
      obtain ⟨c20, c21, c22⟩ := blk3 B2.out
      obtain ⟨c70, c71, c72, c73, -⟩ := blk4 B7.out
      cases hg : rdOf false L i with
      | false =>
        rw [hg] at hcell1
        go_wp2_with (first | (go_at_call 12; refine (srv_recover _ _ _ _ _ _).mono ?_; rintro e w' ⟨rfl, hb⟩; rw [recV_eq]; have K2 := Aside0.mk (blk_below B2.out hb); have K7 := Aside0.mk (blk_below B7.out hb); have KO := Aside0.mk (pw_own_below HO.out hb); have KM := Aside0.mk (pw_own_below HM.out hb); have KB := Aside0.mk (below_then HB.out (by have := HB.out.size; omega) hb); clear hb; clear c70 c71 c72 c73; obtain ⟨c70, c71, c72, c73, f70, f71, f72, f73⟩ := blk4 K7.out))
        go_roundw
        case rel =>
          have K := set4_keep w' (w.heap.size + 1 + 1 + 1 + 1) (.int .i64 (recS s b c m so).1) (.int .i64 (recS s b c m so).2.1) (.int .i64 (recS s b c m so).2.2.1) (.bool (recS s b c m so).2.2.2)
          refine ⟨i + 1, xs, ys, (recS s b c m so).1, (recS s b c m so).2.1, (recS s b c m so).2.2.1, (recS s b c m so).2.2.2, by omega, by go_num, ⟨K.own KO.out (fun e => own_ne KO.out K7.out (by decide) e.symm) (Classical.em _)⟩, ⟨K.own KM.out (fun e => own_ne KM.out K7.out (by decide) e.symm) (Classical.em _)⟩, NE, ⟨K.blk K2.out (by omega) (by simp)⟩, ⟨set4_blk K7.out⟩, ⟨set4_below KB.out _ (by omega) _ _ _ _⟩, ⟨by have := HL.out; omega⟩, ⟨by rw [runF_crash hlt hg]; exact HR.out⟩⟩
        case measure => simp [intOf]; omega
      | true =>
        rw [hg] at hcell1
        obtain ⟨R, hR⟩ : ∃ R, nextR s b c n l m so = R := ⟨_, rfl⟩
        have HRE := Aside0.mk hR
        have hnx : ∀ w, Calls Tryd.prog 10 #[.agg #[.int .i64 s, .int .i64 b, .int .i64 c], .agg #[.int .i64 n, .int .i64 l, .int .i64 m, .bool so]] w fun e w' => e = .returned (.tuple #[.int .i64 R.num, .agg #[.int .i64 R.aN, .int .i64 R.aL, .int .i64 R.aM, .bool R.aS], .int .i64 R.mrk, .bool R.lg, .int .i64 R.er]) ∧ Below w.heap.size w w' := by
          intro w; rw [← hR]; exact srv_next s b c n l m so w
        clear hR
        by_cases he : R.er = 0
        · have heb : (R.er != 0) = false := by simpa using he
          have HX := Aside0.mk (runF_next (xs := xs) (ys := ys) hlt hg HRE.out he)
          clear he
          cases hlg : R.lg with
          | true =>
            go_wp2_with (first | (go_at_call 10; refine (hnx _).mono ?_; clear hnx; rintro e w1 ⟨rfl, hb⟩; have KO := Aside0.mk (pw_own_below HO.out (below_alloc hb (.cells #[.int .i64 R.aN, .int .i64 R.aL, .int .i64 R.aM, .bool R.aS] 25))); have KM := Aside0.mk (pw_own_below HM.out (below_alloc hb (.cells #[.int .i64 R.aN, .int .i64 R.aL, .int .i64 R.aM, .bool R.aS] 25))); have K2 := Aside0.mk (blk_alloc (blk_below B2.out hb) (.cells #[.int .i64 R.aN, .int .i64 R.aL, .int .i64 R.aM, .bool R.aS] 25)); have K7 := Aside0.mk (blk_alloc (blk_below B7.out hb) (.cells #[.int .i64 R.aN, .int .i64 R.aL, .int .i64 R.aM, .bool R.aS] 25)); have K14 := Aside0.mk (blk_new w1 (.cells #[.int .i64 R.aN, .int .i64 R.aL, .int .i64 R.aM, .bool R.aS] 25)); have KB := Aside0.mk (below_alloc (below_then HB.out (by have := HB.out.size; omega) hb) (.cells #[.int .i64 R.aN, .int .i64 R.aL, .int .i64 R.aM, .bool R.aS] 25)); have Z1 := hb.size; clear hb c70 c71 c72 c73 c20 c21 c22) | (at_builtin; refine print_append_num (W := w1.alloc (.cells #[.int .i64 R.aN, .int .i64 R.aL, .int .i64 R.aM, .bool R.aS] 25)) w.heap.size rfl (.tmp 59) (.tmp 61) 44 3 .i64 8 rfl Tryd.underlying44 info3 (by decide) u10 ys R.mrk rfl (box_at w1 _) KM.out KB.out ?_ ?_ ?_; (have := KB.out.size; omega); (have := HL.out; omega); intro v1 w2 hown hB hg hat; have QM := Aside0.mk hown; have QO := Aside0.mk (keep_app KO.out NE.out hg hat); have Q2 := Aside0.mk (blk_grown K2.out hg (own_ne KM.out K2.out (by decide))); have Q7 := Aside0.mk (blk_grown K7.out hg (own_ne KM.out K7.out (by decide))); have Q14 := Aside0.mk (blk_grown K14.out hg (own_ne KM.out K14.out (by decide))); have QB := Aside0.mk hB; have Z2 := hg.size; clear hown hB hg hat KM KO K2 K7 K14 KB) | (at_builtin; refine print_append_num (W := w2) w.heap.size rfl (.tmp 63) (.tmp 65) 44 3 .i64 8 rfl Tryd.underlying44 info3 (by decide) u9 xs R.num rfl rfl QO.out.1 QB.out ?_ ?_ ?_; (have := QB.out.size; omega); (have := HL.out; omega); intro v9 w3 hown hB hg hat; have PO := Aside0.mk hown; have PM := Aside0.mk (keep_app QM.out (ne_symm QO.out.2) hg hat); have P2 := Aside0.mk (blk_grown Q2.out hg (own_ne QO.out.1 Q2.out (by decide))); have P7 := Aside0.mk (blk_grown Q7.out hg (own_ne QO.out.1 Q7.out (by decide))); have P14 := Aside0.mk (blk_grown Q14.out hg (own_ne QO.out.1 Q14.out (by decide))); have PB := Aside0.mk hB; have Z3 := hg.size; clear hown hB hg hat; obtain ⟨c70, c71, c72, c73, f70, f71, f72, f73⟩ := blk4 P7.out; obtain ⟨c140, c141, c142, c143, -⟩ := blk4 P14.out))
            go_roundw
            case rel =>
              have K := set4_keep w3 (w.heap.size + 1 + 1 + 1 + 1) (.int .i64 R.aN) (.int .i64 R.aL) (.int .i64 R.aM) (.bool R.aS)
              have KP := PM.out.1
              refine ⟨i + 1, xs ++ [R.num], ys ++ [R.mrk], R.aN, R.aL, R.aM, R.aS, by omega, by go_num, ⟨K.own PO.out (fun e => own_ne PO.out P7.out (by decide) e.symm) (Classical.em _)⟩, ⟨K.own KP (fun e => own_ne KP P7.out (by decide) e.symm) (Classical.em _)⟩, ⟨ne_symm PM.out.2⟩, ⟨K.blk P2.out (by omega) (by simp)⟩, ⟨set4_blk P7.out⟩, ⟨set4_below PB.out _ (by omega) _ _ _ _⟩, ⟨by have := HL.out; simp; omega⟩, ⟨?_⟩⟩
              have h := HX.out.trans HR.out
              rw [hlg] at h
              exact h
            case measure => simp [intOf]; omega
          | false =>
            go_wp2_with (first | (go_at_call 10; refine (hnx _).mono ?_; clear hnx; rintro e w1 ⟨rfl, hb⟩; have KO := Aside0.mk (pw_own_below HO.out (below_alloc hb (.cells #[.int .i64 R.aN, .int .i64 R.aL, .int .i64 R.aM, .bool R.aS] 25))); have KM := Aside0.mk (pw_own_below HM.out (below_alloc hb (.cells #[.int .i64 R.aN, .int .i64 R.aL, .int .i64 R.aM, .bool R.aS] 25))); have K2 := Aside0.mk (blk_alloc (blk_below B2.out hb) (.cells #[.int .i64 R.aN, .int .i64 R.aL, .int .i64 R.aM, .bool R.aS] 25)); have K7 := Aside0.mk (blk_alloc (blk_below B7.out hb) (.cells #[.int .i64 R.aN, .int .i64 R.aL, .int .i64 R.aM, .bool R.aS] 25)); have K14 := Aside0.mk (blk_new w1 (.cells #[.int .i64 R.aN, .int .i64 R.aL, .int .i64 R.aM, .bool R.aS] 25)); have KB := Aside0.mk (below_alloc (below_then HB.out (by have := HB.out.size; omega) hb) (.cells #[.int .i64 R.aN, .int .i64 R.aL, .int .i64 R.aM, .bool R.aS] 25)); have Z1 := hb.size; clear hb c70 c71 c72 c73 c20 c21 c22) | (at_builtin; refine print_append_num (W := w1.alloc (.cells #[.int .i64 R.aN, .int .i64 R.aL, .int .i64 R.aM, .bool R.aS] 25)) w.heap.size rfl (.tmp 63) (.tmp 65) 44 3 .i64 8 rfl Tryd.underlying44 info3 (by decide) u9 xs R.num rfl (box_at w1 _) KO.out KB.out ?_ ?_ ?_; (have := KB.out.size; omega); (have := HL.out; omega); intro v9 w3 hown hB hg hat; have PO := Aside0.mk hown; have PM := Aside0.mk (keep_app KM.out (ne_symm NE.out) hg hat); have P2 := Aside0.mk (blk_grown K2.out hg (own_ne KO.out K2.out (by decide))); have P7 := Aside0.mk (blk_grown K7.out hg (own_ne KO.out K7.out (by decide))); have P14 := Aside0.mk (blk_grown K14.out hg (own_ne KO.out K14.out (by decide))); have PB := Aside0.mk hB; have Z3 := hg.size; clear hown hB hg hat; obtain ⟨c70, c71, c72, c73, f70, f71, f72, f73⟩ := blk4 P7.out; obtain ⟨c140, c141, c142, c143, -⟩ := blk4 P14.out))
            go_roundw
            case rel =>
              have K := set4_keep w3 (w.heap.size + 1 + 1 + 1 + 1) (.int .i64 R.aN) (.int .i64 R.aL) (.int .i64 R.aM) (.bool R.aS)
              have KP := PM.out.1
              refine ⟨i + 1, xs ++ [R.num], ys, R.aN, R.aL, R.aM, R.aS, by omega, by go_num, ⟨K.own PO.out (fun e => own_ne PO.out P7.out (by decide) e.symm) (Classical.em _)⟩, ⟨K.own KP (fun e => own_ne KP P7.out (by decide) e.symm) (Classical.em _)⟩, ⟨ne_symm PM.out.2⟩, ⟨K.blk P2.out (by omega) (by simp)⟩, ⟨set4_blk P7.out⟩, ⟨set4_below PB.out _ (by omega) _ _ _ _⟩, ⟨by have := HL.out; simp; omega⟩, ⟨?_⟩⟩
              have h := HX.out.trans HR.out
              rw [hlg] at h
              exact h
            case measure => simp [intOf]; omega
        · have heb : (R.er != 0) = true := by simpa using he
          have HX := Aside0.mk (show (xs, ys) = res by rw [runF_stop hlt hg (by rw [HRE.out]; exact he)]; exact HR.out)
          clear he
          go_wp2_with (first | (go_at_call 10; refine (hnx _).mono ?_; clear hnx; rintro e w' ⟨rfl, hb⟩; have KO := Aside0.mk (pw_own_below HO.out hb); have KM := Aside0.mk (pw_own_below HM.out hb); have KB := Aside0.mk (below_then HB.out (by have := HB.out.size; omega) hb); clear hb))
          go_ret3
          refine ⟨u9, u10, rfl, ?_, ?_, ?_⟩
          · rw [← HX.out]; exact SlI.own (pw_own_below KO.out (below_alloc (Below.refl _ _) _))
          · rw [← HX.out]; exact SlI.own (pw_own_below KM.out (below_alloc (Below.refl _ _) _))
          · exact below_alloc KB.out _
    · have hge : ¬ ((i : Int) < (L.length : Int)) := by omega
      have HX := Aside0.mk (show (xs, ys) = res by rw [← HR.out, List.drop_eq_nil_of_le (by omega)]; rfl)
      clear HR
      go_wp2
      go_ret3
      refine ⟨u9, u10, rfl, ?_, ?_, HB.out⟩
      · rw [← HX.out]; exact SlI.own HO.out
      · rw [← HX.out]; exact SlI.own HM.out

theorem srv_run_err (s b c : Int) (A : Option Addr) (cp : Nat) (L : List Bool) (w : World) (h : vldB s b c = false ∨ (vldB s b c = true ∧ 2000 < (L.length : Int))) :
    Calls Tryd.prog 18 #[.agg #[.int .i64 s, .int .i64 b, .int .i64 c], .slice A L.length cp] w fun e w' => e = .returned (.tuple #[.slice none 0 0, .slice none 0 0, .int .i64 2]) ∧ Below w.heap.size w w' := by
  rcases h with h | ⟨h, hL⟩
  · have HN : newV s b c = .tuple #[.agg #[.int .i64 0, .int .i64 0, .int .i64 0, .bool false], .int .i64 2] := by rw [newV, if_neg (by simp [h])]; rfl
    go_enter Tryd.func18, Tryd.ntmps18
    go_wp2_with (first | (go_at_call 8; refine (srv_new _ _ _ _).mono ?_; rintro e w' ⟨rfl, o1, o2, o3, rfl⟩))
    go_ret3
    exact ⟨rfl, by repeat (first | exact Below.refl _ _ | apply below_alloc)⟩
  · have HN : newV s b c = .tuple #[.agg #[.int .i64 s, .int .i64 0, .int .i64 0, .bool false], .int .i64 0] := by rw [newV, if_pos h]; rfl
    go_enter Tryd.func18, Tryd.ntmps18
    go_wp2_with (first | (go_at_call 8; refine (srv_new _ _ _ _).mono ?_; rintro e w' ⟨rfl, o1, o2, o3, rfl⟩))
    go_ret3
    exact ⟨rfl, by repeat (first | exact Below.refl _ _ | apply below_alloc)⟩
/-- Run: the numbers, the marks, the error. -/
theorem srv_run (s b c : Int) (A : Option Addr) (cp : Nat) (L : List Bool) (w : World) (hr : ReadsOf Value.bool false w A L.length L) (hcp : L.length ≤ cp) :
    Calls Tryd.prog 18 #[.agg #[.int .i64 s, .int .i64 b, .int .i64 c], .slice A L.length cp] w fun e w' => ∃ v0 v1, e = .returned (.tuple #[v0, v1, .int .i64 (runE s b c L)]) ∧ SlI w' v0 (runO s b c L) ∧ SlI w' v1 (runM s b c L) ∧ Below w.heap.size w w' := by
  by_cases h : vldB s b c = true ∧ L.length ≤ 2000
  · rw [runE, runO, runM, if_pos h, if_pos h, if_pos h]
    exact srv_run_ok s b c A cp L w ⟨hr⟩ hcp h.1 h.2
  · rw [runE, runO, runM, if_neg h, if_neg h, if_neg h]
    refine (srv_run_err s b c A cp L w ?_).mono ?_
    · cases hv : vldB s b c
      · exact .inl rfl
      · exact .inr ⟨rfl, by have : ¬ L.length ≤ 2000 := fun hl => h ⟨hv, hl⟩; omega⟩
    · rintro e w' ⟨rfl, hb⟩
      exact ⟨_, _, rfl, SlI.nil _, SlI.nil _, hb⟩
set_option maxHeartbeats 4000000 in
theorem ref_run_ok (s b c : Int) (A : Option Addr) (cp : Nat) (L : List Bool) (w : World) (hr : Aside0 (ReadsOf Value.bool false w A L.length L)) (hcp : L.length ≤ cp) (hv : vldB s b c = true) (hL : L.length ≤ 2000) :
    Calls Tryd.prog 19 #[.agg #[.int .i64 s, .int .i64 b, .int .i64 c], .slice A L.length cp] w fun e w' => ∃ v0 v1, e = .returned (.tuple #[v0, v1, .int .i64 0]) ∧ SlI w' v0 (runF s b c L s 0 0 false [] []).1 ∧ SlI w' v1 (runF s b c L s 0 0 false [] []).2 ∧ Below w.heap.size w w' := by
  have HN : newV s b c = .tuple #[.agg #[.int .i64 s, .int .i64 0, .int .i64 0, .bool false], .int .i64 0] := by rw [newV, if_pos hv]; rfl
  have hL' : ¬ (2000 < (L.length : Int)) := by omega
  obtain ⟨res, hres⟩ : ∃ res, runF s b c L s 0 0 false [] [] = res := ⟨_, rfl⟩
  have HR := Aside0.mk hres
  rw [hres]
  clear hres
  go_enter Tryd.func19, Tryd.ntmps19
  go_wp2_with (first | (go_at_call 23; refine (ref_valid _ _ _ _).mono ?_; rintro e w' ⟨rfl, rfl⟩) | (go_at_call 9; refine (ref_new _ _ _ _).mono ?_; rintro e w' ⟨rfl, o1, o2, o3, rfl⟩))
  clear HN
  go_loopw [9, 10, 33] (fun v9 v10 v32 wr => ∃ (i : Nat) (xs ys : List Int) (n l m : Int) (so : Bool), i ≤ L.length ∧ v32 = .int .i64 i ∧ Aside0 (wr.ownsRow w.heap.size 3 1 v9 xs.length (nums .i64 xs)) ∧ Aside0 (wr.ownsRow w.heap.size 3 1 v10 ys.length (nums .i64 ys)) ∧ Aside0 (NeRow v9 v10) ∧ Aside0 (wr.heap[w.heap.size]? = some (.cells #[.int .i64 s, .int .i64 b, .int .i64 c] 23 (0, 0))) ∧ Aside0 (wr.heap[w.heap.size + 1 + 1 + 1 + 1 + 1]? = some (.cells #[.int .i64 n, .int .i64 l, .int .i64 m, .bool so] 25 (0, 0))) ∧ Aside0 (Below w.heap.size w wr) ∧ Aside0 (xs.length ≤ i ∧ ys.length ≤ i) ∧ Aside0 (runF s b c (L.drop i) n l m so xs ys = res)) (fun _ _ v _ => L.length - (intOf v).toNat)
  case atStart => exact ⟨0, [], [], s, 0, 0, false, by omega, rfl, ⟨own_nil _ _ _ _⟩, ⟨own_nil _ _ _ _⟩, ⟨ne_nil _⟩, ⟨blk_alloc (blk_alloc (blk_alloc (blk_alloc (blk_alloc (blk_new _ _) _) _) _) _) _⟩, ⟨by have h := blk_new (((((w.alloc (.cells #[.int .i64 s, .int .i64 b, .int .i64 c] 23)).alloc (.cells #[.int .i64 s, .int .i64 b, .int .i64 c] 23)).alloc o1).alloc o2).alloc o3) (.cells #[.int .i64 s, .int .i64 0, .int .i64 0, .bool false] 25); simpa using h⟩, ⟨by repeat (first | exact Below.refl _ _ | apply below_alloc)⟩, ⟨by simp⟩, ⟨by simpa using HR.out⟩⟩
  case round =>
    clear HR
    obtain ⟨i, xs, ys, n, l, m, so, hi, rfl, HO, HM, NE, B2, B7, HB, HL, HR⟩ := hrel
    by_cases hlt : i < L.length
    · have B2s := blk_lt B2.out
      have B7s := blk_lt B7.out
      obtain ⟨ad, rfl, hcell⟩ := hr.out.at_ i (by omega) (by omega)
      have hcell1 := (HB.out.cell (World.block_lt_of_cell? w _ hcell)).trans hcell
      rw [Int.toNat_natCast] at hcell1
      clear hcell
      have hltz : (i : Int) < (L.length : Int) := by omega
      obtain ⟨c20, c21, c22⟩ := blk3 B2.out
      obtain ⟨c70, c71, c72, c73, -⟩ := blk4 B7.out
      cases hg : rdOf false L i with
      | false =>
        rw [hg] at hcell1
        go_wp2_with (first | (go_at_call 13; refine (ref_recover _ _ _ _ _ _).mono ?_; rintro e w' ⟨rfl, hb⟩; rw [recV_eq]; have K2 := Aside0.mk (blk_below B2.out hb); have K7 := Aside0.mk (blk_below B7.out hb); have KO := Aside0.mk (pw_own_below HO.out hb); have KM := Aside0.mk (pw_own_below HM.out hb); have KB := Aside0.mk (below_then HB.out (by have := HB.out.size; omega) hb); clear hb; clear c70 c71 c72 c73; obtain ⟨c70, c71, c72, c73, f70, f71, f72, f73⟩ := blk4 K7.out))
        go_roundw
        case rel =>
          have K := set4_keep w' (w.heap.size + 1 + 1 + 1 + 1 + 1) (.int .i64 (recS s b c m so).1) (.int .i64 (recS s b c m so).2.1) (.int .i64 (recS s b c m so).2.2.1) (.bool (recS s b c m so).2.2.2)
          refine ⟨i + 1, xs, ys, (recS s b c m so).1, (recS s b c m so).2.1, (recS s b c m so).2.2.1, (recS s b c m so).2.2.2, by omega, by go_num, ⟨K.own KO.out (fun e => own_ne KO.out K7.out (by decide) e.symm) (Classical.em _)⟩, ⟨K.own KM.out (fun e => own_ne KM.out K7.out (by decide) e.symm) (Classical.em _)⟩, NE, ⟨K.blk K2.out (by omega) (by simp)⟩, ⟨set4_blk K7.out⟩, ⟨set4_below KB.out _ (by omega) _ _ _ _⟩, ⟨by have := HL.out; omega⟩, ⟨by rw [runF_crash hlt hg]; exact HR.out⟩⟩
        case measure => simp [intOf]; omega
      | true =>
        rw [hg] at hcell1
        obtain ⟨R, hR⟩ : ∃ R, nextR s b c n l m so = R := ⟨_, rfl⟩
        have HRE := Aside0.mk hR
        have hnx : ∀ w, Calls Tryd.prog 11 #[.agg #[.int .i64 s, .int .i64 b, .int .i64 c], .agg #[.int .i64 n, .int .i64 l, .int .i64 m, .bool so]] w fun e w' => e = .returned (.tuple #[.int .i64 R.num, .agg #[.int .i64 R.aN, .int .i64 R.aL, .int .i64 R.aM, .bool R.aS], .int .i64 R.mrk, .bool R.lg, .int .i64 R.er]) ∧ Below w.heap.size w w' := by
          intro w; rw [← hR]; exact ref_next s b c n l m so w
        clear hR
        by_cases he : R.er = 0
        · have heb : (R.er != 0) = false := by simpa using he
          have HX := Aside0.mk (runF_next (xs := xs) (ys := ys) hlt hg HRE.out he)
          clear he
          cases hlg : R.lg with
          | true =>
            go_wp2_with (first | (go_at_call 11; refine (hnx _).mono ?_; clear hnx; rintro e w1 ⟨rfl, hb⟩; have KO := Aside0.mk (pw_own_below HO.out (below_alloc hb (.cells #[.int .i64 R.aN, .int .i64 R.aL, .int .i64 R.aM, .bool R.aS] 25))); have KM := Aside0.mk (pw_own_below HM.out (below_alloc hb (.cells #[.int .i64 R.aN, .int .i64 R.aL, .int .i64 R.aM, .bool R.aS] 25))); have K2 := Aside0.mk (blk_alloc (blk_below B2.out hb) (.cells #[.int .i64 R.aN, .int .i64 R.aL, .int .i64 R.aM, .bool R.aS] 25)); have K7 := Aside0.mk (blk_alloc (blk_below B7.out hb) (.cells #[.int .i64 R.aN, .int .i64 R.aL, .int .i64 R.aM, .bool R.aS] 25)); have K14 := Aside0.mk (blk_new w1 (.cells #[.int .i64 R.aN, .int .i64 R.aL, .int .i64 R.aM, .bool R.aS] 25)); have KB := Aside0.mk (below_alloc (below_then HB.out (by have := HB.out.size; omega) hb) (.cells #[.int .i64 R.aN, .int .i64 R.aL, .int .i64 R.aM, .bool R.aS] 25)); have Z1 := hb.size; clear hb c70 c71 c72 c73 c20 c21 c22) | (at_builtin; refine print_append_num (W := w1.alloc (.cells #[.int .i64 R.aN, .int .i64 R.aL, .int .i64 R.aM, .bool R.aS] 25)) w.heap.size rfl (.tmp 59) (.tmp 61) 44 3 .i64 8 rfl Tryd.underlying44 info3 (by decide) u9 xs R.num rfl (box_at w1 _) KO.out KB.out ?_ ?_ ?_; (have := KB.out.size; omega); (have := HL.out; omega); intro v9 w2 hown hB hg hat; have QO := Aside0.mk hown; have QM := Aside0.mk (keep_app KM.out (ne_symm NE.out) hg hat); have Q2 := Aside0.mk (blk_grown K2.out hg (own_ne KO.out K2.out (by decide))); have Q7 := Aside0.mk (blk_grown K7.out hg (own_ne KO.out K7.out (by decide))); have Q14 := Aside0.mk (blk_grown K14.out hg (own_ne KO.out K14.out (by decide))); have QB := Aside0.mk hB; have Z2 := hg.size; clear hown hB hg hat KM KO K2 K7 K14 KB) | (at_builtin; refine print_append_num (W := w2) w.heap.size rfl (.tmp 64) (.tmp 66) 44 3 .i64 8 rfl Tryd.underlying44 info3 (by decide) u10 ys R.mrk rfl rfl QM.out.1 QB.out ?_ ?_ ?_; (have := QB.out.size; omega); (have := HL.out; omega); intro v10 w3 hown hB hg hat; have PM := Aside0.mk hown; have PO := Aside0.mk (keep_app QO.out (ne_symm QM.out.2) hg hat); have P2 := Aside0.mk (blk_grown Q2.out hg (own_ne QM.out.1 Q2.out (by decide))); have P7 := Aside0.mk (blk_grown Q7.out hg (own_ne QM.out.1 Q7.out (by decide))); have P14 := Aside0.mk (blk_grown Q14.out hg (own_ne QM.out.1 Q14.out (by decide))); have PB := Aside0.mk hB; have Z3 := hg.size; clear hown hB hg hat; obtain ⟨c70, c71, c72, c73, f70, f71, f72, f73⟩ := blk4 P7.out; obtain ⟨c140, c141, c142, c143, -⟩ := blk4 P14.out))
            go_roundw
            case rel =>
              have K := set4_keep w3 (w.heap.size + 1 + 1 + 1 + 1 + 1) (.int .i64 R.aN) (.int .i64 R.aL) (.int .i64 R.aM) (.bool R.aS)
              have KO := PO.out.1
              have KP := PM.out
              refine ⟨i + 1, xs ++ [R.num], ys ++ [R.mrk], R.aN, R.aL, R.aM, R.aS, by omega, by go_num, ⟨K.own KO (fun e => own_ne KO P7.out (by decide) e.symm) (Classical.em _)⟩, ⟨K.own KP (fun e => own_ne KP P7.out (by decide) e.symm) (Classical.em _)⟩, ⟨PO.out.2⟩, ⟨K.blk P2.out (by omega) (by simp)⟩, ⟨set4_blk P7.out⟩, ⟨set4_below PB.out _ (by omega) _ _ _ _⟩, ⟨by have := HL.out; simp; omega⟩, ⟨?_⟩⟩
              have h := HX.out.trans HR.out
              rw [hlg] at h
              exact h
            case measure => simp [intOf]; omega
          | false =>
            go_wp2_with (first | (go_at_call 11; refine (hnx _).mono ?_; clear hnx; rintro e w1 ⟨rfl, hb⟩; have KO := Aside0.mk (pw_own_below HO.out (below_alloc hb (.cells #[.int .i64 R.aN, .int .i64 R.aL, .int .i64 R.aM, .bool R.aS] 25))); have KM := Aside0.mk (pw_own_below HM.out (below_alloc hb (.cells #[.int .i64 R.aN, .int .i64 R.aL, .int .i64 R.aM, .bool R.aS] 25))); have K2 := Aside0.mk (blk_alloc (blk_below B2.out hb) (.cells #[.int .i64 R.aN, .int .i64 R.aL, .int .i64 R.aM, .bool R.aS] 25)); have K7 := Aside0.mk (blk_alloc (blk_below B7.out hb) (.cells #[.int .i64 R.aN, .int .i64 R.aL, .int .i64 R.aM, .bool R.aS] 25)); have K14 := Aside0.mk (blk_new w1 (.cells #[.int .i64 R.aN, .int .i64 R.aL, .int .i64 R.aM, .bool R.aS] 25)); have KB := Aside0.mk (below_alloc (below_then HB.out (by have := HB.out.size; omega) hb) (.cells #[.int .i64 R.aN, .int .i64 R.aL, .int .i64 R.aM, .bool R.aS] 25)); have Z1 := hb.size; clear hb c70 c71 c72 c73 c20 c21 c22) | (at_builtin; refine print_append_num (W := w1.alloc (.cells #[.int .i64 R.aN, .int .i64 R.aL, .int .i64 R.aM, .bool R.aS] 25)) w.heap.size rfl (.tmp 59) (.tmp 61) 44 3 .i64 8 rfl Tryd.underlying44 info3 (by decide) u9 xs R.num rfl (box_at w1 _) KO.out KB.out ?_ ?_ ?_; (have := KB.out.size; omega); (have := HL.out; omega); intro v9 w2 hown hB hg hat; have QO := Aside0.mk hown; have QM := Aside0.mk (keep_app KM.out (ne_symm NE.out) hg hat); have Q2 := Aside0.mk (blk_grown K2.out hg (own_ne KO.out K2.out (by decide))); have Q7 := Aside0.mk (blk_grown K7.out hg (own_ne KO.out K7.out (by decide))); have Q14 := Aside0.mk (blk_grown K14.out hg (own_ne KO.out K14.out (by decide))); have QB := Aside0.mk hB; have Z2 := hg.size; clear hown hB hg hat KM KO K2 K7 K14 KB; obtain ⟨c70, c71, c72, c73, f70, f71, f72, f73⟩ := blk4 Q7.out; obtain ⟨c140, c141, c142, c143, -⟩ := blk4 Q14.out))
            go_roundw
            case rel =>
              have K := set4_keep w2 (w.heap.size + 1 + 1 + 1 + 1 + 1) (.int .i64 R.aN) (.int .i64 R.aL) (.int .i64 R.aM) (.bool R.aS)
              have KO := QO.out
              have KP := QM.out.1
              refine ⟨i + 1, xs ++ [R.num], ys, R.aN, R.aL, R.aM, R.aS, by omega, by go_num, ⟨K.own KO (fun e => own_ne KO Q7.out (by decide) e.symm) (Classical.em _)⟩, ⟨K.own KP (fun e => own_ne KP Q7.out (by decide) e.symm) (Classical.em _)⟩, ⟨ne_symm QM.out.2⟩, ⟨K.blk Q2.out (by omega) (by simp)⟩, ⟨set4_blk Q7.out⟩, ⟨set4_below QB.out _ (by omega) _ _ _ _⟩, ⟨by have := HL.out; simp; omega⟩, ⟨?_⟩⟩
              have h := HX.out.trans HR.out
              rw [hlg] at h
              exact h
            case measure => simp [intOf]; omega
        · have heb : (R.er != 0) = true := by simpa using he
          have HX := Aside0.mk (show (xs, ys) = res by rw [runF_stop hlt hg (by rw [HRE.out]; exact he)]; exact HR.out)
          clear he
          go_wp2_with (first | (go_at_call 11; refine (hnx _).mono ?_; clear hnx; rintro e w' ⟨rfl, hb⟩; have KO := Aside0.mk (pw_own_below HO.out hb); have KM := Aside0.mk (pw_own_below HM.out hb); have KB := Aside0.mk (below_then HB.out (by have := HB.out.size; omega) hb); clear hb))
          go_ret3
          refine ⟨u9, u10, rfl, ?_, ?_, ?_⟩
          · rw [← HX.out]; exact SlI.own (pw_own_below KO.out (below_alloc (Below.refl _ _) _))
          · rw [← HX.out]; exact SlI.own (pw_own_below KM.out (below_alloc (Below.refl _ _) _))
          · exact below_alloc KB.out _
    · have hge : ¬ ((i : Int) < (L.length : Int)) := by omega
      have HX := Aside0.mk (show (xs, ys) = res by rw [← HR.out, List.drop_eq_nil_of_le (by omega)]; rfl)
      clear HR
      go_wp2
      go_ret3
      refine ⟨u9, u10, rfl, ?_, ?_, HB.out⟩
      · rw [← HX.out]; exact SlI.own HO.out
      · rw [← HX.out]; exact SlI.own HM.out

theorem ref_run_err (s b c : Int) (A : Option Addr) (cp : Nat) (L : List Bool) (w : World) (h : vldB s b c = false ∨ (vldB s b c = true ∧ 2000 < (L.length : Int))) :
    Calls Tryd.prog 19 #[.agg #[.int .i64 s, .int .i64 b, .int .i64 c], .slice A L.length cp] w fun e w' => e = .returned (.tuple #[.slice none 0 0, .slice none 0 0, .int .i64 2]) ∧ Below w.heap.size w w' := by
  rcases h with h | ⟨h, hL⟩
  · have HN : newV s b c = .tuple #[.agg #[.int .i64 0, .int .i64 0, .int .i64 0, .bool false], .int .i64 2] := by rw [newV, if_neg (by simp [h])]; rfl
    go_enter Tryd.func19, Tryd.ntmps19
    go_wp2_with (first | (go_at_call 23; refine (ref_valid _ _ _ _).mono ?_; rintro e w' ⟨rfl, rfl⟩))
    go_ret3
    exact ⟨rfl, by repeat (first | exact Below.refl _ _ | apply below_alloc)⟩
  · have HN : newV s b c = .tuple #[.agg #[.int .i64 s, .int .i64 0, .int .i64 0, .bool false], .int .i64 0] := by rw [newV, if_pos h]; rfl
    go_enter Tryd.func19, Tryd.ntmps19
    go_wp2_with (first | (go_at_call 23; refine (ref_valid _ _ _ _).mono ?_; rintro e w' ⟨rfl, rfl⟩))
    go_ret3
    exact ⟨rfl, by repeat (first | exact Below.refl _ _ | apply below_alloc)⟩
/-- Run: the numbers, the marks, the error. -/
theorem ref_run (s b c : Int) (A : Option Addr) (cp : Nat) (L : List Bool) (w : World) (hr : ReadsOf Value.bool false w A L.length L) (hcp : L.length ≤ cp) :
    Calls Tryd.prog 19 #[.agg #[.int .i64 s, .int .i64 b, .int .i64 c], .slice A L.length cp] w fun e w' => ∃ v0 v1, e = .returned (.tuple #[v0, v1, .int .i64 (runE s b c L)]) ∧ SlI w' v0 (runO s b c L) ∧ SlI w' v1 (runM s b c L) ∧ Below w.heap.size w w' := by
  by_cases h : vldB s b c = true ∧ L.length ≤ 2000
  · rw [runE, runO, runM, if_pos h, if_pos h, if_pos h]
    exact ref_run_ok s b c A cp L w ⟨hr⟩ hcp h.1 h.2
  · rw [runE, runO, runM, if_neg h, if_neg h, if_neg h]
    refine (ref_run_err s b c A cp L w ?_).mono ?_
    · cases hv : vldB s b c
      · exact .inl rfl
      · exact .inr ⟨rfl, by have : ¬ L.length ≤ 2000 := fun hl => h ⟨hv, hl⟩; omega⟩
    · rintro e w' ⟨rfl, hb⟩
      exact ⟨_, _, rfl, SlI.nil _, SlI.nil _, hb⟩
end Go.Proofs.YtinidfeoellmhaaDoor
