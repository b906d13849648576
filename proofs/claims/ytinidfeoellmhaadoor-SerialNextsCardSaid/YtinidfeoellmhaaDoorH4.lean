/-
  The contract of redo.Valid for a record of a sequence's mark: it returns what one plain function says, and writes nothing that was there. The names are strings of at most 2^63 - 1 bytes.
-/
import Derived.Test.YtinidfeoellmhaaDoorH3
import Derived.Lib.SliceRun
import Derived.Deep.RegionWith
namespace Go.Proofs.YtinidfeoellmhaaDoor
open Go.RowKit Go.Proofs.YtinidfeoellmhaaDoorW.PrintWords
set_option linter.unusedVariables false
set_option linter.unusedSimpArgs false

def nameB (s : ByteArray) : Bool := nameB0 s && !wordB s
theorem lexName (s : ByteArray) (w : World) (hs : s.size ≤ 9223372036854775807) : Calls Tryd.prog 50 #[.string s] w fun e w' => e = .returned (.bool (nameB s)) ∧ Below w.heap.size w w' := by
  go_enter Tryd.func50, Tryd.ntmps50
  go_wp2_with (first | (go_at_call 55; refine (lexIsName _ _ hs).mono ?_; rintro e w' ⟨rfl, hb⟩) | (go_at_call 56; refine (lexWord _ _).mono ?_; rintro e w' ⟨rfl, rfl⟩))
  all_goals (go_ret; exact ⟨by simp [nameB, *], by assumption⟩)
theorem isName (s : ByteArray) (w : World) (hs : s.size ≤ 9223372036854775807) : Calls Tryd.prog 42 #[.string s] w fun e w' => e = .returned (.bool (nameB s)) ∧ Below w.heap.size w w' := by
  go_enter Tryd.func42, Tryd.ntmps42
  go_wp2_with (first | (go_at_call 50; refine (lexName _ _ hs).mono ?_; rintro e w' ⟨rfl, hb⟩))
  go_ret
  exact ⟨rfl, hb⟩

theorem bcell {W w1 : World} (hb : Below W.heap.size W w1) : (∀ b o, b < W.heap.size → w1.cell? ⟨b, o, none⟩ = W.cell? ⟨b, o, none⟩) ∧ (∀ b o, b < W.heap.size → w1.frozen? ⟨b, o, none⟩ = W.frozen? ⟨b, o, none⟩) :=
  ⟨fun b o h => hb.cell (p := ⟨b, o, none⟩) h, fun b o h => hb.frozen (p := ⟨b, o, none⟩) h⟩
theorem blk3 {w : World} {g t : Nat} {a b c : Value} (h : w.heap[g]? = some (.cells #[a, b, c] t (0, 0))) :
    w.cell? ⟨g, 0, none⟩ = some a ∧ w.cell? ⟨g, 1, none⟩ = some b ∧ w.cell? ⟨g, 2, none⟩ = some c :=
  ⟨(blk_cell h 0).trans rfl, (blk_cell h 1).trans rfl, (blk_cell h 2).trans rfl⟩
def fieldB (o nm : ByteArray) (n f : Int) : Bool := if f = 1 then nameB o else if f = 2 then nameB nm else isIntB n
theorem isField1 (o nm : ByteArray) (n : Int) (w : World) (hs : o.size ≤ 9223372036854775807) : Calls Tryd.prog 35 #[rec10 o nm n, .int .i64 1] w fun e w' => e = .returned (.bool (nameB o)) ∧ Below w.heap.size w w' := by
  unfold rec10
  go_enter Tryd.func35, Tryd.ntmps35
  go_wp2_with (first | (go_at_call 42; refine (isName _ _ hs).mono ?_; rintro e w' ⟨rfl, hb⟩))
  go_ret
  exact ⟨rfl, below_after (below_alloc (Below.refl _ _) _) hb⟩
theorem isField2 (o nm : ByteArray) (n : Int) (w : World) (hs : nm.size ≤ 9223372036854775807) : Calls Tryd.prog 35 #[rec10 o nm n, .int .i64 2] w fun e w' => e = .returned (.bool (nameB nm)) ∧ Below w.heap.size w w' := by
  unfold rec10
  go_enter Tryd.func35, Tryd.ntmps35
  go_wp2_with (first | (go_at_call 42; refine (isName _ _ hs).mono ?_; rintro e w' ⟨rfl, hb⟩))
  go_ret
  exact ⟨rfl, below_after (below_alloc (Below.refl _ _) _) hb⟩
theorem isField7 (o nm : ByteArray) (n : Int) (w : World) : Calls Tryd.prog 35 #[rec10 o nm n, .int .i64 7] w fun e w' => e = .returned (.bool (isIntB n)) ∧ Below w.heap.size w w' := by
  unfold rec10
  go_enter Tryd.func35, Tryd.ntmps35
  go_wp2
  all_goals (go_ret; exact ⟨by first | (simp [isIntB, *]; done) | (simp [isIntB, *]; omega), by repeat (first | exact Below.refl _ _ | apply below_alloc)⟩)

theorem isField10 (o nm : ByteArray) (n f : Int) (w : World) (hf : f = 1 ∨ f = 2 ∨ f = 7) (ho : o.size ≤ 9223372036854775807) (hn : nm.size ≤ 9223372036854775807) :
    Calls Tryd.prog 35 #[rec10 o nm n, .int .i64 f] w fun e w' => e = .returned (.bool (fieldB o nm n f)) ∧ Below w.heap.size w w' := by
  rcases hf with rfl | rfl | rfl
  · exact isField1 o nm n w ho
  · exact isField2 o nm n w hn
  · exact isField7 o nm n w

def recCells (o nm : ByteArray) (n : Int) : Array Value := #[.int .i64 10, .int .i64 0, .string o, .string nm, .int .i64 0, .slice none 0 0, .int .i64 0, .string ⟨#[]⟩, .int .i64 n]
/-- The function that Valid hands to ContainsFunc: its record lies in block g. -/
theorem valid1 (o nm : ByteArray) (n f : Int) (g t : Nat) (w : World) (hb : w.heap[g]? = some (.cells (recCells o nm n) t (0, 0))) (hf : f = 1 ∨ f = 2 ∨ f = 7) (ho : o.size ≤ 9223372036854775807) (hn : nm.size ≤ 9223372036854775807) :
    Calls Tryd.prog 34 #[.int .i64 f, .pointer (some ⟨g, 0, none⟩)] w fun e w' => e = .returned (.bool (!fieldB o nm n f)) ∧ Below w.heap.size w w' := by
  have c0 : w.cell? ⟨g, 0, none⟩ = some (.int .i64 10) := (blk_cell hb 0).trans rfl
  have c1 : w.cell? ⟨g, 1, none⟩ = some (.int .i64 0) := (blk_cell hb 1).trans rfl
  have c2 : w.cell? ⟨g, 2, none⟩ = some (.string o) := (blk_cell hb 2).trans rfl
  have c3 : w.cell? ⟨g, 3, none⟩ = some (.string nm) := (blk_cell hb 3).trans rfl
  have c4 : w.cell? ⟨g, 4, none⟩ = some (.int .i64 0) := (blk_cell hb 4).trans rfl
  have c5 : w.cell? ⟨g, 5, none⟩ = some (.slice none 0 0) := (blk_cell hb 5).trans rfl
  have c6 : w.cell? ⟨g, 6, none⟩ = some (.int .i64 0) := (blk_cell hb 6).trans rfl
  have c7 : w.cell? ⟨g, 7, none⟩ = some (.string ⟨#[]⟩) := (blk_cell hb 7).trans rfl
  have c8 : w.cell? ⟨g, 8, none⟩ = some (.int .i64 n) := (blk_cell hb 8).trans rfl
  have hcall := isField10 o nm n f w hf ho hn
  unfold rec10 at hcall
  have HF := Aside0.mk hf
  clear hf hb
  go_enter Tryd.func34, Tryd.ntmps34
  go_wp2_with (first | (go_at_call 35; refine hcall.mono ?_; clear hcall; rintro e w' ⟨rfl, hb⟩))
  go_ret
  exact ⟨rfl, hb⟩

/-- slices.IndexFunc over the three fields, at a function that hands back p of a field and writes nothing that was there. -/
theorem indexFields (g : Nat) (lb : Array Value) (p : Int → Bool) (A : Nat) (w : World) (eg : ∀ args w, (callFunc g args).run Tryd.prog w = .ok (.enter g args) w)
    (hp : ∀ W c, Below w.heap.size w W → c = 1 ∨ c = 2 ∨ c = 7 → Calls Tryd.prog g (#[.int .i64 c] ++ lb) W fun e w' => e = .returned (.bool (p c)) ∧ Below W.heap.size W w')
    (hA : w.heap[A]? = some (.cells #[.int .i64 1, .int .i64 2, .int .i64 7] 60 (0, 0))) :
    Calls Tryd.prog 40 #[.slice (some ⟨A, 0, none⟩) 3 3, .func (.func g) #[] lb] w fun e w' => (∃ r : Int, e = .returned (.int .i64 r) ∧ decide (0 ≤ r) = (p 1 || (p 2 || p 7))) ∧ Below w.heap.size w w' := by
  have k : ∀ W, Below w.heap.size w W → W.cell? ⟨A, 0, none⟩ = some (.int .i64 1) ∧ W.cell? ⟨A, 1, none⟩ = some (.int .i64 2) ∧ W.cell? ⟨A, 2, none⟩ = some (.int .i64 7) := fun W hW => blk3 (blk_below hA hW)
  have k0 := k w (Below.refl _ _)
  obtain ⟨c0, c1, c2⟩ := k0
  have h1 := hp w 1 (Below.refl _ _) (.inl rfl)
  go_enter Tryd.func40, Tryd.ntmps40
  go_wp2
  refine wp_loop_rounds 4 ?_
  rw [rounds_succ]
  cases q1 : p 1 with
  | true =>
    rw [q1] at h1
    clear hp k
    go_wp2_with (go_at_fn g; refine h1.mono ?_; rintro e w1 ⟨rfl, hb⟩)
    go_ret
    exact ⟨⟨0, rfl, by simp [q1]⟩, hb⟩
  | false =>
    rw [q1] at h1
    go_wp2_with (go_at_fn g; refine h1.mono ?_; clear h1; rintro e w1 ⟨rfl, hb1⟩)
    have h2 := hp w1 2 hb1 (.inr (.inl rfl))
    obtain ⟨d0, d1, d2⟩ := k w1 hb1
    rw [rounds_succ]
    cases q2 : p 2 with
    | true =>
      rw [q2] at h2
      clear hp k
      go_wp2_with (go_at_fn g; refine h2.mono ?_; rintro e w2 ⟨rfl, hb⟩)
      go_ret
      exact ⟨⟨1, rfl, by simp [q2]⟩, below_after hb1 hb⟩
    | false =>
      rw [q2] at h2
      go_wp2_with (go_at_fn g; refine h2.mono ?_; clear h2; rintro e w2 ⟨rfl, hb2⟩)
      have hb2' := below_after hb1 hb2
      have h3 := hp w2 7 hb2' (.inr (.inr rfl))
      obtain ⟨e0, e1, e2⟩ := k w2 hb2'
      rw [rounds_succ]
      clear hp k
      cases q3 : p 7 with
      | true =>
        rw [q3] at h3
        go_wp2_with (go_at_fn g; refine h3.mono ?_; rintro e w3 ⟨rfl, hb⟩)
        go_ret
        exact ⟨⟨2, rfl, by simp [q3]⟩, below_after hb2' hb⟩
      | false =>
        rw [q3] at h3
        go_wp2_with (go_at_fn g; refine h3.mono ?_; clear h3; rintro e w3 ⟨rfl, hb3⟩)
        rw [rounds_succ]
        go_wp2
        go_ret
        exact ⟨⟨-1, rfl, by simp [q1, q2, q3]⟩, below_after hb2' hb3⟩
theorem containsFields (g : Nat) (lb : Array Value) (p : Int → Bool) (A : Nat) (w : World) (eg : ∀ args w, (callFunc g args).run Tryd.prog w = .ok (.enter g args) w)
    (hp : ∀ W c, Below w.heap.size w W → c = 1 ∨ c = 2 ∨ c = 7 → Calls Tryd.prog g (#[.int .i64 c] ++ lb) W fun e w' => e = .returned (.bool (p c)) ∧ Below W.heap.size W w')
    (hA : w.heap[A]? = some (.cells #[.int .i64 1, .int .i64 2, .int .i64 7] 60 (0, 0))) :
    Calls Tryd.prog 33 #[.slice (some ⟨A, 0, none⟩) 3 3, .func (.func g) #[] lb] w fun e w' => e = .returned (.bool (p 1 || (p 2 || p 7))) ∧ Below w.heap.size w w' := by
  have hi := indexFields g lb p A w eg hp hA
  clear hp hA
  go_enter Tryd.func33, Tryd.ntmps33
  go_wp2_with (go_at_call 40; refine hi.mono ?_; clear hi; rintro e w' ⟨⟨r, rfl, hr1⟩, hb⟩)
  go_ret
  exact ⟨rfl, hb⟩

theorem cell9 {w : World} {g t : Nat} {a b c d e f g' h i : Value} (hb : w.heap[g]? = some (.cells #[a, b, c, d, e, f, g', h, i] t (0, 0))) :
    w.cell? ⟨g, 0, none⟩ = some a ∧ w.cell? ⟨g, 1, none⟩ = some b ∧ w.cell? ⟨g, 2, none⟩ = some c ∧ w.cell? ⟨g, 3, none⟩ = some d ∧ w.cell? ⟨g, 4, none⟩ = some e ∧ w.cell? ⟨g, 5, none⟩ = some f ∧ w.cell? ⟨g, 6, none⟩ = some g' ∧ w.cell? ⟨g, 7, none⟩ = some h ∧ w.cell? ⟨g, 8, none⟩ = some i :=
  ⟨(blk_cell hb 0).trans rfl, (blk_cell hb 1).trans rfl, (blk_cell hb 2).trans rfl, (blk_cell hb 3).trans rfl, (blk_cell hb 4).trans rfl, (blk_cell hb 5).trans rfl, (blk_cell hb 6).trans rfl, (blk_cell hb 7).trans rfl, (blk_cell hb 8).trans rfl⟩
set_option maxHeartbeats 2000000 in
/-- redo.Valid of a record of a sequence's mark. -/
theorem redoValid (o nm : ByteArray) (n : Int) (w : World) (ho : o.size ≤ 9223372036854775807) (hn : nm.size ≤ 9223372036854775807) :
    Calls Tryd.prog 27 #[rec10 o nm n] w fun e w' => e = .returned (.bool (nameB o && (nameB nm && isIntB n))) ∧ Below w.heap.size w w' := by
  have kn := fun W : World => Lib.run_eql_slice_nil (P := Tryd.prog) W 56 60 (some ⟨w.heap.size + 1, 0, none⟩) 3 3 0 0 Tryd.underlying56
  have hcl := fun w h0 h1 h2 => clear10 o nm n (w.heap.size + 1) w h0 h1 h2
  have hsm := same10 o nm n
  unfold rec10 at hsm ⊢
  go_enter Tryd.func27, Tryd.ntmps27
  go_wp2_with (first | (go_at_call 30; refine (fields10 _).mono ?_; rintro e w' ⟨rfl, rfl⟩))
  have A0 : Aside0 (((w.alloc (.cells (recCells o nm n) 38)).alloc (.cells #[.int .i64 1, .int .i64 2, .int .i64 7] 60)).heap[w.heap.size]? = some (.cells (recCells o nm n) 38 (0, 0))) := ⟨blk_alloc (blk_new _ _) _⟩
  have A1 : Aside0 (((w.alloc (.cells (recCells o nm n) 38)).alloc (.cells #[.int .i64 1, .int .i64 2, .int .i64 7] 60)).heap[w.heap.size + 1]? = some (.cells #[.int .i64 1, .int .i64 2, .int .i64 7] 60 (0, 0))) := ⟨by have h := blk_new (w.alloc (.cells (recCells o nm n) 38)) (.cells #[.int .i64 1, .int .i64 2, .int .i64 7] 60); simpa using h⟩
  have A2 : Aside0 (Below w.heap.size w ((w.alloc (.cells (recCells o nm n) 38)).alloc (.cells #[.int .i64 1, .int .i64 2, .int .i64 7] 60))) := ⟨below_alloc (below_alloc (Below.refl _ _) _) _⟩
  go_region_with (first | (go_at_call 32; refine (clear10 o nm n (w.heap.size + 1) _ (by simp) (by simp) (by simp)).mono ?_; rintro e w' ⟨rfl, hb⟩; have R0 : Aside0 (w'.heap[w.heap.size]? = some (.cells (recCells o nm n) 38 (0, 0))) := ⟨by first | exact blk_below A0.out hb | exact blk_below (blk_drew A0.out) hb⟩; have R1 : Aside0 (w'.heap[w.heap.size + 1]? = some (.cells #[.int .i64 1, .int .i64 2, .int .i64 7] 60 (0, 0))) := ⟨by first | exact blk_below A1.out hb | exact blk_below (blk_drew A1.out) hb⟩; have R2 : Aside0 (Below w.heap.size w w') := ⟨by first | exact below_after A2.out hb | exact below_after (below_drew A2.out) hb⟩; clear hb A0 A1 A2; obtain ⟨c0, c1, c2, c3, c4, c5, c6, c7, c8⟩ := cell9 R0.out) | (go_at_call 31; refine (hsm _).mono ?_; rintro e w2 ⟨rfl, hb2⟩; have S0 : Aside0 (w2.heap[w.heap.size]? = some (.cells (recCells o nm n) 38 (0, 0))) := ⟨by first | exact blk_below R0.out hb2 | exact blk_below (blk_drew R0.out) hb2⟩; have S1 : Aside0 (w2.heap[w.heap.size + 1]? = some (.cells #[.int .i64 1, .int .i64 2, .int .i64 7] 60 (0, 0))) := ⟨by first | exact blk_below R1.out hb2 | exact blk_below (blk_drew R1.out) hb2⟩; have S2 : Aside0 (Below w.heap.size w w2) := ⟨by first | exact below_after R2.out hb2 | exact below_after (below_drew R2.out) hb2⟩; clear hb2 R0 R1 R2 c0 c1 c2 c3 c4 c5 c6 c7 c8))
  all_goals clear hcl hsm kn
  all_goals go_wp2_with (go_at_call 33; refine (containsFields 34 #[.pointer (some ⟨w.heap.size, 0, none⟩)] (fun f => !fieldB o nm n f) (w.heap.size + 1) _ (enters_of Tryd.func34 (by kernel_rfl) rfl) (fun W c hb hc => valid1 o nm n c w.heap.size 38 W (blk_below S0.out hb) hc ho hn) S1.out).mono ?_; rintro e w' ⟨rfl, hb3⟩; have S3 := Aside0.mk (below_after S2.out hb3); clear hb3)
  all_goals go_ret
  all_goals exact ⟨by simp [fieldB], S3.out⟩
end Go.Proofs.YtinidfeoellmhaaDoor
