/-
  The contracts of lex.Name and of what redo.Valid calls for a record of a sequence's mark: each returns what one plain function says, and writes nothing that was there. No conditions.
-/
import Derived.Test.YtinidfeoellmhaaDoorH1
import Derived.LoopN
import Derived.Shelf.Abstract
namespace Go.Proofs.YtinidfeoellmhaaDoor
open Go.RowKit Go.Proofs.YtinidfeoellmhaaDoorW.PrintWords
set_option linter.unusedVariables false
set_option linter.unusedSimpArgs false

theorem fields10 (w : World) : Calls Tryd.prog 30 #[.int .i64 10] w fun e w' => e = .returned (.slice (some ⟨w.heap.size, 0, none⟩) 3 3) ∧ w.alloc (.cells #[.int .i64 1, .int .i64 2, .int .i64 7] 60) = w' := by
  go_enter Tryd.func30, Tryd.ntmps30
  go_wp2
  go_ret
  exact ⟨rfl, rfl⟩

def rec10 (o nm : ByteArray) (n : Int) : Value := .agg #[.int .i64 10, .int .i64 0, .string o, .string nm, .int .i64 0, .slice none 0 0, .int .i64 0, .string ⟨#[]⟩, .int .i64 n]

theorem equal_nil (w : World) : Calls Tryd.prog 49 #[.slice none 0 0, .slice none 0 0] w fun e w' => e = .returned (.bool true) ∧ w = w' := by
  go_enter Tryd.func49, Tryd.ntmps49
  go_wp2
  refine wp_loop_rounds 1 ?_
  rw [rounds_succ]
  go_wp2
  go_ret
  exact ⟨rfl, rfl⟩
theorem sameRow_nil (w : World) : Calls Tryd.prog 39 #[.slice none 0 0, .slice none 0 0] w fun e w' => e = .returned (.bool true) ∧ w = w' := by
  go_enter Tryd.func39, Tryd.ntmps39
  go_wp2_with (first | (go_at_call 49; refine (equal_nil _).mono ?_; rintro e w' ⟨rfl, rfl⟩))
  go_ret
  exact ⟨rfl, rfl⟩
theorem same10 (o nm : ByteArray) (n : Int) (w : World) : Calls Tryd.prog 31 #[rec10 o nm n, rec10 o nm n] w fun e w' => e = .returned (.bool true) ∧ Below w.heap.size w w' := by
  unfold rec10
  go_enter Tryd.func31, Tryd.ntmps31
  go_wp2_with (first | (go_at_call 39; refine (sameRow_nil _).mono ?_; rintro e w' ⟨rfl, rfl⟩))
  go_ret
  exact ⟨by simp, by repeat (first | exact Below.refl _ _ | apply below_alloc)⟩
theorem cell_old3 {w : World} {g k : Nat} {v : Value} (h : w.cell? ⟨g, k, none⟩ = some v) (o1 o2 o3 : Obj) : (((w.alloc o1).alloc o2).alloc o3).cell? ⟨g, k, none⟩ = some v :=
  pw_cell_below (below_alloc (below_alloc (below_alloc (Below.refl _ _) _) _) _) h
set_option maxHeartbeats 1000000 in
theorem clear10 (o nm : ByteArray) (n : Int) (g : Nat) (w : World) (h0 : w.cell? ⟨g, 0, none⟩ = some (.int .i64 1)) (h1 : w.cell? ⟨g, 1, none⟩ = some (.int .i64 2)) (h2 : w.cell? ⟨g, 2, none⟩ = some (.int .i64 7)) : Calls Tryd.prog 32 #[rec10 o nm n, .slice (some ⟨g, 0, none⟩) 3 3] w fun e w' => e = .returned (rec10 o nm n) ∧ Below w.heap.size w w' := by
  unfold rec10
  have k0 := cell_old3 h0
  have k1 := cell_old3 h1
  have k2 := cell_old3 h2
  clear h0 h1 h2
  go_enter Tryd.func32, Tryd.ntmps32
  go_wp2
  refine wp_loop_rounds 4 ?_
  rw [rounds_succ]
  go_wp2
  rw [rounds_succ]
  go_wp2
  rw [rounds_succ]
  go_wp2
  rw [rounds_succ]
  go_wp2
  refine bodyPost_ret (v := .agg #[.int .i64 10, .int .i64 0, .string o, .string nm, .int .i64 0, .slice none 0 0, .int .i64 0, .string ⟨#[]⟩, .int .i64 n]) (by simp [results, Tryd.results32, go_sem]) rfl ⟨rfl, ?_⟩
  repeat (first | exact Below.refl _ _ | apply below_alloc)

/-! ### names -/
def smallB (c : Int) : Bool := decide (97 ≤ c) && decide (c ≤ 122)
def digitB (c : Int) : Bool := decide (48 ≤ c) && decide (c ≤ 57)
def namedB (c : Int) : Bool := smallB c || (digitB c || c == 95)
theorem lexSmall (c : Int) (w : World) : Calls Tryd.prog 63 #[.int .u8 c] w fun e w' => e = .returned (.bool (smallB c)) ∧ w = w' := by
  go_enter Tryd.func63, Tryd.ntmps63
  go_wp2
  all_goals (go_ret; exact ⟨by first | (simp [smallB, *]; done) | (simp [smallB, *]; omega), rfl⟩)
theorem lexDigit (c : Int) (w : World) : Calls Tryd.prog 66 #[.int .u8 c] w fun e w' => e = .returned (.bool (digitB c)) ∧ w = w' := by
  go_enter Tryd.func66, Tryd.ntmps66
  go_wp2
  all_goals (go_ret; exact ⟨by first | (simp [digitB, *]; done) | (simp [digitB, *]; omega), rfl⟩)
theorem isName1 (c : Int) (w : World) : Calls Tryd.prog 65 #[.int .u8 c] w fun e w' => e = .returned (.bool (!namedB c)) ∧ w = w' := by
  go_enter Tryd.func65, Tryd.ntmps65
  go_wp2_with (first | (go_at_call 63; refine (lexSmall _ _).mono ?_; rintro e w' ⟨rfl, rfl⟩) | (go_at_call 66; refine (lexDigit _ _).mono ?_; rintro e w' ⟨rfl, rfl⟩))
  all_goals (go_ret; exact ⟨by first | (simp [namedB, *]; done) | (simp_all [namedB, bne]; done), rfl⟩)

/-- slices.IndexFunc over bytes, at a function that hands back p of the byte and leaves the world as it is. -/
theorem indexBytes (g : Nat) (p : Int → Bool) (A : Option Addr) (cp : Nat) (xs : List Int) (w : World) (eg : ∀ args w, (callFunc g args).run Tryd.prog w = .ok (.enter g args) w)
    (hp : ∀ c w, Calls Tryd.prog g #[.int .u8 c] w fun e w' => e = .returned (.bool (p c)) ∧ w = w') (hr : Aside0 (ReadsInt w .u8 A xs.length xs)) (hn : xs.length ≤ 9223372036854775807) :
    Calls Tryd.prog 73 #[.slice A xs.length cp, .func (.func g) #[] #[]] w fun e w' => (∃ r : Int, e = .returned (.int .i64 r) ∧ decide (0 ≤ r) = xs.any p) ∧ w = w' := by
  go_enter Tryd.func73, Tryd.ntmps73
  go_wp2
  go_loop [8] (fun v => ∃ i : Nat, i ≤ xs.length ∧ v = .int .i64 i ∧ Aside0 ((xs.take i).any p = false)) (fun v => xs.length - (intOf v).toNat)
  case atStart => exact ⟨0, by omega, rfl, ⟨by simp⟩⟩
  case round =>
    obtain ⟨i, hi, rfl, HA⟩ := hrel
    by_cases hlt : i < xs.length
    · have hltz : (i : Int) < (xs.length : Int) := by omega
      obtain ⟨ad, rfl, hc⟩ := hr.out.at_ i (by omega) (by omega)
      rw [Int.toNat_natCast] at hc
      have hcall := hp (rd xs i)
      cases hq : p (rd xs i) with
      | true =>
        rw [hq] at hcall
        go_wp2_with (go_at_fn g; refine (hcall _).mono ?_; rintro e w' ⟨rfl, rfl⟩)
        go_ret
        exact ⟨⟨i, rfl, by
          have h1 : xs.any p = true := List.any_eq_true.2 ⟨rd xs i, by simp only [rd, Int.toNat_natCast, List.getD_eq_getElem?_getD, List.getElem?_eq_getElem hlt, Option.getD_some]; exact List.getElem_mem hlt, hq⟩
          rw [h1]; simp⟩, rfl⟩
      | false =>
        rw [hq] at hcall
        go_wp2_with (go_at_fn g; refine (hcall _).mono ?_; rintro e w' ⟨rfl, rfl⟩)
        go_round
        case rel => exact ⟨i + 1, by omega, by go_num, ⟨by
          rw [List.take_succ_eq_append_getElem hlt, List.any_append, HA.out]
          simpa [rd, hlt] using hq⟩⟩
        case measure => simp [intOf]; omega
    · have hltz : ¬ (i : Int) < (xs.length : Int) := by omega
      go_wp2
      go_ret
      exact ⟨⟨-1, rfl, by
        have h := HA.out
        rw [List.take_of_length_le (by omega)] at h
        rw [h]; rfl⟩, rfl⟩
theorem containsBytes (g : Nat) (p : Int → Bool) (A : Option Addr) (cp : Nat) (xs : List Int) (w : World) (eg : ∀ args w, (callFunc g args).run Tryd.prog w = .ok (.enter g args) w)
    (hp : ∀ c w, Calls Tryd.prog g #[.int .u8 c] w fun e w' => e = .returned (.bool (p c)) ∧ w = w') (hr : Aside0 (ReadsInt w .u8 A xs.length xs)) (hn : xs.length ≤ 9223372036854775807) :
    Calls Tryd.prog 64 #[.slice A xs.length cp, .func (.func g) #[] #[]] w fun e w' => e = .returned (.bool (xs.any p)) ∧ w = w' := by
  go_enter Tryd.func64, Tryd.ntmps64
  go_wp2_with (go_at_call 73; refine (indexBytes g p A cp xs _ eg hp hr hn).mono ?_; rintro e w' ⟨⟨r, rfl, hr1⟩, rfl⟩)
  go_ret
  exact ⟨rfl, rfl⟩

/-- A name, but for the words. -/
def nameB0 (s : ByteArray) : Bool := decide (1 ≤ s.size) && smallB (bt s 0) && decide (s.size ≤ 30) && (bytesOf s).all namedB
theorem bt_head (s : ByteArray) (h : 0 < s.size) : ((s[0]'h).toNat : Int) = bt s 0 := by simp [bt, h]
theorem lexIsName (s : ByteArray) (w : World) (hs : s.size ≤ 9223372036854775807) : Calls Tryd.prog 55 #[.string s] w fun e w' => e = .returned (.bool (nameB0 s)) ∧ Below w.heap.size w w' := by
  have kb := fun W => print_bytes (P := Tryd.prog) 9 80 5 Tryd.underlying9 Tryd.underlying80 Tryd.underlying5 s W
  have kr := fun W => bytes_reads W 5 s hs
  by_cases h0 : s.size = 0
  · have hn : nameB0 s = false := by simp [nameB0, h0]
    have he : s.toList = [] := by rw [ByteArray.toList_eq]; exact List.eq_nil_of_length_eq_zero (by rw [data_length]; exact h0)
    rw [hn]
    clear hn
    go_enter Tryd.func55, Tryd.ntmps55
    go_wp2_with (first | (go_at_call 63; refine (lexSmall _ _).mono ?_; rintro e w' ⟨rfl, rfl⟩))
    go_ret
    exact ⟨rfl, Below.refl _ _⟩
  · have hpos : 0 < s.size := by omega
    have he : s.toList.isEmpty = false := by
      rw [ByteArray.toList_eq, List.isEmpty_eq_false_iff]; intro e; have := data_length s; rw [e] at this; simp at this; omega
    have he2 : ¬ (s.toList = []) := by intro e; rw [e] at he; simp at he
    have hbt := bt_head s hpos
    by_cases hc : smallB (bt s 0) = true ∧ s.size ≤ 30
    · obtain ⟨h1, h2⟩ := hc
      have hn : nameB0 s = !((bytesOf s).any fun c => !namedB c) := by
        simp [nameB0, h1, h2, show 1 ≤ s.size by omega, List.all_eq_not_any_not]
      have hl : ¬ (30 < (s.size : Int)) := by omega
      rw [hn]
      clear hn
      go_enter Tryd.func55, Tryd.ntmps55
      go_wp2_with (first | (go_at_call 63; refine (lexSmall _ _).mono ?_; rintro e w' ⟨rfl, rfl⟩) | (go_at_call 64; refine (by have h := containsBytes 65 (fun c => !namedB c) (some ⟨w.heap.size, 0, none⟩) (grownCap w s.size 0 5) (bytesOf s) (Lib.bytesWorld w 5 s) (enters_of Tryd.func65 (by kernel_rfl) rfl) isName1 ⟨by rw [bytesOf_length]; exact kr w⟩ (by rw [bytesOf_length]; exact hs); rw [bytesOf_length] at h; exact h : Calls Tryd.prog 64 #[.slice (some ⟨w.heap.size, 0, none⟩) s.size (grownCap w s.size 0 5), .func (.func 65) #[] #[]] (Lib.bytesWorld w 5 s) fun e w' => e = .returned (.bool ((bytesOf s).any fun c => !namedB c)) ∧ Lib.bytesWorld w 5 s = w').mono ?_; rintro e w' ⟨rfl, rfl⟩))
      go_ret
      exact ⟨rfl, bytes_below (Below.refl _ _) (Nat.le_refl _) 5 s⟩
    · have hn : nameB0 s = false := by
        cases h1 : smallB (bt s 0)
        · simp [nameB0, h1]
        · have : ¬ s.size ≤ 30 := fun h => hc ⟨h1, h⟩
          simp [nameB0, this]
      rw [hn]
      clear hn
      have hc' : smallB (bt s 0) = false ∨ (smallB (bt s 0) = true ∧ 30 < (s.size : Int)) := by
        cases h1 : smallB (bt s 0)
        · exact .inl rfl
        · exact .inr ⟨rfl, by have : ¬ s.size ≤ 30 := fun h => hc ⟨h1, h⟩; omega⟩
      rcases hc' with h1 | ⟨h1, h2⟩
      all_goals
        clear hc
        go_enter Tryd.func55, Tryd.ntmps55
        go_wp2_with (first | (go_at_call 63; refine (lexSmall _ _).mono ?_; rintro e w' ⟨rfl, rfl⟩))
        go_ret
        exact ⟨rfl, Below.refl _ _⟩


/-! ### words -/
def wTest (id d : Nat) (c : ByteArray) (pos : String) : Code :=
  .region id #[{ dst := some d, op := .binOp .eql 9 (.tmp 3) (.const (.string c)) 9, type := 4, pos := pos, after := #[], guard := none }, { dst := some 4, op := .assign (.tmp d), type := 4, pos := pos, after := #[{ on := 0, ground := .data }], guard := none }] false
def wChain : Nat → List (String × ByteArray) → Code
  | _, [] => .skip
  | k, [x] => wTest k (k + 3) x.2 x.1
  | k, x :: y :: l => .seq (wTest k (k + 3) x.2 x.1) (.cond (.tmp 4) .skip (wChain (k + 1) (y :: l)))

/-- The frame of Word: slots 0 to 3 as they were, slot 4 holds b. -/
def wFrame (a a' : Act) (b : Bool) : Prop := a'.tmps.size = a.tmps.size ∧ a'.defers = a.defers ∧ (∀ i, i < 4 → a'.tmps.getD i undef = a.tmps.getD i undef) ∧ a'.tmps.getD 4 undef = .bool b

theorem wTest_wp {s c : ByteArray} {id d : Nat} {pos : String} {Q : Exit → Act → World → Prop} {a : Act} {w : World} (h3 : a.tmps.getD 3 undef = .string s) (hd : d < a.tmps.size) (hd4 : 4 < d)
    (h : ∀ a', wFrame a a' (s.toList == c.toList) → Q .normal a' w) : (wTest id d c pos).wp Tryd.prog Q a w := by
  have he : a.eval (.tmp 3) = .string s := h3
  refine wp_region_lit (l := [_, _]) ?_
  refine wpList_plain rfl fun K hK => ?_
  go_simp
  refine hK _ _ ?_
  clear hK K
  refine wpList_plain rfl fun K hK => ?_
  have he2 : (a.put (some d) (.bool (s.toList == c.toList))).eval (.tmp d) = .bool (s.toList == c.toList) := by
    simp [Act.put, Act.eval, hd]
  go_simp
  refine hK _ _ ?_
  clear hK K
  refine wpList_nil (h _ ⟨by simp [Act.put], rfl, fun i hi => ?_, ?_⟩)
  · have h1 : d ≠ i := by omega
    have h2 : 4 ≠ i := by omega
    simp [Act.put, Array.getElem?_setIfInBounds, h1, h2]
  · have h4 : 4 < a.tmps.size := by omega
    simp [Act.put, Array.getElem?_setIfInBounds, h4]

theorem wFrame.trans {a b c : Act} {x y : Bool} (h : wFrame a b x) (k : wFrame b c y) : wFrame a c y :=
  ⟨k.1.trans h.1, k.2.1.trans h.2.1, fun i hi => (k.2.2.1 i hi).trans (h.2.2.1 i hi), k.2.2.2⟩
theorem wChain_wp {s : ByteArray} (l : List (String × ByteArray)) : ∀ {k : Nat} {Q : Exit → Act → World → Prop} {a : Act} {w : World}, l ≠ [] → a.tmps.getD 3 undef = .string s → 2 ≤ k → k + 3 + l.length ≤ a.tmps.size →
    (∀ a', wFrame a a' (l.any fun x => s.toList == x.2.toList) → Q .normal a' w) → (wChain k l).wp Tryd.prog Q a w := by
  induction l with
  | nil => intro k Q a w h; exact absurd rfl h
  | cons x l ih =>
    intro k Q a w _ h3 hk hs h
    cases l with
    | nil =>
      refine wTest_wp h3 (by simp at hs; omega) (by omega) fun a' ha => h a' ?_
      simpa using ha
    | cons y l =>
      refine wp_seq_k fun K hK => ?_
      refine wTest_wp h3 (by simp at hs; omega) (by omega) fun a' ha => hK a' w ?_
      refine wp_cond ha.2.2.2 ?_
      cases hb : (s.toList == x.2.toList) with
      | true =>
        rw [hb] at ha
        refine wp_skip (h a' ?_)
        simpa [hb] using ha
      | false =>
        refine ih (by simp) ((ha.2.2.1 3 (by omega)).trans h3) (by omega) (by rw [ha.1]; simp at hs ⊢; omega) fun a'' ha2 => h a'' ?_
        have := ha.trans ha2
        simpa [hb] using this
def wordL : List (String × ByteArray) := [("lex.go:16", ⟨#[111, 114]⟩), ("lex.go:16", ⟨#[97, 110, 100]⟩), ("lex.go:16", ⟨#[110, 111, 116]⟩), ("lex.go:16", ⟨#[105, 115]⟩), ("lex.go:16", ⟨#[110, 117, 108, 108]⟩), ("lex.go:16", ⟨#[105, 110]⟩), ("lex.go:16", ⟨#[98, 101, 116, 119, 101, 101, 110]⟩), ("lex.go:16", ⟨#[108, 105, 107, 101]⟩), ("lex.go:16", ⟨#[109, 111, 100]⟩), ("lex.go:16", ⟨#[116, 114, 117, 101]⟩), ("lex.go:16", ⟨#[102, 97, 108, 115, 101]⟩), ("lex.go:16", ⟨#[110, 101, 119]⟩), ("lex.go:16", ⟨#[111, 108, 100]⟩), ("lex.go:16", ⟨#[115, 113, 108]⟩), ("lex.go:16", ⟨#[102, 111, 117, 110, 100]⟩), ("lex.go:16", ⟨#[110, 111, 116, 102, 111, 117, 110, 100]⟩), ("lex.go:16", ⟨#[105, 115, 111, 112, 101, 110]⟩), ("lex.go:16", ⟨#[114, 111, 119, 99, 111, 117, 110, 116]⟩), ("lex.go:17", ⟨#[99, 111, 117, 110, 116]⟩), ("lex.go:17", ⟨#[101, 120, 105, 115, 116, 115]⟩), ("lex.go:17", ⟨#[99, 97, 115, 101]⟩), ("lex.go:17", ⟨#[119, 104, 101, 110]⟩), ("lex.go:17", ⟨#[116, 104, 101, 110]⟩), ("lex.go:17", ⟨#[101, 108, 115, 101]⟩), ("lex.go:17", ⟨#[101, 110, 100]⟩), ("lex.go:17", ⟨#[115, 101, 108, 101, 99, 116]⟩), ("lex.go:17", ⟨#[100, 105, 115, 116, 105, 110, 99, 116]⟩), ("lex.go:17", ⟨#[102, 114, 111, 109]⟩), ("lex.go:17", ⟨#[119, 104, 101, 114, 101]⟩), ("lex.go:17", ⟨#[103, 114, 111, 117, 112]⟩), ("lex.go:17", ⟨#[98, 121]⟩), ("lex.go:17", ⟨#[104, 97, 118, 105, 110, 103]⟩), ("lex.go:17", ⟨#[111, 114, 100, 101, 114]⟩), ("lex.go:17", ⟨#[100, 101, 115, 99]⟩), ("lex.go:17", ⟨#[102, 111, 114]⟩), ("lex.go:18", ⟨#[117, 112, 100, 97, 116, 101]⟩), ("lex.go:18", ⟨#[97, 115]⟩), ("lex.go:18", ⟨#[111, 102]⟩), ("lex.go:18", ⟨#[105, 110, 115, 101, 114, 116]⟩), ("lex.go:18", ⟨#[105, 110, 116, 111]⟩), ("lex.go:18", ⟨#[118, 97, 108, 117, 101, 115]⟩), ("lex.go:18", ⟨#[115, 101, 116]⟩), ("lex.go:18", ⟨#[100, 101, 108, 101, 116, 101]⟩), ("lex.go:18", ⟨#[105, 110, 116]⟩), ("lex.go:18", ⟨#[116, 101, 120, 116]⟩), ("lex.go:18", ⟨#[98, 111, 111, 108]⟩), ("lex.go:18", ⟨#[97, 114, 114, 97, 121]⟩), ("lex.go:18", ⟨#[99, 117, 114, 115, 111, 114]⟩), ("lex.go:18", ⟨#[101, 120, 99, 101, 112, 116, 105, 111, 110]⟩), ("lex.go:18", ⟨#[100, 101, 99, 108, 97, 114, 101]⟩), ("lex.go:18", ⟨#[98, 101, 103, 105, 110]⟩), ("lex.go:18", ⟨#[101, 120, 105, 116]⟩), ("lex.go:19", ⟨#[114, 101, 116, 117, 114, 110]⟩), ("lex.go:19", ⟨#[114, 97, 105, 115, 101]⟩), ("lex.go:19", ⟨#[105, 102]⟩), ("lex.go:19", ⟨#[101, 108, 115, 105, 102]⟩), ("lex.go:19", ⟨#[119, 104, 105, 108, 101]⟩), ("lex.go:19", ⟨#[108, 111, 111, 112]⟩), ("lex.go:19", ⟨#[114, 101, 118, 101, 114, 115, 101]⟩), ("lex.go:19", ⟨#[111, 112, 101, 110]⟩), ("lex.go:19", ⟨#[99, 108, 111, 115, 101]⟩), ("lex.go:19", ⟨#[102, 101, 116, 99, 104]⟩), ("lex.go:19", ⟨#[98, 117, 108, 107]⟩), ("lex.go:19", ⟨#[99, 111, 108, 108, 101, 99, 116]⟩), ("lex.go:19", ⟨#[108, 105, 109, 105, 116]⟩), ("lex.go:19", ⟨#[102, 111, 114, 97, 108, 108]⟩), ("lex.go:19", ⟨#[99, 111, 109, 109, 105, 116]⟩), ("lex.go:19", ⟨#[114, 111, 108, 108, 98, 97, 99, 107]⟩), ("lex.go:20", ⟨#[116, 111]⟩), ("lex.go:20", ⟨#[115, 97, 118, 101, 112, 111, 105, 110, 116]⟩), ("lex.go:20", ⟨#[111, 117, 116]⟩), ("lex.go:20", ⟨#[112, 114, 111, 99, 101, 100, 117, 114, 101]⟩), ("lex.go:20", ⟨#[102, 117, 110, 99, 116, 105, 111, 110]⟩), ("lex.go:20", ⟨#[97, 117, 116, 111, 110, 111, 109, 111, 117, 115]⟩), ("lex.go:20", ⟨#[99, 114, 101, 97, 116, 101]⟩), ("lex.go:20", ⟨#[114, 101, 112, 108, 97, 99, 101]⟩), ("lex.go:20", ⟨#[100, 114, 111, 112]⟩), ("lex.go:20", ⟨#[97, 108, 116, 101, 114]⟩), ("lex.go:20", ⟨#[116, 97, 98, 108, 101]⟩), ("lex.go:20", ⟨#[97, 100, 100]⟩), ("lex.go:20", ⟨#[103, 114, 97, 110, 116]⟩), ("lex.go:20", ⟨#[111, 110]⟩), ("lex.go:20", ⟨#[114, 101, 118, 111, 107, 101]⟩), ("lex.go:21", ⟨#[97, 108, 108]⟩), ("lex.go:21", ⟨#[117, 115, 101, 114]⟩), ("lex.go:21", ⟨#[105, 110, 100, 101, 120]⟩), ("lex.go:21", ⟨#[115, 101, 113, 117, 101, 110, 99, 101]⟩), ("lex.go:21", ⟨#[115, 116, 97, 114, 116]⟩), ("lex.go:21", ⟨#[99, 97, 99, 104, 101]⟩), ("lex.go:21", ⟨#[118, 105, 101, 119]⟩), ("lex.go:21", ⟨#[105, 110, 118, 111, 107, 101, 114]⟩), ("lex.go:21", ⟨#[112, 97, 99, 107, 97, 103, 101]⟩), ("lex.go:21", ⟨#[112, 114, 105, 118, 97, 116, 101]⟩), ("lex.go:21", ⟨#[116, 114, 105, 103, 103, 101, 114]⟩), ("lex.go:21", ⟨#[98, 101, 102, 111, 114, 101]⟩), ("lex.go:21", ⟨#[97, 102, 116, 101, 114]⟩), ("lex.go:21", ⟨#[101, 97, 99, 104]⟩), ("lex.go:21", ⟨#[114, 111, 119]⟩), ("lex.go:22", ⟨#[100, 101, 102, 97, 117, 108, 116]⟩), ("lex.go:22", ⟨#[99, 111, 110, 115, 116, 114, 97, 105, 110, 116]⟩), ("lex.go:22", ⟨#[117, 110, 105, 113, 117, 101]⟩), ("lex.go:22", ⟨#[112, 114, 105, 109, 97, 114, 121]⟩), ("lex.go:22", ⟨#[107, 101, 121]⟩), ("lex.go:22", ⟨#[99, 104, 101, 99, 107]⟩), ("lex.go:22", ⟨#[102, 111, 114, 101, 105, 103, 110]⟩), ("lex.go:22", ⟨#[114, 101, 102, 101, 114, 101, 110, 99, 101, 115]⟩), ("lex.go:22", ⟨#[100, 101, 102, 101, 114, 114, 101, 100]⟩), ("lex.go:22", ⟨#[101, 120, 101, 99, 117, 116, 101]⟩)]
theorem f56_body : Tryd.f56.body = some (.seq (.region 0 #[{ dst := some 2, op := .assign (.const (.bool false)), type := 4, pos := "lex.go:14", after := #[], guard := none }] false)
    (.seq (.seq (.region 1 #[{ dst := some 3, op := .move (.tmp 0), type := 9, pos := "lex.go:15", after := #[], guard := none }] false)
      (.block 0 (.seq (wChain 2 wordL) (.cond (.tmp 4) (.seq (.region 110 #[{ dst := some 2, op := .assign (.const (.bool true)), type := 4, pos := "lex.go:23", after := #[], guard := none }] false) .ret) .skip))))
      (.seq (.region 111 #[{ dst := some 2, op := .assign (.const (.bool false)), type := 4, pos := "lex.go:25", after := #[], guard := none }] false) .ret))) := by kernel_rfl
def wordB (s : ByteArray) : Bool := wordL.any fun x => s.toList == x.2.toList
theorem wSet_wp {id : Nat} {v : Value} {pos : String} {Q : Exit → Act → World → Prop} {a : Act} {w : World} (h : Q .normal (a.put (some 2) v) w) :
    (Code.region id #[{ dst := some 2, op := .assign (.const v), type := 4, pos := pos, after := #[], guard := none }] false).wp Tryd.prog Q a w := by
  refine wp_region_lit (l := [_]) ?_
  refine wpList_plain rfl fun K hK => ?_
  go_simp
  exact hK _ _ (wpList_nil h)
theorem wMove_wp {id : Nat} {s : ByteArray} {pos : String} {Q : Exit → Act → World → Prop} {a : Act} {w : World} (h0 : a.tmps.getD 0 undef = .string s) (h : Q .normal (a.put (some 3) (.string s)) w) :
    (Code.region id #[{ dst := some 3, op := .move (.tmp 0), type := 9, pos := pos, after := #[], guard := none }] false).wp Tryd.prog Q a w := by
  have he : a.eval (.tmp 0) = .string s := h0
  refine wp_region_lit (l := [_]) ?_
  refine wpList_plain rfl fun K hK => ?_
  go_simp
  exact hK _ _ (wpList_nil h)
theorem wEnd {s : ByteArray} {b : Bool} {a : Act} {w : World} (hs : 2 < a.tmps.size) (hd : a.defers = []) (hb : wordB s = b) :
    bodyPost Tryd.prog Tryd.f56 (fun e w' => e = .returned (.bool (wordB s)) ∧ w = w') .ret (a.put (some 2) (.bool b)) w := by
  refine bodyPost_ret (v := .bool b) ?_ hd ⟨by rw [hb], rfl⟩
  simp [results, Tryd.results56, go_sem, Act.put, hs]
theorem lexWord (s : ByteArray) (w : World) : Calls Tryd.prog 56 #[.string s] w fun e w' => e = .returned (.bool (wordB s)) ∧ w = w' := by
  refine calls_of_wp Tryd.func56 f56_body ?_
  obtain ⟨a0, ha0⟩ : ∃ a0 : Act, a0 = { tmps := #[.string s] ++ Array.replicate (Tryd.f56.ntmps - 1) undef, defers := [] } := ⟨_, rfl⟩
  have hn : Tryd.f56.ntmps = 113 := by kernel_rfl
  have z0 : a0.tmps.size = 113 := by rw [ha0, hn]; simp
  have z1 : a0.tmps.getD 0 undef = .string s := by rw [ha0, hn]; simp
  have z2 : a0.defers = [] := by rw [ha0]
  show Code.wp _ _ _ { tmps := #[.string s] ++ Array.replicate (Tryd.f56.ntmps - 1) undef, defers := [] } w
  rw [← ha0]
  clear ha0
  refine wp_seq_k fun K hK => wSet_wp (hK _ _ ?_)
  clear hK K
  refine wp_seq_k fun K2 hK2 => ?_
  refine wp_seq_k fun K hK => wMove_wp (s := s) (by simpa [Act.put, z0] using z1) (hK _ _ ?_)
  clear hK K
  refine wp_block ?_
  refine wp_seq_k fun K hK => ?_
  refine wChain_wp (s := s) wordL (by simp [wordL]) (by simp [Act.put, z0]) (by omega) (by simp [Act.put, z0, wordL]) fun a' ha => hK a' w ?_
  clear hK K
  have y0 : a'.tmps.size = 113 := by rw [ha.1]; simp [Act.put, z0]
  have y1 : a'.defers = [] := by rw [ha.2.1]; exact z2
  refine wp_cond ha.2.2.2 ?_
  cases hb : wordL.any fun x => s.toList == x.2.toList with
  | true =>
    refine wp_seq_k fun K hK => wSet_wp (hK _ _ ?_)
    exact wp_ret (wEnd (by omega) y1 hb)
  | false =>
    refine wp_skip ?_
    refine hK2 _ _ ?_
    refine wp_seq_k fun K hK => wSet_wp (hK _ _ ?_)
    exact wp_ret (wEnd (by omega) y1 hb)

end Go.Proofs.YtinidfeoellmhaaDoor
