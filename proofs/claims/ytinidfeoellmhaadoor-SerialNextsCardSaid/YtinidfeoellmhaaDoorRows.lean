/-
  NARROWER THAN 'FOR EVERY INPUT', by the rows' own cells (each row's printed sentence says how): SerialNexts: laid · SerialRuns: laid · SerialOnce: laid · SerialLost: laid · SerialRecords: laid.
  DERIVED. THE GIVEN ROWS OF THIS SEAT. 5 by the template 'for every input the law returns true; each argument reads behind the call as it read before'; 0 by the template 'total and deterministic' (their statements: YtinidfeoellmhaaDoorTotals.lean).
  GIVEN WITH THE SEED: the statements are not yours to turn. If you find one false, say at which input.
  Laid BY PROGRAM, IN A SANDBOX (cutbox-rows.mjs): the forced cells as the released guide's own fill.sh prints them over the translation c2c1d62e15a46056… (all of the seat's roots in one cut). By AI agents, Wed Nov 11 2026. No macro, syntax, notation, axiom, sorry.
-/
import Derived.Test.YtinidfeoellmhaaDoorChecked
import GoSem.Claim
import GoSem.ClaimJoined
import GoSem.ClaimMapViews
import Derived.JoinedTies
import Derived.KernelRfl
namespace Go.Proofs.YtinidfeoellmhaaDoor
/- THE CELL 'sum', in the pinned program and in every row, IS THE sha256 OF THE DUMP (.gsa) THAT YtinidfeoellmhaaDoorProg.lean LOADS. Nothing in Lean hashes anything: it is a label: what it is worth is what the hold of that sum in a sandbox is worth. -/
noncomputable def Tryd.pinned : Pinned := { name := "ytinidfeoellmhaadoor", sum := "c2c1d62e15a46056ca61ba2fa393788a69412185fa7f0241ee1d41fe2beeb379", checked := Tryd.checked }
namespace Rows
def none {H : Type} : Left H := { results := [], args := [] }

/- WHAT THE LISTED PACKAGE-LEVEL VARIABLES READ AS WHEN THE CALL BEGINS. Each datum BY PROGRAM (the guide's laid-datum.mjs) off the statement by which the dump's own 'gosem.cut.vars' lays the variable. In a bare row this is a premise. The card (YtinidfeoellmhaaDoorCards.lean) ties it to the program's text. -/
def laid_justiciar_value_Null {H : Type} : DataW H := .agg [.lit (.int .i64 0), .lit (.int .i64 0), .lit (.string [])]

/-- 'justiciarlaw24.SerialNexts': WHATEVER THE INPUT: true; the input reads as it did. -/
def serialNextsSpec : ChangeSpec := { name := "serialNexts", fn := fun _ => fun
  | [d1, d2, d3] => { results := [.lit (.bool true)], args := [d1, d2, d3] }
  | _ => none }
def serialNextsRow : OpenClaim := { program := "ytinidfeoellmhaadoor", sum := "c2c1d62e15a46056ca61ba2fa393788a69412185fa7f0241ee1d41fe2beeb379", func := "justiciar/justiciarlaw24.SerialNexts", spec := "serialNexts", unfollowed := true, recurses := true, named := ["justiciar/value.Null"], apart := false, laid := [("justiciar/value.Null", laid_justiciar_value_Null)] }
def SerialNextsSaid : Prop := serialNextsRow.holds Tryd.pinned (OpenSpec.ofChange serialNextsSpec)

/-- ITS FALSE NEIGHBOUR: 'it returns false'. Refute it at one input. -/
def serialNextsWrong : ChangeSpec := { name := "serialNexts", fn := fun _ => fun
  | [d1, d2, d3] => { results := [.lit (.bool false)], args := [d1, d2, d3] }
  | _ => none }
def SerialNextsWrongFalsely : Prop := serialNextsRow.holds Tryd.pinned (OpenSpec.ofChange serialNextsWrong)

/-- 'justiciarlaw24.SerialRuns': WHATEVER THE INPUT: true; the input reads as it did. -/
def serialRunsSpec : ChangeSpec := { name := "serialRuns", fn := fun _ => fun
  | [d1, d2] => { results := [.lit (.bool true)], args := [d1, d2] }
  | _ => none }
def serialRunsRow : OpenClaim := { program := "ytinidfeoellmhaadoor", sum := "c2c1d62e15a46056ca61ba2fa393788a69412185fa7f0241ee1d41fe2beeb379", func := "justiciar/justiciarlaw24.SerialRuns", spec := "serialRuns", unfollowed := true, recurses := true, named := ["justiciar/value.Null"], apart := false, laid := [("justiciar/value.Null", laid_justiciar_value_Null)] }
def SerialRunsSaid : Prop := serialRunsRow.holds Tryd.pinned (OpenSpec.ofChange serialRunsSpec)

/-- ITS FALSE NEIGHBOUR: 'it returns false'. Refute it at one input. -/
def serialRunsWrong : ChangeSpec := { name := "serialRuns", fn := fun _ => fun
  | [d1, d2] => { results := [.lit (.bool false)], args := [d1, d2] }
  | _ => none }
def SerialRunsWrongFalsely : Prop := serialRunsRow.holds Tryd.pinned (OpenSpec.ofChange serialRunsWrong)

/-- 'justiciarlaw24.SerialOnce': WHATEVER THE INPUT: true; the input reads as it did. -/
def serialOnceSpec : ChangeSpec := { name := "serialOnce", fn := fun _ => fun
  | [d1, d2] => { results := [.lit (.bool true)], args := [d1, d2] }
  | _ => none }
def serialOnceRow : OpenClaim := { program := "ytinidfeoellmhaadoor", sum := "c2c1d62e15a46056ca61ba2fa393788a69412185fa7f0241ee1d41fe2beeb379", func := "justiciar/justiciarlaw24.SerialOnce", spec := "serialOnce", unfollowed := true, recurses := true, named := ["justiciar/value.Null"], apart := false, laid := [("justiciar/value.Null", laid_justiciar_value_Null)] }
def SerialOnceSaid : Prop := serialOnceRow.holds Tryd.pinned (OpenSpec.ofChange serialOnceSpec)

/-- ITS FALSE NEIGHBOUR: 'it returns false'. Refute it at one input. -/
def serialOnceWrong : ChangeSpec := { name := "serialOnce", fn := fun _ => fun
  | [d1, d2] => { results := [.lit (.bool false)], args := [d1, d2] }
  | _ => none }
def SerialOnceWrongFalsely : Prop := serialOnceRow.holds Tryd.pinned (OpenSpec.ofChange serialOnceWrong)

/-- 'justiciarlaw24.SerialLost': WHATEVER THE INPUT: true; the input reads as it did. -/
def serialLostSpec : ChangeSpec := { name := "serialLost", fn := fun _ => fun
  | [d1, d2] => { results := [.lit (.bool true)], args := [d1, d2] }
  | _ => none }
def serialLostRow : OpenClaim := { program := "ytinidfeoellmhaadoor", sum := "c2c1d62e15a46056ca61ba2fa393788a69412185fa7f0241ee1d41fe2beeb379", func := "justiciar/justiciarlaw24.SerialLost", spec := "serialLost", unfollowed := true, recurses := true, named := ["justiciar/value.Null"], apart := false, laid := [("justiciar/value.Null", laid_justiciar_value_Null)] }
def SerialLostSaid : Prop := serialLostRow.holds Tryd.pinned (OpenSpec.ofChange serialLostSpec)

/-- ITS FALSE NEIGHBOUR: 'it returns false'. Refute it at one input. -/
def serialLostWrong : ChangeSpec := { name := "serialLost", fn := fun _ => fun
  | [d1, d2] => { results := [.lit (.bool false)], args := [d1, d2] }
  | _ => none }
def SerialLostWrongFalsely : Prop := serialLostRow.holds Tryd.pinned (OpenSpec.ofChange serialLostWrong)

/-- 'justiciarlaw24.SerialRecords': WHATEVER THE INPUT: true; the input reads as it did. -/
def serialRecordsSpec : ChangeSpec := { name := "serialRecords", fn := fun _ => fun
  | [d1, d2] => { results := [.lit (.bool true)], args := [d1, d2] }
  | _ => none }
def serialRecordsRow : OpenClaim := { program := "ytinidfeoellmhaadoor", sum := "c2c1d62e15a46056ca61ba2fa393788a69412185fa7f0241ee1d41fe2beeb379", func := "justiciar/justiciarlaw24.SerialRecords", spec := "serialRecords", unfollowed := true, recurses := true, named := ["justiciar/value.Null"], apart := false, laid := [("justiciar/value.Null", laid_justiciar_value_Null)] }
def SerialRecordsSaid : Prop := serialRecordsRow.holds Tryd.pinned (OpenSpec.ofChange serialRecordsSpec)

/-- ITS FALSE NEIGHBOUR: 'it returns false'. Refute it at one input. -/
def serialRecordsWrong : ChangeSpec := { name := "serialRecords", fn := fun _ => fun
  | [d1, d2] => { results := [.lit (.bool false)], args := [d1, d2] }
  | _ => none }
def SerialRecordsWrongFalsely : Prop := serialRecordsRow.holds Tryd.pinned (OpenSpec.ofChange serialRecordsWrong)

/- THE SECOND FORM. 'bulk': how many values and letters a reading holds, each counted each time it is reached (what is shared counts as often as it is met; a slice's spare places count too). A statement '..UptoSaid' is the law's where the arguments, and the package variables that the reading takes, are together of bulk at most 1048576: NARROWER than '..Said'. Prove '..Said' where nothing that the law and all that it calls make is longer than what came in: it says more and counts as full. Else prove '..UptoSaid'. A law counts once. -/
mutual
def uptoBulk {H : Type} : DataW H → Nat
  | .lit (.string bytes) => bytes.length + 1
  | .lit _ => 1
  | .nil => 1
  | .ptr d => uptoBulk d + 1
  | .slice elems spare => uptoBulkAll elems + uptoBulkAll spare + 1
  | .agg parts => uptoBulkAll parts + 1
  | .iface _ d => uptoBulk d + 1
  | .map entries => uptoBulkEntries entries + 1
  | .held _ => 1
def uptoBulkAll {H : Type} : List (DataW H) → Nat
  | [] => 0
  | d :: r => uptoBulk d + uptoBulkAll r
def uptoBulkEntries {H : Type} : List (Lit × DataW H) → Nat
  | [] => 0
  | x :: r => uptoBulkEntry x + uptoBulkEntries r
def uptoBulkEntry {H : Type} : Lit × DataW H → Nat
  | (.string bytes, d) => bytes.length + uptoBulk d + 1
  | (_, d) => uptoBulk d + 1
 end
def uptoSmall : (H : Type) → List (DataW H) → Bool := fun _ ds => decide (uptoBulkAll ds ≤ 1048576)
def OpenSpec.upto (s : _root_.Go.ChangeSpec) : _root_.Go.OpenSpec := { _root_.Go.OpenSpec.ofChange s with cond := some uptoSmall }

/-- 'justiciarlaw24.SerialNexts', WHERE WHAT IT READS IS OF BULK AT MOST 1048576: true; the input reads as it did. -/
def serialNextsUptoRow : OpenClaim := { program := "ytinidfeoellmhaadoor", sum := "c2c1d62e15a46056ca61ba2fa393788a69412185fa7f0241ee1d41fe2beeb379", func := "justiciar/justiciarlaw24.SerialNexts", spec := "serialNexts", unfollowed := true, recurses := true, named := ["justiciar/value.Null"], apart := false, laid := [("justiciar/value.Null", laid_justiciar_value_Null)], narrowed := true }
def SerialNextsUptoSaid : Prop := serialNextsUptoRow.holds Tryd.pinned (OpenSpec.upto serialNextsSpec)

/-- 'justiciarlaw24.SerialRuns', WHERE WHAT IT READS IS OF BULK AT MOST 1048576: true; the input reads as it did. -/
def serialRunsUptoRow : OpenClaim := { program := "ytinidfeoellmhaadoor", sum := "c2c1d62e15a46056ca61ba2fa393788a69412185fa7f0241ee1d41fe2beeb379", func := "justiciar/justiciarlaw24.SerialRuns", spec := "serialRuns", unfollowed := true, recurses := true, named := ["justiciar/value.Null"], apart := false, laid := [("justiciar/value.Null", laid_justiciar_value_Null)], narrowed := true }
def SerialRunsUptoSaid : Prop := serialRunsUptoRow.holds Tryd.pinned (OpenSpec.upto serialRunsSpec)

/-- 'justiciarlaw24.SerialOnce', WHERE WHAT IT READS IS OF BULK AT MOST 1048576: true; the input reads as it did. -/
def serialOnceUptoRow : OpenClaim := { program := "ytinidfeoellmhaadoor", sum := "c2c1d62e15a46056ca61ba2fa393788a69412185fa7f0241ee1d41fe2beeb379", func := "justiciar/justiciarlaw24.SerialOnce", spec := "serialOnce", unfollowed := true, recurses := true, named := ["justiciar/value.Null"], apart := false, laid := [("justiciar/value.Null", laid_justiciar_value_Null)], narrowed := true }
def SerialOnceUptoSaid : Prop := serialOnceUptoRow.holds Tryd.pinned (OpenSpec.upto serialOnceSpec)

/-- 'justiciarlaw24.SerialLost', WHERE WHAT IT READS IS OF BULK AT MOST 1048576: true; the input reads as it did. -/
def serialLostUptoRow : OpenClaim := { program := "ytinidfeoellmhaadoor", sum := "c2c1d62e15a46056ca61ba2fa393788a69412185fa7f0241ee1d41fe2beeb379", func := "justiciar/justiciarlaw24.SerialLost", spec := "serialLost", unfollowed := true, recurses := true, named := ["justiciar/value.Null"], apart := false, laid := [("justiciar/value.Null", laid_justiciar_value_Null)], narrowed := true }
def SerialLostUptoSaid : Prop := serialLostUptoRow.holds Tryd.pinned (OpenSpec.upto serialLostSpec)

/-- 'justiciarlaw24.SerialRecords', WHERE WHAT IT READS IS OF BULK AT MOST 1048576: true; the input reads as it did. -/
def serialRecordsUptoRow : OpenClaim := { program := "ytinidfeoellmhaadoor", sum := "c2c1d62e15a46056ca61ba2fa393788a69412185fa7f0241ee1d41fe2beeb379", func := "justiciar/justiciarlaw24.SerialRecords", spec := "serialRecords", unfollowed := true, recurses := true, named := ["justiciar/value.Null"], apart := false, laid := [("justiciar/value.Null", laid_justiciar_value_Null)], narrowed := true }
def SerialRecordsUptoSaid : Prop := serialRecordsUptoRow.holds Tryd.pinned (OpenSpec.upto serialRecordsSpec)

end Rows
end Go.Proofs.YtinidfeoellmhaaDoor
