/-
  DERIVED. GIVEN WITH THE SEED: THE CARDS: each row of YtinidfeoellmhaaDoorRows.lean that lists a variable, with what it lists TIED to the program's text (the seventh form; the later family's looks); each row that meets fmt, with fmt's text TOLD by the authors' own Lean function (tested against real Go, not proved from fmt's source: count such statements apart). THE CARD IS WHAT COUNTS. Prove the row's statement (the work); the ties are given (YtinidfeoellmhaaDoorTie.lean); close each card by the builder's one call (the guide's Derived/Test/ToyasCard.lean, 'card_holds'). Laid BY PROGRAM, IN A SANDBOX (cutbox-door.mjs). By AI agents, Wed Nov 11 2026. No macro, syntax, notation, axiom, sorry.
-/
import Derived.Test.YtinidfeoellmhaaDoorRows
import GoSem.ClaimSeven
namespace Go.Proofs.YtinidfeoellmhaaDoor
namespace Rows

/-- THE TIED CARD OF 'justiciarlaw24.SerialNexts'. -/
def serialNextsCard : Claim7 := { stood := { row := serialNextsRow, standIns := [], harness := (true, "c16bbf32f094ec0b0d6a1b5b699da10307096ade44a71c6e105bbbe2a410855b"), looks := false }, kinds := [], alts := [], laidByText := true, laidKinds := [.data], laidTests := true, laidLooks := .later }
def SerialNextsCardSaid : Prop := Claim7.holds Tryd.pinned (.plain (OpenSpec.ofChange serialNextsSpec)) serialNextsCard

/-- THE TIED CARD OF 'justiciarlaw24.SerialRuns'. -/
def serialRunsCard : Claim7 := { stood := { row := serialRunsRow, standIns := [], harness := (true, "c16bbf32f094ec0b0d6a1b5b699da10307096ade44a71c6e105bbbe2a410855b"), looks := false }, kinds := [], alts := [], laidByText := true, laidKinds := [.data], laidTests := true, laidLooks := .later }
def SerialRunsCardSaid : Prop := Claim7.holds Tryd.pinned (.plain (OpenSpec.ofChange serialRunsSpec)) serialRunsCard

/-- THE TIED CARD OF 'justiciarlaw24.SerialOnce'. -/
def serialOnceCard : Claim7 := { stood := { row := serialOnceRow, standIns := [], harness := (true, "c16bbf32f094ec0b0d6a1b5b699da10307096ade44a71c6e105bbbe2a410855b"), looks := false }, kinds := [], alts := [], laidByText := true, laidKinds := [.data], laidTests := true, laidLooks := .later }
def SerialOnceCardSaid : Prop := Claim7.holds Tryd.pinned (.plain (OpenSpec.ofChange serialOnceSpec)) serialOnceCard

/-- THE TIED CARD OF 'justiciarlaw24.SerialLost'. -/
def serialLostCard : Claim7 := { stood := { row := serialLostRow, standIns := [], harness := (true, "c16bbf32f094ec0b0d6a1b5b699da10307096ade44a71c6e105bbbe2a410855b"), looks := false }, kinds := [], alts := [], laidByText := true, laidKinds := [.data], laidTests := true, laidLooks := .later }
def SerialLostCardSaid : Prop := Claim7.holds Tryd.pinned (.plain (OpenSpec.ofChange serialLostSpec)) serialLostCard

/-- THE TIED CARD OF 'justiciarlaw24.SerialRecords'. -/
def serialRecordsCard : Claim7 := { stood := { row := serialRecordsRow, standIns := [], harness := (true, "c16bbf32f094ec0b0d6a1b5b699da10307096ade44a71c6e105bbbe2a410855b"), looks := false }, kinds := [], alts := [], laidByText := true, laidKinds := [.data], laidTests := true, laidLooks := .later }
def SerialRecordsCardSaid : Prop := Claim7.holds Tryd.pinned (.plain (OpenSpec.ofChange serialRecordsSpec)) serialRecordsCard

/-- THE SECOND FORM's CARD OF 'justiciarlaw24.SerialNexts'. -/
def serialNextsUptoCard : Claim7 := { stood := { row := serialNextsUptoRow, standIns := [], harness := (true, "c16bbf32f094ec0b0d6a1b5b699da10307096ade44a71c6e105bbbe2a410855b"), looks := false }, kinds := [], alts := [], laidByText := true, laidKinds := [.data], laidTests := true, laidLooks := .later }
def SerialNextsUptoCardSaid : Prop := Claim7.holds Tryd.pinned (.plain (OpenSpec.upto serialNextsSpec)) serialNextsUptoCard

/-- THE SECOND FORM's CARD OF 'justiciarlaw24.SerialRuns'. -/
def serialRunsUptoCard : Claim7 := { stood := { row := serialRunsUptoRow, standIns := [], harness := (true, "c16bbf32f094ec0b0d6a1b5b699da10307096ade44a71c6e105bbbe2a410855b"), looks := false }, kinds := [], alts := [], laidByText := true, laidKinds := [.data], laidTests := true, laidLooks := .later }
def SerialRunsUptoCardSaid : Prop := Claim7.holds Tryd.pinned (.plain (OpenSpec.upto serialRunsSpec)) serialRunsUptoCard

/-- THE SECOND FORM's CARD OF 'justiciarlaw24.SerialOnce'. -/
def serialOnceUptoCard : Claim7 := { stood := { row := serialOnceUptoRow, standIns := [], harness := (true, "c16bbf32f094ec0b0d6a1b5b699da10307096ade44a71c6e105bbbe2a410855b"), looks := false }, kinds := [], alts := [], laidByText := true, laidKinds := [.data], laidTests := true, laidLooks := .later }
def SerialOnceUptoCardSaid : Prop := Claim7.holds Tryd.pinned (.plain (OpenSpec.upto serialOnceSpec)) serialOnceUptoCard

/-- THE SECOND FORM's CARD OF 'justiciarlaw24.SerialLost'. -/
def serialLostUptoCard : Claim7 := { stood := { row := serialLostUptoRow, standIns := [], harness := (true, "c16bbf32f094ec0b0d6a1b5b699da10307096ade44a71c6e105bbbe2a410855b"), looks := false }, kinds := [], alts := [], laidByText := true, laidKinds := [.data], laidTests := true, laidLooks := .later }
def SerialLostUptoCardSaid : Prop := Claim7.holds Tryd.pinned (.plain (OpenSpec.upto serialLostSpec)) serialLostUptoCard

/-- THE SECOND FORM's CARD OF 'justiciarlaw24.SerialRecords'. -/
def serialRecordsUptoCard : Claim7 := { stood := { row := serialRecordsUptoRow, standIns := [], harness := (true, "c16bbf32f094ec0b0d6a1b5b699da10307096ade44a71c6e105bbbe2a410855b"), looks := false }, kinds := [], alts := [], laidByText := true, laidKinds := [.data], laidTests := true, laidLooks := .later }
def SerialRecordsUptoCardSaid : Prop := Claim7.holds Tryd.pinned (.plain (OpenSpec.upto serialRecordsSpec)) serialRecordsUptoCard
end Rows
end Go.Proofs.YtinidfeoellmhaaDoor
