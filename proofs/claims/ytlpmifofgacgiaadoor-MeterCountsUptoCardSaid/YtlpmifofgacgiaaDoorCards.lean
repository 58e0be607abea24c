/-
  DERIVED. GIVEN WITH THE SEED: THE CARDS: each row of YtlpmifofgacgiaaDoorRows.lean that lists a variable, with what it lists TIED to the program's text (the seventh form; the later family's looks); each row that meets fmt, with fmt's text TOLD by the authors' own Lean function (tested against real Go, not proved from fmt's source: count such statements apart). THE CARD IS WHAT COUNTS. Prove the row's statement (the work); the ties are given (YtlpmifofgacgiaaDoorTie.lean); close each card by the builder's one call (the guide's Derived/Test/ToyasCard.lean, 'card_holds'). Laid BY PROGRAM, IN A SANDBOX (cutbox-door.mjs). By AI agents, Wed Nov 11 2026. No macro, syntax, notation, axiom, sorry.
-/
import Derived.Test.YtlpmifofgacgiaaDoorRows
import GoSem.ClaimSeven
namespace Go.Proofs.YtlpmifofgacgiaaDoor
namespace Rows

/-- THE TIED CARD OF 'cloisterlaw09.ReplyLine'. -/
def replyLineCard : Claim7 := { stood := { row := replyLineRow, standIns := [], harness := (true, "eab79ce0dc97650365fff351600985f97947c1c328c0bff34890950b3c8d68e7"), looks := true }, kinds := [], alts := [], laidByText := true, laidKinds := [.data, .data, .data, .data, .sentinel, .sentinel, .pinned], laidTests := true, laidLooks := .later }
def ReplyLineCardSaid : Prop := Claim7.holds Tryd.pinned (.plain (OpenSpec.ofChange replyLineSpec)) replyLineCard

/-- THE TIED CARD OF 'cloisterlaw21.MeterCounts'. -/
def meterCountsCard : Claim7 := { stood := { row := meterCountsRow, standIns := [], harness := (true, "eab79ce0dc97650365fff351600985f97947c1c328c0bff34890950b3c8d68e7"), looks := true }, kinds := [], alts := [], laidByText := true, laidKinds := [.data, .data, .data, .data, .sentinel, .sentinel, .pinned], laidTests := true, laidLooks := .later }
def MeterCountsCardSaid : Prop := Claim7.holds Tryd.pinned (.plain (OpenSpec.ofChange meterCountsSpec)) meterCountsCard

/-- THE TIED CARD OF 'cloisterlaw13.CodeChecks'. -/
def codeChecksCard : Claim7 := { stood := { row := codeChecksRow, standIns := [], harness := (true, "eab79ce0dc97650365fff351600985f97947c1c328c0bff34890950b3c8d68e7"), looks := true }, kinds := [], alts := [], laidByText := true, laidKinds := [.data, .data, .data, .data, .sentinel, .sentinel, .pinned], laidTests := true, laidLooks := .later }
def CodeChecksCardSaid : Prop := Claim7.holds Tryd.pinned (.plain (OpenSpec.ofChange codeChecksSpec)) codeChecksCard

/-- THE TIED CARD OF 'cloisterlaw13.CodeParses'. -/
def codeParsesCard : Claim7 := { stood := { row := codeParsesRow, standIns := [], harness := (true, "eab79ce0dc97650365fff351600985f97947c1c328c0bff34890950b3c8d68e7"), looks := true }, kinds := [], alts := [], laidByText := true, laidKinds := [.data, .data, .data, .data, .sentinel, .sentinel, .pinned], laidTests := true, laidLooks := .later }
def CodeParsesCardSaid : Prop := Claim7.holds Tryd.pinned (.plain (OpenSpec.ofChange codeParsesSpec)) codeParsesCard

/-- THE TIED CARD OF 'cloisterlaw13.CodeBack'. -/
def codeBackCard : Claim7 := { stood := { row := codeBackRow, standIns := [], harness := (true, "eab79ce0dc97650365fff351600985f97947c1c328c0bff34890950b3c8d68e7"), looks := true }, kinds := [], alts := [], laidByText := true, laidKinds := [.data, .data, .data, .data, .sentinel, .sentinel, .pinned], laidTests := true, laidLooks := .later }
def CodeBackCardSaid : Prop := Claim7.holds Tryd.pinned (.plain (OpenSpec.ofChange codeBackSpec)) codeBackCard

/-- THE TIED CARD OF 'cloisterlaw13.CodeAgain'. -/
def codeAgainCard : Claim7 := { stood := { row := codeAgainRow, standIns := [], harness := (true, "eab79ce0dc97650365fff351600985f97947c1c328c0bff34890950b3c8d68e7"), looks := true }, kinds := [], alts := [], laidByText := true, laidKinds := [.data, .data, .data, .data, .sentinel, .sentinel, .pinned], laidTests := true, laidLooks := .later }
def CodeAgainCardSaid : Prop := Claim7.holds Tryd.pinned (.plain (OpenSpec.ofChange codeAgainSpec)) codeAgainCard

/-- THE TIED CARD OF 'cloisterlaw13.CodeRemarks'. -/
def codeRemarksCard : Claim7 := { stood := { row := codeRemarksRow, standIns := [], harness := (true, "eab79ce0dc97650365fff351600985f97947c1c328c0bff34890950b3c8d68e7"), looks := true }, kinds := [], alts := [], laidByText := true, laidKinds := [.data, .data, .data, .data, .sentinel, .sentinel, .pinned], laidTests := true, laidLooks := .later }
def CodeRemarksCardSaid : Prop := Claim7.holds Tryd.pinned (.plain (OpenSpec.ofChange codeRemarksSpec)) codeRemarksCard

/-- THE SECOND FORM's CARD OF 'cloisterlaw09.ReplyLine'. -/
def replyLineUptoCard : Claim7 := { stood := { row := replyLineUptoRow, standIns := [], harness := (true, "eab79ce0dc97650365fff351600985f97947c1c328c0bff34890950b3c8d68e7"), looks := true }, kinds := [], alts := [], laidByText := true, laidKinds := [.data, .data, .data, .data, .sentinel, .sentinel, .pinned], laidTests := true, laidLooks := .later }
def ReplyLineUptoCardSaid : Prop := Claim7.holds Tryd.pinned (.plain (OpenSpec.upto replyLineSpec)) replyLineUptoCard

/-- THE SECOND FORM's CARD OF 'cloisterlaw21.MeterCounts'. -/
def meterCountsUptoCard : Claim7 := { stood := { row := meterCountsUptoRow, standIns := [], harness := (true, "eab79ce0dc97650365fff351600985f97947c1c328c0bff34890950b3c8d68e7"), looks := true }, kinds := [], alts := [], laidByText := true, laidKinds := [.data, .data, .data, .data, .sentinel, .sentinel, .pinned], laidTests := true, laidLooks := .later }
def MeterCountsUptoCardSaid : Prop := Claim7.holds Tryd.pinned (.plain (OpenSpec.upto meterCountsSpec)) meterCountsUptoCard

/-- THE SECOND FORM's CARD OF 'cloisterlaw13.CodeChecks'. -/
def codeChecksUptoCard : Claim7 := { stood := { row := codeChecksUptoRow, standIns := [], harness := (true, "eab79ce0dc97650365fff351600985f97947c1c328c0bff34890950b3c8d68e7"), looks := true }, kinds := [], alts := [], laidByText := true, laidKinds := [.data, .data, .data, .data, .sentinel, .sentinel, .pinned], laidTests := true, laidLooks := .later }
def CodeChecksUptoCardSaid : Prop := Claim7.holds Tryd.pinned (.plain (OpenSpec.upto codeChecksSpec)) codeChecksUptoCard

/-- THE SECOND FORM's CARD OF 'cloisterlaw13.CodeParses'. -/
def codeParsesUptoCard : Claim7 := { stood := { row := codeParsesUptoRow, standIns := [], harness := (true, "eab79ce0dc97650365fff351600985f97947c1c328c0bff34890950b3c8d68e7"), looks := true }, kinds := [], alts := [], laidByText := true, laidKinds := [.data, .data, .data, .data, .sentinel, .sentinel, .pinned], laidTests := true, laidLooks := .later }
def CodeParsesUptoCardSaid : Prop := Claim7.holds Tryd.pinned (.plain (OpenSpec.upto codeParsesSpec)) codeParsesUptoCard

/-- THE SECOND FORM's CARD OF 'cloisterlaw13.CodeBack'. -/
def codeBackUptoCard : Claim7 := { stood := { row := codeBackUptoRow, standIns := [], harness := (true, "eab79ce0dc97650365fff351600985f97947c1c328c0bff34890950b3c8d68e7"), looks := true }, kinds := [], alts := [], laidByText := true, laidKinds := [.data, .data, .data, .data, .sentinel, .sentinel, .pinned], laidTests := true, laidLooks := .later }
def CodeBackUptoCardSaid : Prop := Claim7.holds Tryd.pinned (.plain (OpenSpec.upto codeBackSpec)) codeBackUptoCard

/-- THE SECOND FORM's CARD OF 'cloisterlaw13.CodeAgain'. -/
def codeAgainUptoCard : Claim7 := { stood := { row := codeAgainUptoRow, standIns := [], harness := (true, "eab79ce0dc97650365fff351600985f97947c1c328c0bff34890950b3c8d68e7"), looks := true }, kinds := [], alts := [], laidByText := true, laidKinds := [.data, .data, .data, .data, .sentinel, .sentinel, .pinned], laidTests := true, laidLooks := .later }
def CodeAgainUptoCardSaid : Prop := Claim7.holds Tryd.pinned (.plain (OpenSpec.upto codeAgainSpec)) codeAgainUptoCard

/-- THE SECOND FORM's CARD OF 'cloisterlaw13.CodeRemarks'. -/
def codeRemarksUptoCard : Claim7 := { stood := { row := codeRemarksUptoRow, standIns := [], harness := (true, "eab79ce0dc97650365fff351600985f97947c1c328c0bff34890950b3c8d68e7"), looks := true }, kinds := [], alts := [], laidByText := true, laidKinds := [.data, .data, .data, .data, .sentinel, .sentinel, .pinned], laidTests := true, laidLooks := .later }
def CodeRemarksUptoCardSaid : Prop := Claim7.holds Tryd.pinned (.plain (OpenSpec.upto codeRemarksSpec)) codeRemarksUptoCard
end Rows
end Go.Proofs.YtlpmifofgacgiaaDoor
