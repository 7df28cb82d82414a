/-
  DERIVED. GIVEN WITH THE SEED: THE CARDS: each row of YthffifgjodikiaaDoorRows.lean that lists a variable, with what it lists TIED to the program's text (the seventh form; the later family's looks); each row that meets fmt, with fmt's text TOLD by the authors' own Lean function (tested against real Go, not proved from fmt's source: count such statements apart). THE CARD IS WHAT COUNTS. Prove the row's statement (the work); the ties are given (YthffifgjodikiaaDoorTie.lean); close each card by the builder's one call (the guide's Derived/Test/ToyasCard.lean, 'card_holds'). Laid BY PROGRAM, IN A SANDBOX (cutbox-door.mjs). By AI agents, Wed Nov 11 2026. No macro, syntax, notation, axiom, sorry.
-/
import Derived.Test.YthffifgjodikiaaDoorRows
import GoSem.ClaimSeven
namespace Go.Proofs.YthffifgjodikiaaDoor
namespace Rows

/-- THE TIED CARD OF 'polliwoglaw10.EventRequests'. -/
def eventRequestsCard : Claim7 := { stood := { row := eventRequestsRow, standIns := [], harness := (true, "a60fbc94d0e7b54efd7c94e82695e442ba3ca3b3f0fa82666b63bebf8a0b1ea3"), looks := false }, kinds := [], alts := [], laidByText := true, laidKinds := [.data, .data, .data, .data], laidTests := true, laidLooks := .later }
def EventRequestsCardSaid : Prop := Claim7.holds Tryd.pinned (.plain (OpenSpec.ofChange eventRequestsSpec)) eventRequestsCard

/-- THE TIED CARD OF 'polliwoglaw10.EventTexts'. -/
def eventTextsCard : Claim7 := { stood := { row := eventTextsRow, standIns := [], harness := (true, "a60fbc94d0e7b54efd7c94e82695e442ba3ca3b3f0fa82666b63bebf8a0b1ea3"), looks := false }, kinds := [], alts := [], laidByText := true, laidKinds := [.data, .data, .data, .data], laidTests := true, laidLooks := .later }
def EventTextsCardSaid : Prop := Claim7.holds Tryd.pinned (.plain (OpenSpec.ofChange eventTextsSpec)) eventTextsCard

/-- THE TIED CARD OF 'polliwoglaw10.EventUnlike'. -/
def eventUnlikeCard : Claim7 := { stood := { row := eventUnlikeRow, standIns := [], harness := (true, "a60fbc94d0e7b54efd7c94e82695e442ba3ca3b3f0fa82666b63bebf8a0b1ea3"), looks := false }, kinds := [], alts := [], laidByText := true, laidKinds := [.data, .data, .data, .data], laidTests := true, laidLooks := .later }
def EventUnlikeCardSaid : Prop := Claim7.holds Tryd.pinned (.plain (OpenSpec.ofChange eventUnlikeSpec)) eventUnlikeCard

/-- THE TIED CARD OF 'polliwoglaw10.EventKinds'. -/
def eventKindsCard : Claim7 := { stood := { row := eventKindsRow, standIns := [], harness := (true, "a60fbc94d0e7b54efd7c94e82695e442ba3ca3b3f0fa82666b63bebf8a0b1ea3"), looks := false }, kinds := [], alts := [], laidByText := true, laidKinds := [.data, .data, .data, .data], laidTests := true, laidLooks := .later }
def EventKindsCardSaid : Prop := Claim7.holds Tryd.pinned (.plain (OpenSpec.ofChange eventKindsSpec)) eventKindsCard

/-- THE TIED CARD OF 'polliwoglaw10.EventData'. -/
def eventDataCard : Claim7 := { stood := { row := eventDataRow, standIns := [], harness := (true, "a60fbc94d0e7b54efd7c94e82695e442ba3ca3b3f0fa82666b63bebf8a0b1ea3"), looks := false }, kinds := [], alts := [], laidByText := true, laidKinds := [.data, .data, .data, .data], laidTests := true, laidLooks := .later }
def EventDataCardSaid : Prop := Claim7.holds Tryd.pinned (.plain (OpenSpec.ofChange eventDataSpec)) eventDataCard

/-- THE TIED CARD OF 'polliwoglaw10.EventHex'. -/
def eventHexCard : Claim7 := { stood := { row := eventHexRow, standIns := [], harness := (true, "a60fbc94d0e7b54efd7c94e82695e442ba3ca3b3f0fa82666b63bebf8a0b1ea3"), looks := false }, kinds := [], alts := [], laidByText := true, laidKinds := [.data, .data, .data, .data], laidTests := true, laidLooks := .later }
def EventHexCardSaid : Prop := Claim7.holds Tryd.pinned (.plain (OpenSpec.ofChange eventHexSpec)) eventHexCard

/-- THE TIED CARD OF 'polliwoglaw23.LineParses'. -/
def lineParsesCard : Claim7 := { stood := { row := lineParsesRow, standIns := [], harness := (true, "a60fbc94d0e7b54efd7c94e82695e442ba3ca3b3f0fa82666b63bebf8a0b1ea3"), looks := false }, kinds := [], alts := [], laidByText := true, laidKinds := [.data, .pinned], laidTests := true, laidLooks := .later }
def LineParsesCardSaid : Prop := Claim7.holds Tryd.pinned (.plain (OpenSpec.ofChange lineParsesSpec)) lineParsesCard

/-- THE TIED CARD OF 'polliwoglaw23.LineLimit'. -/
def lineLimitCard : Claim7 := { stood := { row := lineLimitRow, standIns := [], harness := (true, "a60fbc94d0e7b54efd7c94e82695e442ba3ca3b3f0fa82666b63bebf8a0b1ea3"), looks := false }, kinds := [], alts := [], laidByText := true, laidKinds := [.data, .pinned], laidTests := true, laidLooks := .later }
def LineLimitCardSaid : Prop := Claim7.holds Tryd.pinned (.plain (OpenSpec.ofChange lineLimitSpec)) lineLimitCard

/-- THE TIED CARD OF 'polliwoglaw23.LineNumbers'. -/
def lineNumbersCard : Claim7 := { stood := { row := lineNumbersRow, standIns := [], harness := (true, "a60fbc94d0e7b54efd7c94e82695e442ba3ca3b3f0fa82666b63bebf8a0b1ea3"), looks := false }, kinds := [], alts := [], laidByText := true, laidKinds := [.data, .pinned], laidTests := true, laidLooks := .later }
def LineNumbersCardSaid : Prop := Claim7.holds Tryd.pinned (.plain (OpenSpec.ofChange lineNumbersSpec)) lineNumbersCard

/-- THE TIED CARD OF 'polliwoglaw23.LineBack'. -/
def lineBackCard : Claim7 := { stood := { row := lineBackRow, standIns := [], harness := (true, "a60fbc94d0e7b54efd7c94e82695e442ba3ca3b3f0fa82666b63bebf8a0b1ea3"), looks := false }, kinds := [], alts := [], laidByText := true, laidKinds := [.data, .data, .data, .data, .pinned], laidTests := true, laidLooks := .later }
def LineBackCardSaid : Prop := Claim7.holds Tryd.pinned (.plain (OpenSpec.ofChange lineBackSpec)) lineBackCard

/-- THE TIED CARD OF 'polliwoglaw23.LineWords'. -/
def lineWordsCard : Claim7 := { stood := { row := lineWordsRow, standIns := [], harness := (true, "a60fbc94d0e7b54efd7c94e82695e442ba3ca3b3f0fa82666b63bebf8a0b1ea3"), looks := false }, kinds := [], alts := [], laidByText := true, laidKinds := [.data, .data, .data, .data, .pinned], laidTests := true, laidLooks := .later }
def LineWordsCardSaid : Prop := Claim7.holds Tryd.pinned (.plain (OpenSpec.ofChange lineWordsSpec)) lineWordsCard

/-- THE SECOND FORM's CARD OF 'polliwoglaw10.EventRequests'. -/
def eventRequestsUptoCard : Claim7 := { stood := { row := eventRequestsUptoRow, standIns := [], harness := (true, "a60fbc94d0e7b54efd7c94e82695e442ba3ca3b3f0fa82666b63bebf8a0b1ea3"), looks := false }, kinds := [], alts := [], laidByText := true, laidKinds := [.data, .data, .data, .data], laidTests := true, laidLooks := .later }
def EventRequestsUptoCardSaid : Prop := Claim7.holds Tryd.pinned (.plain (OpenSpec.upto eventRequestsSpec)) eventRequestsUptoCard

/-- THE SECOND FORM's CARD OF 'polliwoglaw10.EventTexts'. -/
def eventTextsUptoCard : Claim7 := { stood := { row := eventTextsUptoRow, standIns := [], harness := (true, "a60fbc94d0e7b54efd7c94e82695e442ba3ca3b3f0fa82666b63bebf8a0b1ea3"), looks := false }, kinds := [], alts := [], laidByText := true, laidKinds := [.data, .data, .data, .data], laidTests := true, laidLooks := .later }
def EventTextsUptoCardSaid : Prop := Claim7.holds Tryd.pinned (.plain (OpenSpec.upto eventTextsSpec)) eventTextsUptoCard

/-- THE SECOND FORM's CARD OF 'polliwoglaw10.EventUnlike'. -/
def eventUnlikeUptoCard : Claim7 := { stood := { row := eventUnlikeUptoRow, standIns := [], harness := (true, "a60fbc94d0e7b54efd7c94e82695e442ba3ca3b3f0fa82666b63bebf8a0b1ea3"), looks := false }, kinds := [], alts := [], laidByText := true, laidKinds := [.data, .data, .data, .data], laidTests := true, laidLooks := .later }
def EventUnlikeUptoCardSaid : Prop := Claim7.holds Tryd.pinned (.plain (OpenSpec.upto eventUnlikeSpec)) eventUnlikeUptoCard

/-- THE SECOND FORM's CARD OF 'polliwoglaw10.EventKinds'. -/
def eventKindsUptoCard : Claim7 := { stood := { row := eventKindsUptoRow, standIns := [], harness := (true, "a60fbc94d0e7b54efd7c94e82695e442ba3ca3b3f0fa82666b63bebf8a0b1ea3"), looks := false }, kinds := [], alts := [], laidByText := true, laidKinds := [.data, .data, .data, .data], laidTests := true, laidLooks := .later }
def EventKindsUptoCardSaid : Prop := Claim7.holds Tryd.pinned (.plain (OpenSpec.upto eventKindsSpec)) eventKindsUptoCard

/-- THE SECOND FORM's CARD OF 'polliwoglaw10.EventData'. -/
def eventDataUptoCard : Claim7 := { stood := { row := eventDataUptoRow, standIns := [], harness := (true, "a60fbc94d0e7b54efd7c94e82695e442ba3ca3b3f0fa82666b63bebf8a0b1ea3"), looks := false }, kinds := [], alts := [], laidByText := true, laidKinds := [.data, .data, .data, .data], laidTests := true, laidLooks := .later }
def EventDataUptoCardSaid : Prop := Claim7.holds Tryd.pinned (.plain (OpenSpec.upto eventDataSpec)) eventDataUptoCard

/-- THE SECOND FORM's CARD OF 'polliwoglaw10.EventHex'. -/
def eventHexUptoCard : Claim7 := { stood := { row := eventHexUptoRow, standIns := [], harness := (true, "a60fbc94d0e7b54efd7c94e82695e442ba3ca3b3f0fa82666b63bebf8a0b1ea3"), looks := false }, kinds := [], alts := [], laidByText := true, laidKinds := [.data, .data, .data, .data], laidTests := true, laidLooks := .later }
def EventHexUptoCardSaid : Prop := Claim7.holds Tryd.pinned (.plain (OpenSpec.upto eventHexSpec)) eventHexUptoCard

/-- THE SECOND FORM's CARD OF 'polliwoglaw23.LineParses'. -/
def lineParsesUptoCard : Claim7 := { stood := { row := lineParsesUptoRow, standIns := [], harness := (true, "a60fbc94d0e7b54efd7c94e82695e442ba3ca3b3f0fa82666b63bebf8a0b1ea3"), looks := false }, kinds := [], alts := [], laidByText := true, laidKinds := [.data, .pinned], laidTests := true, laidLooks := .later }
def LineParsesUptoCardSaid : Prop := Claim7.holds Tryd.pinned (.plain (OpenSpec.upto lineParsesSpec)) lineParsesUptoCard

/-- THE SECOND FORM's CARD OF 'polliwoglaw23.LineLimit'. -/
def lineLimitUptoCard : Claim7 := { stood := { row := lineLimitUptoRow, standIns := [], harness := (true, "a60fbc94d0e7b54efd7c94e82695e442ba3ca3b3f0fa82666b63bebf8a0b1ea3"), looks := false }, kinds := [], alts := [], laidByText := true, laidKinds := [.data, .pinned], laidTests := true, laidLooks := .later }
def LineLimitUptoCardSaid : Prop := Claim7.holds Tryd.pinned (.plain (OpenSpec.upto lineLimitSpec)) lineLimitUptoCard

/-- THE SECOND FORM's CARD OF 'polliwoglaw23.LineNumbers'. -/
def lineNumbersUptoCard : Claim7 := { stood := { row := lineNumbersUptoRow, standIns := [], harness := (true, "a60fbc94d0e7b54efd7c94e82695e442ba3ca3b3f0fa82666b63bebf8a0b1ea3"), looks := false }, kinds := [], alts := [], laidByText := true, laidKinds := [.data, .pinned], laidTests := true, laidLooks := .later }
def LineNumbersUptoCardSaid : Prop := Claim7.holds Tryd.pinned (.plain (OpenSpec.upto lineNumbersSpec)) lineNumbersUptoCard

/-- THE SECOND FORM's CARD OF 'polliwoglaw23.LineBack'. -/
def lineBackUptoCard : Claim7 := { stood := { row := lineBackUptoRow, standIns := [], harness := (true, "a60fbc94d0e7b54efd7c94e82695e442ba3ca3b3f0fa82666b63bebf8a0b1ea3"), looks := false }, kinds := [], alts := [], laidByText := true, laidKinds := [.data, .data, .data, .data, .pinned], laidTests := true, laidLooks := .later }
def LineBackUptoCardSaid : Prop := Claim7.holds Tryd.pinned (.plain (OpenSpec.upto lineBackSpec)) lineBackUptoCard

/-- THE SECOND FORM's CARD OF 'polliwoglaw23.LineWords'. -/
def lineWordsUptoCard : Claim7 := { stood := { row := lineWordsUptoRow, standIns := [], harness := (true, "a60fbc94d0e7b54efd7c94e82695e442ba3ca3b3f0fa82666b63bebf8a0b1ea3"), looks := false }, kinds := [], alts := [], laidByText := true, laidKinds := [.data, .data, .data, .data, .pinned], laidTests := true, laidLooks := .later }
def LineWordsUptoCardSaid : Prop := Claim7.holds Tryd.pinned (.plain (OpenSpec.upto lineWordsSpec)) lineWordsUptoCard
end Rows
end Go.Proofs.YthffifgjodikiaaDoor
