/-
  DERIVED. GIVEN WITH THE SEED: THE CARDS: each row of YtheifhjnbpbkhaaDoorRows.lean that lists a variable, with what it lists TIED to the program's text (the seventh form; the later family's looks); each row that meets fmt, with fmt's text TOLD by the authors' own Lean function (tested against real Go, not proved from fmt's source: count such statements apart). THE CARD IS WHAT COUNTS. Prove the row's statement (the work); the ties are given (YtheifhjnbpbkhaaDoorTie.lean); close each card by the builder's one call (the guide's Derived/Test/ToyasCard.lean, 'card_holds'). Laid BY PROGRAM, IN A SANDBOX (cutbox-door.mjs). By AI agents, Wed Nov 11 2026. No macro, syntax, notation, axiom, sorry.
-/
import Derived.Test.YtheifhjnbpbkhaaDoorRows
import GoSem.ClaimSeven
namespace Go.Proofs.YtheifhjnbpbkhaaDoor
namespace Rows

/-- THE TIED CARD OF 'laws.FnExactEncodeErrors'. -/
def fnExactEncodeErrorsCard : Claim7 := { stood := { row := fnExactEncodeErrorsRow, standIns := [], harness := (true, "db3932f5ca78fea8835bc8ddd515987acb19a4f8921aa1f4aa3ed976f54975c6"), looks := false }, kinds := [], alts := [], laidByText := true, laidKinds := [.data, .data, .data], laidTests := true, laidLooks := .later }
def FnExactEncodeErrorsCardSaid : Prop := Claim7.holds Tryd.pinned (.plain (OpenSpec.ofChange fnExactEncodeErrorsSpec)) fnExactEncodeErrorsCard

/-- THE TIED CARD OF 'laws.FnExactDecodeErrors'. -/
def fnExactDecodeErrorsCard : Claim7 := { stood := { row := fnExactDecodeErrorsRow, standIns := [], harness := (true, "db3932f5ca78fea8835bc8ddd515987acb19a4f8921aa1f4aa3ed976f54975c6"), looks := false }, kinds := [], alts := [], laidByText := true, laidKinds := [.data, .data, .data, .data, .pinned], laidTests := true, laidLooks := .later }
def FnExactDecodeErrorsCardSaid : Prop := Claim7.holds Tryd.pinned (.plain (OpenSpec.ofChange fnExactDecodeErrorsSpec)) fnExactDecodeErrorsCard

/-- THE TIED CARD OF 'laws.FnExactLogNew'. -/
def fnExactLogNewCard : Claim7 := { stood := { row := fnExactLogNewRow, standIns := [], harness := (true, "db3932f5ca78fea8835bc8ddd515987acb19a4f8921aa1f4aa3ed976f54975c6"), looks := false }, kinds := [], alts := [], laidByText := true, laidKinds := [.data, .data, .data], laidTests := true, laidLooks := .later }
def FnExactLogNewCardSaid : Prop := Claim7.holds Tryd.pinned (.plain (OpenSpec.ofChange fnExactLogNewSpec)) fnExactLogNewCard

/-- THE TIED CARD OF 'laws.FnExactLogRead'. -/
def fnExactLogReadCard : Claim7 := { stood := { row := fnExactLogReadRow, standIns := [], harness := (true, "db3932f5ca78fea8835bc8ddd515987acb19a4f8921aa1f4aa3ed976f54975c6"), looks := false }, kinds := [], alts := [], laidByText := true, laidKinds := [.data, .data, .data, .data, .pinned], laidTests := true, laidLooks := .later }
def FnExactLogReadCardSaid : Prop := Claim7.holds Tryd.pinned (.plain (OpenSpec.ofChange fnExactLogReadSpec)) fnExactLogReadCard

/-- THE TIED CARD OF 'laws.FnExactLogWrite'. -/
def fnExactLogWriteCard : Claim7 := { stood := { row := fnExactLogWriteRow, standIns := [], harness := (true, "db3932f5ca78fea8835bc8ddd515987acb19a4f8921aa1f4aa3ed976f54975c6"), looks := false }, kinds := [], alts := [], laidByText := true, laidKinds := [.data, .data, .data, .data, .pinned], laidTests := true, laidLooks := .later }
def FnExactLogWriteCardSaid : Prop := Claim7.holds Tryd.pinned (.plain (OpenSpec.ofChange fnExactLogWriteSpec)) fnExactLogWriteCard

/-- THE TIED CARD OF 'laws.FnErrorText'. -/
def fnErrorTextCard : Claim7 := { stood := { row := fnErrorTextRow, standIns := [], harness := (true, "db3932f5ca78fea8835bc8ddd515987acb19a4f8921aa1f4aa3ed976f54975c6"), looks := false }, kinds := [], alts := [], laidByText := true, laidKinds := [.data, .data, .data, .data, .pinned], laidTests := true, laidLooks := .later }
def FnErrorTextCardSaid : Prop := Claim7.holds Tryd.pinned (.plain (OpenSpec.ofChange fnErrorTextSpec)) fnErrorTextCard

/-- THE TIED CARD OF 'laws.FnErrorLog'. -/
def fnErrorLogCard : Claim7 := { stood := { row := fnErrorLogRow, standIns := [], harness := (true, "db3932f5ca78fea8835bc8ddd515987acb19a4f8921aa1f4aa3ed976f54975c6"), looks := false }, kinds := [], alts := [], laidByText := true, laidKinds := [.data, .data, .data, .data, .pinned], laidTests := true, laidLooks := .later }
def FnErrorLogCardSaid : Prop := Claim7.holds Tryd.pinned (.plain (OpenSpec.ofChange fnErrorLogSpec)) fnErrorLogCard

/-- THE SECOND FORM's CARD OF 'laws.FnExactEncodeErrors'. -/
def fnExactEncodeErrorsUptoCard : Claim7 := { stood := { row := fnExactEncodeErrorsUptoRow, standIns := [], harness := (true, "db3932f5ca78fea8835bc8ddd515987acb19a4f8921aa1f4aa3ed976f54975c6"), looks := false }, kinds := [], alts := [], laidByText := true, laidKinds := [.data, .data, .data], laidTests := true, laidLooks := .later }
def FnExactEncodeErrorsUptoCardSaid : Prop := Claim7.holds Tryd.pinned (.plain (OpenSpec.upto fnExactEncodeErrorsSpec)) fnExactEncodeErrorsUptoCard

/-- THE SECOND FORM's CARD OF 'laws.FnExactDecodeErrors'. -/
def fnExactDecodeErrorsUptoCard : Claim7 := { stood := { row := fnExactDecodeErrorsUptoRow, standIns := [], harness := (true, "db3932f5ca78fea8835bc8ddd515987acb19a4f8921aa1f4aa3ed976f54975c6"), looks := false }, kinds := [], alts := [], laidByText := true, laidKinds := [.data, .data, .data, .data, .pinned], laidTests := true, laidLooks := .later }
def FnExactDecodeErrorsUptoCardSaid : Prop := Claim7.holds Tryd.pinned (.plain (OpenSpec.upto fnExactDecodeErrorsSpec)) fnExactDecodeErrorsUptoCard

/-- THE SECOND FORM's CARD OF 'laws.FnExactLogNew'. -/
def fnExactLogNewUptoCard : Claim7 := { stood := { row := fnExactLogNewUptoRow, standIns := [], harness := (true, "db3932f5ca78fea8835bc8ddd515987acb19a4f8921aa1f4aa3ed976f54975c6"), looks := false }, kinds := [], alts := [], laidByText := true, laidKinds := [.data, .data, .data], laidTests := true, laidLooks := .later }
def FnExactLogNewUptoCardSaid : Prop := Claim7.holds Tryd.pinned (.plain (OpenSpec.upto fnExactLogNewSpec)) fnExactLogNewUptoCard

/-- THE SECOND FORM's CARD OF 'laws.FnExactLogRead'. -/
def fnExactLogReadUptoCard : Claim7 := { stood := { row := fnExactLogReadUptoRow, standIns := [], harness := (true, "db3932f5ca78fea8835bc8ddd515987acb19a4f8921aa1f4aa3ed976f54975c6"), looks := false }, kinds := [], alts := [], laidByText := true, laidKinds := [.data, .data, .data, .data, .pinned], laidTests := true, laidLooks := .later }
def FnExactLogReadUptoCardSaid : Prop := Claim7.holds Tryd.pinned (.plain (OpenSpec.upto fnExactLogReadSpec)) fnExactLogReadUptoCard

/-- THE SECOND FORM's CARD OF 'laws.FnExactLogWrite'. -/
def fnExactLogWriteUptoCard : Claim7 := { stood := { row := fnExactLogWriteUptoRow, standIns := [], harness := (true, "db3932f5ca78fea8835bc8ddd515987acb19a4f8921aa1f4aa3ed976f54975c6"), looks := false }, kinds := [], alts := [], laidByText := true, laidKinds := [.data, .data, .data, .data, .pinned], laidTests := true, laidLooks := .later }
def FnExactLogWriteUptoCardSaid : Prop := Claim7.holds Tryd.pinned (.plain (OpenSpec.upto fnExactLogWriteSpec)) fnExactLogWriteUptoCard

/-- THE SECOND FORM's CARD OF 'laws.FnErrorText'. -/
def fnErrorTextUptoCard : Claim7 := { stood := { row := fnErrorTextUptoRow, standIns := [], harness := (true, "db3932f5ca78fea8835bc8ddd515987acb19a4f8921aa1f4aa3ed976f54975c6"), looks := false }, kinds := [], alts := [], laidByText := true, laidKinds := [.data, .data, .data, .data, .pinned], laidTests := true, laidLooks := .later }
def FnErrorTextUptoCardSaid : Prop := Claim7.holds Tryd.pinned (.plain (OpenSpec.upto fnErrorTextSpec)) fnErrorTextUptoCard

/-- THE SECOND FORM's CARD OF 'laws.FnErrorLog'. -/
def fnErrorLogUptoCard : Claim7 := { stood := { row := fnErrorLogUptoRow, standIns := [], harness := (true, "db3932f5ca78fea8835bc8ddd515987acb19a4f8921aa1f4aa3ed976f54975c6"), looks := false }, kinds := [], alts := [], laidByText := true, laidKinds := [.data, .data, .data, .data, .pinned], laidTests := true, laidLooks := .later }
def FnErrorLogUptoCardSaid : Prop := Claim7.holds Tryd.pinned (.plain (OpenSpec.upto fnErrorLogSpec)) fnErrorLogUptoCard
end Rows
end Go.Proofs.YtheifhjnbpbkhaaDoor
