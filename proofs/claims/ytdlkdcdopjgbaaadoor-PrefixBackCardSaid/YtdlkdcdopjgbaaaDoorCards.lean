/-
  DERIVED. GIVEN WITH THE SEED: THE CARDS: each row of YtdlkdcdopjgbaaaDoorRows.lean that lists a variable, with what it lists TIED to the program's text (the seventh form; the later family's looks); each row that meets fmt, with fmt's text TOLD by the authors' own Lean function (tested against real Go, not proved from fmt's source: count such statements apart). THE CARD IS WHAT COUNTS. Prove the row's statement (the work); the ties are given (YtdlkdcdopjgbaaaDoorTie.lean); close each card by the builder's one call (the guide's Derived/Test/ToyasCard.lean, 'card_holds'). Laid BY PROGRAM, IN A SANDBOX (cutbox-door.mjs). By AI agents, Wed Nov 11 2026. No macro, syntax, notation, axiom, sorry.
-/
import Derived.Test.YtdlkdcdopjgbaaaDoorRows
import GoSem.ClaimSeven
namespace Go.Proofs.YtdlkdcdopjgbaaaDoor
namespace Rows

/-- THE TIED CARD OF 'vizardlaw04.PrefixWrites'. -/
def prefixWritesCard : Claim7 := { stood := { row := prefixWritesRow, standIns := [], harness := (true, "28ba80dbfac398eb5d2fa1aab7a88eb4ac6d38adea314eea4c13e5f85f4e7ea0"), looks := true }, kinds := [], alts := [], laidByText := true, laidKinds := [.data, .data, .data, .data, .sentinel, .sentinel, .pinned], laidTests := true, laidLooks := .later }
def PrefixWritesCardSaid : Prop := Claim7.holds Tryd.pinned (.plain (OpenSpec.ofChange prefixWritesSpec)) prefixWritesCard

/-- THE TIED CARD OF 'vizardlaw04.PrefixOnce'. -/
def prefixOnceCard : Claim7 := { stood := { row := prefixOnceRow, standIns := [], harness := (true, "28ba80dbfac398eb5d2fa1aab7a88eb4ac6d38adea314eea4c13e5f85f4e7ea0"), looks := true }, kinds := [], alts := [], laidByText := true, laidKinds := [.data, .data, .data, .data, .sentinel, .sentinel, .pinned], laidTests := true, laidLooks := .later }
def PrefixOnceCardSaid : Prop := Claim7.holds Tryd.pinned (.plain (OpenSpec.ofChange prefixOnceSpec)) prefixOnceCard

/-- THE TIED CARD OF 'vizardlaw04.PrefixHalves'. -/
def prefixHalvesCard : Claim7 := { stood := { row := prefixHalvesRow, standIns := [], harness := (true, "28ba80dbfac398eb5d2fa1aab7a88eb4ac6d38adea314eea4c13e5f85f4e7ea0"), looks := true }, kinds := [], alts := [], laidByText := true, laidKinds := [.data, .data, .data, .data, .sentinel, .sentinel, .pinned], laidTests := true, laidLooks := .later }
def PrefixHalvesCardSaid : Prop := Claim7.holds Tryd.pinned (.plain (OpenSpec.ofChange prefixHalvesSpec)) prefixHalvesCard

/-- THE TIED CARD OF 'vizardlaw04.PrefixEdges'. -/
def prefixEdgesCard : Claim7 := { stood := { row := prefixEdgesRow, standIns := [], harness := (true, "28ba80dbfac398eb5d2fa1aab7a88eb4ac6d38adea314eea4c13e5f85f4e7ea0"), looks := true }, kinds := [], alts := [], laidByText := true, laidKinds := [.data, .data, .data, .data, .sentinel, .sentinel, .pinned], laidTests := true, laidLooks := .later }
def PrefixEdgesCardSaid : Prop := Claim7.holds Tryd.pinned (.plain (OpenSpec.ofChange prefixEdgesSpec)) prefixEdgesCard

/-- THE TIED CARD OF 'vizardlaw04.PrefixBack'. -/
def prefixBackCard : Claim7 := { stood := { row := prefixBackRow, standIns := [], harness := (true, "28ba80dbfac398eb5d2fa1aab7a88eb4ac6d38adea314eea4c13e5f85f4e7ea0"), looks := true }, kinds := [], alts := [], laidByText := true, laidKinds := [.data, .data, .data, .data, .sentinel, .sentinel, .pinned], laidTests := true, laidLooks := .later }
def PrefixBackCardSaid : Prop := Claim7.holds Tryd.pinned (.plain (OpenSpec.ofChange prefixBackSpec)) prefixBackCard

/-- THE TIED CARD OF 'vizardlaw17.TargetParses'. -/
def targetParsesCard : Claim7 := { stood := { row := targetParsesRow, standIns := [], harness := (true, "28ba80dbfac398eb5d2fa1aab7a88eb4ac6d38adea314eea4c13e5f85f4e7ea0"), looks := true }, kinds := [], alts := [], laidByText := true, laidKinds := [.data, .data, .data, .data, .sentinel, .sentinel, .pinned], laidTests := true, laidLooks := .later }
def TargetParsesCardSaid : Prop := Claim7.holds Tryd.pinned (.plain (OpenSpec.ofChange targetParsesSpec)) targetParsesCard

/-- THE TIED CARD OF 'vizardlaw17.TargetBack'. -/
def targetBackCard : Claim7 := { stood := { row := targetBackRow, standIns := [], harness := (true, "28ba80dbfac398eb5d2fa1aab7a88eb4ac6d38adea314eea4c13e5f85f4e7ea0"), looks := true }, kinds := [], alts := [], laidByText := true, laidKinds := [.data, .data, .data, .data, .sentinel, .sentinel, .pinned], laidTests := true, laidLooks := .later }
def TargetBackCardSaid : Prop := Claim7.holds Tryd.pinned (.plain (OpenSpec.ofChange targetBackSpec)) targetBackCard

/-- THE TIED CARD OF 'vizardlaw17.TargetStatus'. -/
def targetStatusCard : Claim7 := { stood := { row := targetStatusRow, standIns := [], harness := (true, "28ba80dbfac398eb5d2fa1aab7a88eb4ac6d38adea314eea4c13e5f85f4e7ea0"), looks := true }, kinds := [], alts := [], laidByText := true, laidKinds := [.data, .data, .data, .data, .sentinel, .sentinel, .pinned], laidTests := true, laidLooks := .later }
def TargetStatusCardSaid : Prop := Claim7.holds Tryd.pinned (.plain (OpenSpec.ofChange targetStatusSpec)) targetStatusCard

/-- THE TIED CARD OF 'vizardlaw17.TargetOrder'. -/
def targetOrderCard : Claim7 := { stood := { row := targetOrderRow, standIns := [], harness := (true, "28ba80dbfac398eb5d2fa1aab7a88eb4ac6d38adea314eea4c13e5f85f4e7ea0"), looks := true }, kinds := [], alts := [], laidByText := true, laidKinds := [.data, .data, .data, .data, .sentinel, .sentinel, .pinned], laidTests := true, laidLooks := .later }
def TargetOrderCardSaid : Prop := Claim7.holds Tryd.pinned (.plain (OpenSpec.ofChange targetOrderSpec)) targetOrderCard

/-- THE SECOND FORM's CARD OF 'vizardlaw04.PrefixWrites'. -/
def prefixWritesUptoCard : Claim7 := { stood := { row := prefixWritesUptoRow, standIns := [], harness := (true, "28ba80dbfac398eb5d2fa1aab7a88eb4ac6d38adea314eea4c13e5f85f4e7ea0"), looks := true }, kinds := [], alts := [], laidByText := true, laidKinds := [.data, .data, .data, .data, .sentinel, .sentinel, .pinned], laidTests := true, laidLooks := .later }
def PrefixWritesUptoCardSaid : Prop := Claim7.holds Tryd.pinned (.plain (OpenSpec.upto prefixWritesSpec)) prefixWritesUptoCard

/-- THE SECOND FORM's CARD OF 'vizardlaw04.PrefixOnce'. -/
def prefixOnceUptoCard : Claim7 := { stood := { row := prefixOnceUptoRow, standIns := [], harness := (true, "28ba80dbfac398eb5d2fa1aab7a88eb4ac6d38adea314eea4c13e5f85f4e7ea0"), looks := true }, kinds := [], alts := [], laidByText := true, laidKinds := [.data, .data, .data, .data, .sentinel, .sentinel, .pinned], laidTests := true, laidLooks := .later }
def PrefixOnceUptoCardSaid : Prop := Claim7.holds Tryd.pinned (.plain (OpenSpec.upto prefixOnceSpec)) prefixOnceUptoCard

/-- THE SECOND FORM's CARD OF 'vizardlaw04.PrefixHalves'. -/
def prefixHalvesUptoCard : Claim7 := { stood := { row := prefixHalvesUptoRow, standIns := [], harness := (true, "28ba80dbfac398eb5d2fa1aab7a88eb4ac6d38adea314eea4c13e5f85f4e7ea0"), looks := true }, kinds := [], alts := [], laidByText := true, laidKinds := [.data, .data, .data, .data, .sentinel, .sentinel, .pinned], laidTests := true, laidLooks := .later }
def PrefixHalvesUptoCardSaid : Prop := Claim7.holds Tryd.pinned (.plain (OpenSpec.upto prefixHalvesSpec)) prefixHalvesUptoCard

/-- THE SECOND FORM's CARD OF 'vizardlaw04.PrefixEdges'. -/
def prefixEdgesUptoCard : Claim7 := { stood := { row := prefixEdgesUptoRow, standIns := [], harness := (true, "28ba80dbfac398eb5d2fa1aab7a88eb4ac6d38adea314eea4c13e5f85f4e7ea0"), looks := true }, kinds := [], alts := [], laidByText := true, laidKinds := [.data, .data, .data, .data, .sentinel, .sentinel, .pinned], laidTests := true, laidLooks := .later }
def PrefixEdgesUptoCardSaid : Prop := Claim7.holds Tryd.pinned (.plain (OpenSpec.upto prefixEdgesSpec)) prefixEdgesUptoCard

/-- THE SECOND FORM's CARD OF 'vizardlaw04.PrefixBack'. -/
def prefixBackUptoCard : Claim7 := { stood := { row := prefixBackUptoRow, standIns := [], harness := (true, "28ba80dbfac398eb5d2fa1aab7a88eb4ac6d38adea314eea4c13e5f85f4e7ea0"), looks := true }, kinds := [], alts := [], laidByText := true, laidKinds := [.data, .data, .data, .data, .sentinel, .sentinel, .pinned], laidTests := true, laidLooks := .later }
def PrefixBackUptoCardSaid : Prop := Claim7.holds Tryd.pinned (.plain (OpenSpec.upto prefixBackSpec)) prefixBackUptoCard

/-- THE SECOND FORM's CARD OF 'vizardlaw17.TargetParses'. -/
def targetParsesUptoCard : Claim7 := { stood := { row := targetParsesUptoRow, standIns := [], harness := (true, "28ba80dbfac398eb5d2fa1aab7a88eb4ac6d38adea314eea4c13e5f85f4e7ea0"), looks := true }, kinds := [], alts := [], laidByText := true, laidKinds := [.data, .data, .data, .data, .sentinel, .sentinel, .pinned], laidTests := true, laidLooks := .later }
def TargetParsesUptoCardSaid : Prop := Claim7.holds Tryd.pinned (.plain (OpenSpec.upto targetParsesSpec)) targetParsesUptoCard

/-- THE SECOND FORM's CARD OF 'vizardlaw17.TargetBack'. -/
def targetBackUptoCard : Claim7 := { stood := { row := targetBackUptoRow, standIns := [], harness := (true, "28ba80dbfac398eb5d2fa1aab7a88eb4ac6d38adea314eea4c13e5f85f4e7ea0"), looks := true }, kinds := [], alts := [], laidByText := true, laidKinds := [.data, .data, .data, .data, .sentinel, .sentinel, .pinned], laidTests := true, laidLooks := .later }
def TargetBackUptoCardSaid : Prop := Claim7.holds Tryd.pinned (.plain (OpenSpec.upto targetBackSpec)) targetBackUptoCard

/-- THE SECOND FORM's CARD OF 'vizardlaw17.TargetStatus'. -/
def targetStatusUptoCard : Claim7 := { stood := { row := targetStatusUptoRow, standIns := [], harness := (true, "28ba80dbfac398eb5d2fa1aab7a88eb4ac6d38adea314eea4c13e5f85f4e7ea0"), looks := true }, kinds := [], alts := [], laidByText := true, laidKinds := [.data, .data, .data, .data, .sentinel, .sentinel, .pinned], laidTests := true, laidLooks := .later }
def TargetStatusUptoCardSaid : Prop := Claim7.holds Tryd.pinned (.plain (OpenSpec.upto targetStatusSpec)) targetStatusUptoCard

/-- THE SECOND FORM's CARD OF 'vizardlaw17.TargetOrder'. -/
def targetOrderUptoCard : Claim7 := { stood := { row := targetOrderUptoRow, standIns := [], harness := (true, "28ba80dbfac398eb5d2fa1aab7a88eb4ac6d38adea314eea4c13e5f85f4e7ea0"), looks := true }, kinds := [], alts := [], laidByText := true, laidKinds := [.data, .data, .data, .data, .sentinel, .sentinel, .pinned], laidTests := true, laidLooks := .later }
def TargetOrderUptoCardSaid : Prop := Claim7.holds Tryd.pinned (.plain (OpenSpec.upto targetOrderSpec)) targetOrderUptoCard
end Rows
end Go.Proofs.YtdlkdcdopjgbaaaDoor
