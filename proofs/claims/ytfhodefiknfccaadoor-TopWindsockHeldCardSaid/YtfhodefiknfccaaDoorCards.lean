/-
  DERIVED. GIVEN WITH THE SEED: THE CARDS: each row of YtfhodefiknfccaaDoorRows.lean that lists a variable, with what it lists TIED to the program's text (the seventh form; the later family's looks); each row that meets fmt, with fmt's text TOLD by the authors' own Lean function (tested against real Go, not proved from fmt's source: count such statements apart). THE CARD IS WHAT COUNTS. Prove the row's statement (the work); the ties are given (YtfhodefiknfccaaDoorTie.lean); close each card by the builder's one call (the guide's Derived/Test/ToyasCard.lean, 'card_holds'). Laid BY PROGRAM, IN A SANDBOX (cutbox-door.mjs). By AI agents, Wed Nov 11 2026. No macro, syntax, notation, axiom, sorry.
-/
import Derived.Test.YtfhodefiknfccaaDoorRows
import GoSem.ClaimSeven
namespace Go.Proofs.YtfhodefiknfccaaDoor
namespace Rows

/-- THE TIED CARD OF 'glideslopetop.TopStopbarLying'. -/
def topStopbarLyingCard : Claim7 := { stood := { row := topStopbarLyingRow, standIns := [], harness := (true, "81b013bd3ad23e7090dcb4bff78765c8bb885986478b80cf0799606c5a74c20e"), looks := false }, kinds := [], alts := [], laidByText := true, laidKinds := [.funcs, .data], laidTests := true, laidLooks := .later }
def TopStopbarLyingCardSaid : Prop := Claim7.holds Tryd.pinned (.plain (OpenSpec.ofChange topStopbarLyingSpec)) topStopbarLyingCard

/-- THE TIED CARD OF 'glideslopetop.TopWindsockHeld'. -/
def topWindsockHeldCard : Claim7 := { stood := { row := topWindsockHeldRow, standIns := [], harness := (true, "81b013bd3ad23e7090dcb4bff78765c8bb885986478b80cf0799606c5a74c20e"), looks := false }, kinds := [], alts := [], laidByText := true, laidKinds := [.funcs], laidTests := true, laidLooks := .later }
def TopWindsockHeldCardSaid : Prop := Claim7.holds Tryd.pinned (.plain (OpenSpec.ofChange topWindsockHeldSpec)) topWindsockHeldCard

/-- THE TIED CARD OF 'glideslopetop.TopStopbarOff'. -/
def topStopbarOffCard : Claim7 := { stood := { row := topStopbarOffRow, standIns := [], harness := (true, "81b013bd3ad23e7090dcb4bff78765c8bb885986478b80cf0799606c5a74c20e"), looks := false }, kinds := [], alts := [], laidByText := true, laidKinds := [.funcs, .data], laidTests := true, laidLooks := .later }
def TopStopbarOffCardSaid : Prop := Claim7.holds Tryd.pinned (.plain (OpenSpec.ofChange topStopbarOffSpec)) topStopbarOffCard

/-- THE SECOND FORM's CARD OF 'glideslopetop.TopStopbarLying'. -/
def topStopbarLyingUptoCard : Claim7 := { stood := { row := topStopbarLyingUptoRow, standIns := [], harness := (true, "81b013bd3ad23e7090dcb4bff78765c8bb885986478b80cf0799606c5a74c20e"), looks := false }, kinds := [], alts := [], laidByText := true, laidKinds := [.funcs, .data], laidTests := true, laidLooks := .later }
def TopStopbarLyingUptoCardSaid : Prop := Claim7.holds Tryd.pinned (.plain (OpenSpec.upto topStopbarLyingSpec)) topStopbarLyingUptoCard

/-- THE SECOND FORM's CARD OF 'glideslopetop.TopWindsockHeld'. -/
def topWindsockHeldUptoCard : Claim7 := { stood := { row := topWindsockHeldUptoRow, standIns := [], harness := (true, "81b013bd3ad23e7090dcb4bff78765c8bb885986478b80cf0799606c5a74c20e"), looks := false }, kinds := [], alts := [], laidByText := true, laidKinds := [.funcs], laidTests := true, laidLooks := .later }
def TopWindsockHeldUptoCardSaid : Prop := Claim7.holds Tryd.pinned (.plain (OpenSpec.upto topWindsockHeldSpec)) topWindsockHeldUptoCard

/-- THE SECOND FORM's CARD OF 'glideslopetop.TopStopbarOff'. -/
def topStopbarOffUptoCard : Claim7 := { stood := { row := topStopbarOffUptoRow, standIns := [], harness := (true, "81b013bd3ad23e7090dcb4bff78765c8bb885986478b80cf0799606c5a74c20e"), looks := false }, kinds := [], alts := [], laidByText := true, laidKinds := [.funcs, .data], laidTests := true, laidLooks := .later }
def TopStopbarOffUptoCardSaid : Prop := Claim7.holds Tryd.pinned (.plain (OpenSpec.upto topStopbarOffSpec)) topStopbarOffUptoCard
end Rows
end Go.Proofs.YtfhodefiknfccaaDoor
