/-
  DERIVED. GIVEN WITH THE SEED: THE CARDS: each row of YtmfdgonjnckdhaaDoorRows.lean that lists a variable, with what it lists TIED to the program's text (the seventh form; the later family's looks); each row that meets fmt, with fmt's text TOLD by the authors' own Lean function (tested against real Go, not proved from fmt's source: count such statements apart). THE CARD IS WHAT COUNTS. Prove the row's statement (the work); the ties are given (YtmfdgonjnckdhaaDoorTie.lean); close each card by the builder's one call (the guide's Derived/Test/ToyasCard.lean, 'card_holds'). Laid BY PROGRAM, IN A SANDBOX (cutbox-door.mjs). By AI agents, Wed Nov 11 2026. No macro, syntax, notation, axiom, sorry.
-/
import Derived.Test.YtmfdgonjnckdhaaDoorRows
import GoSem.ClaimSeven
namespace Go.Proofs.YtmfdgonjnckdhaaDoor
namespace Rows

/-- THE TIED CARD OF 'cubeblaw04.IndexTransforms'. -/
def indexTransformsCard : Claim7 := { stood := { row := indexTransformsRow, standIns := [], harness := (true, "57f5a138b75765002f2da81363b4473e3b184d17bdc659e08f302f5d454119cb"), looks := false }, kinds := [], alts := [], laidByText := true, laidKinds := [.data, .pinned], laidTests := true, laidLooks := .later }
def IndexTransformsCardSaid : Prop := Claim7.holds Tryd.pinned (.plain (OpenSpec.ofChange indexTransformsSpec)) indexTransformsCard

/-- THE TIED CARD OF 'cubeblaw04.IndexWavelets'. -/
def indexWaveletsCard : Claim7 := { stood := { row := indexWaveletsRow, standIns := [], harness := (true, "57f5a138b75765002f2da81363b4473e3b184d17bdc659e08f302f5d454119cb"), looks := false }, kinds := [], alts := [], laidByText := true, laidKinds := [.data, .pinned], laidTests := true, laidLooks := .later }
def IndexWaveletsCardSaid : Prop := Claim7.holds Tryd.pinned (.plain (OpenSpec.ofChange indexWaveletsSpec)) indexWaveletsCard

/-- THE TIED CARD OF 'cubeblaw04.IndexLevels'. -/
def indexLevelsCard : Claim7 := { stood := { row := indexLevelsRow, standIns := [], harness := (true, "57f5a138b75765002f2da81363b4473e3b184d17bdc659e08f302f5d454119cb"), looks := false }, kinds := [], alts := [], laidByText := true, laidKinds := [.data, .pinned], laidTests := true, laidLooks := .later }
def IndexLevelsCardSaid : Prop := Claim7.holds Tryd.pinned (.plain (OpenSpec.ofChange indexLevelsSpec)) indexLevelsCard

/-- THE TIED CARD OF 'cubeblaw04.IndexBack'. -/
def indexBackCard : Claim7 := { stood := { row := indexBackRow, standIns := [], harness := (true, "57f5a138b75765002f2da81363b4473e3b184d17bdc659e08f302f5d454119cb"), looks := false }, kinds := [], alts := [], laidByText := true, laidKinds := [.data, .pinned], laidTests := true, laidLooks := .later }
def IndexBackCardSaid : Prop := Claim7.holds Tryd.pinned (.plain (OpenSpec.ofChange indexBackSpec)) indexBackCard

/-- THE SECOND FORM's CARD OF 'cubeblaw04.IndexTransforms'. -/
def indexTransformsUptoCard : Claim7 := { stood := { row := indexTransformsUptoRow, standIns := [], harness := (true, "57f5a138b75765002f2da81363b4473e3b184d17bdc659e08f302f5d454119cb"), looks := false }, kinds := [], alts := [], laidByText := true, laidKinds := [.data, .pinned], laidTests := true, laidLooks := .later }
def IndexTransformsUptoCardSaid : Prop := Claim7.holds Tryd.pinned (.plain (OpenSpec.upto indexTransformsSpec)) indexTransformsUptoCard

/-- THE SECOND FORM's CARD OF 'cubeblaw04.IndexWavelets'. -/
def indexWaveletsUptoCard : Claim7 := { stood := { row := indexWaveletsUptoRow, standIns := [], harness := (true, "57f5a138b75765002f2da81363b4473e3b184d17bdc659e08f302f5d454119cb"), looks := false }, kinds := [], alts := [], laidByText := true, laidKinds := [.data, .pinned], laidTests := true, laidLooks := .later }
def IndexWaveletsUptoCardSaid : Prop := Claim7.holds Tryd.pinned (.plain (OpenSpec.upto indexWaveletsSpec)) indexWaveletsUptoCard

/-- THE SECOND FORM's CARD OF 'cubeblaw04.IndexLevels'. -/
def indexLevelsUptoCard : Claim7 := { stood := { row := indexLevelsUptoRow, standIns := [], harness := (true, "57f5a138b75765002f2da81363b4473e3b184d17bdc659e08f302f5d454119cb"), looks := false }, kinds := [], alts := [], laidByText := true, laidKinds := [.data, .pinned], laidTests := true, laidLooks := .later }
def IndexLevelsUptoCardSaid : Prop := Claim7.holds Tryd.pinned (.plain (OpenSpec.upto indexLevelsSpec)) indexLevelsUptoCard

/-- THE SECOND FORM's CARD OF 'cubeblaw04.IndexBack'. -/
def indexBackUptoCard : Claim7 := { stood := { row := indexBackUptoRow, standIns := [], harness := (true, "57f5a138b75765002f2da81363b4473e3b184d17bdc659e08f302f5d454119cb"), looks := false }, kinds := [], alts := [], laidByText := true, laidKinds := [.data, .pinned], laidTests := true, laidLooks := .later }
def IndexBackUptoCardSaid : Prop := Claim7.holds Tryd.pinned (.plain (OpenSpec.upto indexBackSpec)) indexBackUptoCard
end Rows
end Go.Proofs.YtmfdgonjnckdhaaDoor
