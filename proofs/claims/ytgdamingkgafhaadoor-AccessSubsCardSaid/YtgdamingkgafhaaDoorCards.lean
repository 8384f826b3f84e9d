/-
  DERIVED. GIVEN WITH THE SEED: THE CARDS: each row of YtgdamingkgafhaaDoorRows.lean that lists a variable, with what it lists TIED to the program's text (the seventh form; the later family's looks); each row that meets fmt, with fmt's text TOLD by the authors' own Lean function (tested against real Go, not proved from fmt's source: count such statements apart). THE CARD IS WHAT COUNTS. Prove the row's statement (the work); the ties are given (YtgdamingkgafhaaDoorTie.lean); close each card by the builder's one call (the guide's Derived/Test/ToyasCard.lean, 'card_holds'). Laid BY PROGRAM, IN A SANDBOX (cutbox-door.mjs). By AI agents, Wed Nov 11 2026. No macro, syntax, notation, axiom, sorry.
-/
import Derived.Test.YtgdamingkgafhaaDoorRows
import GoSem.ClaimSeven
namespace Go.Proofs.YtgdamingkgafhaaDoor
namespace Rows

/-- THE TIED CARD OF 'brokerlaw20.AccessChecks'. -/
def accessChecksCard : Claim7 := { stood := { row := accessChecksRow, standIns := [], harness := (true, "10317b51ddf82301356eff65ca8f8771846bbd22af1a6470bb0b9211b0db45c4"), looks := false }, kinds := [], alts := [], laidByText := true, laidKinds := [.data, .pinned], laidTests := true, laidLooks := .later }
def AccessChecksCardSaid : Prop := Claim7.holds Tryd.pinned (.plain (OpenSpec.ofChange accessChecksSpec)) accessChecksCard

/-- THE TIED CARD OF 'brokerlaw20.AccessExpands'. -/
def accessExpandsCard : Claim7 := { stood := { row := accessExpandsRow, standIns := [], harness := (true, "10317b51ddf82301356eff65ca8f8771846bbd22af1a6470bb0b9211b0db45c4"), looks := false }, kinds := [], alts := [], laidByText := true, laidKinds := [.data, .pinned], laidTests := true, laidLooks := .later }
def AccessExpandsCardSaid : Prop := Claim7.holds Tryd.pinned (.plain (OpenSpec.ofChange accessExpandsSpec)) accessExpandsCard

/-- THE TIED CARD OF 'brokerlaw20.AccessAllows'. -/
def accessAllowsCard : Claim7 := { stood := { row := accessAllowsRow, standIns := [], harness := (true, "10317b51ddf82301356eff65ca8f8771846bbd22af1a6470bb0b9211b0db45c4"), looks := false }, kinds := [], alts := [], laidByText := true, laidKinds := [.data, .pinned], laidTests := true, laidLooks := .later }
def AccessAllowsCardSaid : Prop := Claim7.holds Tryd.pinned (.plain (OpenSpec.ofChange accessAllowsSpec)) accessAllowsCard

/-- THE TIED CARD OF 'brokerlaw20.AccessSubs'. -/
def accessSubsCard : Claim7 := { stood := { row := accessSubsRow, standIns := [], harness := (true, "10317b51ddf82301356eff65ca8f8771846bbd22af1a6470bb0b9211b0db45c4"), looks := false }, kinds := [], alts := [], laidByText := true, laidKinds := [.data, .pinned], laidTests := true, laidLooks := .later }
def AccessSubsCardSaid : Prop := Claim7.holds Tryd.pinned (.plain (OpenSpec.ofChange accessSubsSpec)) accessSubsCard

/-- THE TIED CARD OF 'brokerlaw20.AccessShadows'. -/
def accessShadowsCard : Claim7 := { stood := { row := accessShadowsRow, standIns := [], harness := (true, "10317b51ddf82301356eff65ca8f8771846bbd22af1a6470bb0b9211b0db45c4"), looks := false }, kinds := [], alts := [], laidByText := true, laidKinds := [.data, .pinned], laidTests := true, laidLooks := .later }
def AccessShadowsCardSaid : Prop := Claim7.holds Tryd.pinned (.plain (OpenSpec.ofChange accessShadowsSpec)) accessShadowsCard

/-- THE TIED CARD OF 'brokerlaw20.AccessNever'. -/
def accessNeverCard : Claim7 := { stood := { row := accessNeverRow, standIns := [], harness := (true, "10317b51ddf82301356eff65ca8f8771846bbd22af1a6470bb0b9211b0db45c4"), looks := false }, kinds := [], alts := [], laidByText := true, laidKinds := [.data, .pinned], laidTests := true, laidLooks := .later }
def AccessNeverCardSaid : Prop := Claim7.holds Tryd.pinned (.plain (OpenSpec.ofChange accessNeverSpec)) accessNeverCard

/-- THE TIED CARD OF 'brokerlaw20.AccessIncluded'. -/
def accessIncludedCard : Claim7 := { stood := { row := accessIncludedRow, standIns := [], harness := (true, "10317b51ddf82301356eff65ca8f8771846bbd22af1a6470bb0b9211b0db45c4"), looks := false }, kinds := [], alts := [], laidByText := true, laidKinds := [.data, .pinned], laidTests := true, laidLooks := .later }
def AccessIncludedCardSaid : Prop := Claim7.holds Tryd.pinned (.plain (OpenSpec.ofChange accessIncludedSpec)) accessIncludedCard

/-- THE TIED CARD OF 'brokerlaw20.AccessFirst'. -/
def accessFirstCard : Claim7 := { stood := { row := accessFirstRow, standIns := [], harness := (true, "10317b51ddf82301356eff65ca8f8771846bbd22af1a6470bb0b9211b0db45c4"), looks := false }, kinds := [], alts := [], laidByText := true, laidKinds := [.data, .pinned], laidTests := true, laidLooks := .later }
def AccessFirstCardSaid : Prop := Claim7.holds Tryd.pinned (.plain (OpenSpec.ofChange accessFirstSpec)) accessFirstCard

/-- THE SECOND FORM's CARD OF 'brokerlaw20.AccessChecks'. -/
def accessChecksUptoCard : Claim7 := { stood := { row := accessChecksUptoRow, standIns := [], harness := (true, "10317b51ddf82301356eff65ca8f8771846bbd22af1a6470bb0b9211b0db45c4"), looks := false }, kinds := [], alts := [], laidByText := true, laidKinds := [.data, .pinned], laidTests := true, laidLooks := .later }
def AccessChecksUptoCardSaid : Prop := Claim7.holds Tryd.pinned (.plain (OpenSpec.upto accessChecksSpec)) accessChecksUptoCard

/-- THE SECOND FORM's CARD OF 'brokerlaw20.AccessExpands'. -/
def accessExpandsUptoCard : Claim7 := { stood := { row := accessExpandsUptoRow, standIns := [], harness := (true, "10317b51ddf82301356eff65ca8f8771846bbd22af1a6470bb0b9211b0db45c4"), looks := false }, kinds := [], alts := [], laidByText := true, laidKinds := [.data, .pinned], laidTests := true, laidLooks := .later }
def AccessExpandsUptoCardSaid : Prop := Claim7.holds Tryd.pinned (.plain (OpenSpec.upto accessExpandsSpec)) accessExpandsUptoCard

/-- THE SECOND FORM's CARD OF 'brokerlaw20.AccessAllows'. -/
def accessAllowsUptoCard : Claim7 := { stood := { row := accessAllowsUptoRow, standIns := [], harness := (true, "10317b51ddf82301356eff65ca8f8771846bbd22af1a6470bb0b9211b0db45c4"), looks := false }, kinds := [], alts := [], laidByText := true, laidKinds := [.data, .pinned], laidTests := true, laidLooks := .later }
def AccessAllowsUptoCardSaid : Prop := Claim7.holds Tryd.pinned (.plain (OpenSpec.upto accessAllowsSpec)) accessAllowsUptoCard

/-- THE SECOND FORM's CARD OF 'brokerlaw20.AccessSubs'. -/
def accessSubsUptoCard : Claim7 := { stood := { row := accessSubsUptoRow, standIns := [], harness := (true, "10317b51ddf82301356eff65ca8f8771846bbd22af1a6470bb0b9211b0db45c4"), looks := false }, kinds := [], alts := [], laidByText := true, laidKinds := [.data, .pinned], laidTests := true, laidLooks := .later }
def AccessSubsUptoCardSaid : Prop := Claim7.holds Tryd.pinned (.plain (OpenSpec.upto accessSubsSpec)) accessSubsUptoCard

/-- THE SECOND FORM's CARD OF 'brokerlaw20.AccessShadows'. -/
def accessShadowsUptoCard : Claim7 := { stood := { row := accessShadowsUptoRow, standIns := [], harness := (true, "10317b51ddf82301356eff65ca8f8771846bbd22af1a6470bb0b9211b0db45c4"), looks := false }, kinds := [], alts := [], laidByText := true, laidKinds := [.data, .pinned], laidTests := true, laidLooks := .later }
def AccessShadowsUptoCardSaid : Prop := Claim7.holds Tryd.pinned (.plain (OpenSpec.upto accessShadowsSpec)) accessShadowsUptoCard

/-- THE SECOND FORM's CARD OF 'brokerlaw20.AccessNever'. -/
def accessNeverUptoCard : Claim7 := { stood := { row := accessNeverUptoRow, standIns := [], harness := (true, "10317b51ddf82301356eff65ca8f8771846bbd22af1a6470bb0b9211b0db45c4"), looks := false }, kinds := [], alts := [], laidByText := true, laidKinds := [.data, .pinned], laidTests := true, laidLooks := .later }
def AccessNeverUptoCardSaid : Prop := Claim7.holds Tryd.pinned (.plain (OpenSpec.upto accessNeverSpec)) accessNeverUptoCard

/-- THE SECOND FORM's CARD OF 'brokerlaw20.AccessIncluded'. -/
def accessIncludedUptoCard : Claim7 := { stood := { row := accessIncludedUptoRow, standIns := [], harness := (true, "10317b51ddf82301356eff65ca8f8771846bbd22af1a6470bb0b9211b0db45c4"), looks := false }, kinds := [], alts := [], laidByText := true, laidKinds := [.data, .pinned], laidTests := true, laidLooks := .later }
def AccessIncludedUptoCardSaid : Prop := Claim7.holds Tryd.pinned (.plain (OpenSpec.upto accessIncludedSpec)) accessIncludedUptoCard

/-- THE SECOND FORM's CARD OF 'brokerlaw20.AccessFirst'. -/
def accessFirstUptoCard : Claim7 := { stood := { row := accessFirstUptoRow, standIns := [], harness := (true, "10317b51ddf82301356eff65ca8f8771846bbd22af1a6470bb0b9211b0db45c4"), looks := false }, kinds := [], alts := [], laidByText := true, laidKinds := [.data, .pinned], laidTests := true, laidLooks := .later }
def AccessFirstUptoCardSaid : Prop := Claim7.holds Tryd.pinned (.plain (OpenSpec.upto accessFirstSpec)) accessFirstUptoCard
end Rows
end Go.Proofs.YtgdamingkgafhaaDoor
