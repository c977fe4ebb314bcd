/-
  DERIVED. GIVEN WITH THE SEED: THE CARDS: each row of YtconhikflghkdaaDoorRows.lean that lists a variable, with what it lists TIED to the program's text (the seventh form; the later family's looks); each row that meets fmt, with fmt's text TOLD by the authors' own Lean function (tested against real Go, not proved from fmt's source: count such statements apart). THE CARD IS WHAT COUNTS. Prove the row's statement (the work); the ties are given (YtconhikflghkdaaDoorTie.lean); close each card by the builder's one call (the guide's Derived/Test/ToyasCard.lean, 'card_holds'). Laid BY PROGRAM, IN A SANDBOX (cutbox-door.mjs). By AI agents, Wed Nov 11 2026. No macro, syntax, notation, axiom, sorry.
-/
import Derived.Test.YtconhikflghkdaaDoorRows
import GoSem.ClaimSeven
namespace Go.Proofs.YtconhikflghkdaaDoor
namespace Rows

/-- THE TIED CARD OF 'stricklelaw01.RuleNeighbours'. -/
def ruleNeighboursCard : Claim7 := { stood := { row := ruleNeighboursRow, standIns := [], harness := (true, "1537d8f319fd2d8410ab8346ba22b793059811bef1630252f0e070d48d544361"), looks := true }, kinds := [], alts := [], laidByText := true, laidKinds := [.data, .data, .data], laidTests := true, laidLooks := .later }
def RuleNeighboursCardSaid : Prop := Claim7.holds Tryd.pinned (.plain (OpenSpec.ofChange ruleNeighboursSpec)) ruleNeighboursCard

/-- THE TIED CARD OF 'stricklelaw01.RuleAround'. -/
def ruleAroundCard : Claim7 := { stood := { row := ruleAroundRow, standIns := [], harness := (true, "1537d8f319fd2d8410ab8346ba22b793059811bef1630252f0e070d48d544361"), looks := true }, kinds := [], alts := [], laidByText := true, laidKinds := [.data, .data, .data], laidTests := true, laidLooks := .later }
def RuleAroundCardSaid : Prop := Claim7.holds Tryd.pinned (.plain (OpenSpec.ofChange ruleAroundSpec)) ruleAroundCard

/-- THE TIED CARD OF 'stricklelaw01.RuleSizes'. -/
def ruleSizesCard : Claim7 := { stood := { row := ruleSizesRow, standIns := [], harness := (true, "1537d8f319fd2d8410ab8346ba22b793059811bef1630252f0e070d48d544361"), looks := true }, kinds := [], alts := [], laidByText := true, laidKinds := [.data, .data, .data], laidTests := true, laidLooks := .later }
def RuleSizesCardSaid : Prop := Claim7.holds Tryd.pinned (.plain (OpenSpec.ofChange ruleSizesSpec)) ruleSizesCard

/-- THE TIED CARD OF 'stricklelaw01.RuleBest'. -/
def ruleBestCard : Claim7 := { stood := { row := ruleBestRow, standIns := [], harness := (true, "1537d8f319fd2d8410ab8346ba22b793059811bef1630252f0e070d48d544361"), looks := true }, kinds := [], alts := [], laidByText := true, laidKinds := [.data, .data, .data], laidTests := true, laidLooks := .later }
def RuleBestCardSaid : Prop := Claim7.holds Tryd.pinned (.plain (OpenSpec.ofChange ruleBestSpec)) ruleBestCard

/-- THE TIED CARD OF 'stricklelaw01.RuleSums'. -/
def ruleSumsCard : Claim7 := { stood := { row := ruleSumsRow, standIns := [], harness := (true, "1537d8f319fd2d8410ab8346ba22b793059811bef1630252f0e070d48d544361"), looks := true }, kinds := [], alts := [], laidByText := true, laidKinds := [.data, .data, .data], laidTests := true, laidLooks := .later }
def RuleSumsCardSaid : Prop := Claim7.holds Tryd.pinned (.plain (OpenSpec.ofChange ruleSumsSpec)) ruleSumsCard

/-- THE TIED CARD OF 'stricklelaw01.RuleField'. -/
def ruleFieldCard : Claim7 := { stood := { row := ruleFieldRow, standIns := [], harness := (true, "1537d8f319fd2d8410ab8346ba22b793059811bef1630252f0e070d48d544361"), looks := true }, kinds := [], alts := [], laidByText := true, laidKinds := [.data, .data, .data], laidTests := true, laidLooks := .later }
def RuleFieldCardSaid : Prop := Claim7.holds Tryd.pinned (.plain (OpenSpec.ofChange ruleFieldSpec)) ruleFieldCard

/-- THE TIED CARD OF 'stricklelaw01.RuleMediant'. -/
def ruleMediantCard : Claim7 := { stood := { row := ruleMediantRow, standIns := [], harness := (true, "1537d8f319fd2d8410ab8346ba22b793059811bef1630252f0e070d48d544361"), looks := true }, kinds := [], alts := [], laidByText := true, laidKinds := [.data, .data, .data], laidTests := true, laidLooks := .later }
def RuleMediantCardSaid : Prop := Claim7.holds Tryd.pinned (.plain (OpenSpec.ofChange ruleMediantSpec)) ruleMediantCard

/-- THE TIED CARD OF 'stricklelaw01.RuleNear'. -/
def ruleNearCard : Claim7 := { stood := { row := ruleNearRow, standIns := [], harness := (true, "1537d8f319fd2d8410ab8346ba22b793059811bef1630252f0e070d48d544361"), looks := true }, kinds := [], alts := [], laidByText := true, laidKinds := [.data, .data, .data], laidTests := true, laidLooks := .later }
def RuleNearCardSaid : Prop := Claim7.holds Tryd.pinned (.plain (OpenSpec.ofChange ruleNearSpec)) ruleNearCard

/-- THE TIED CARD OF 'stricklelaw01.RuleSimplest'. -/
def ruleSimplestCard : Claim7 := { stood := { row := ruleSimplestRow, standIns := [], harness := (true, "1537d8f319fd2d8410ab8346ba22b793059811bef1630252f0e070d48d544361"), looks := true }, kinds := [], alts := [], laidByText := true, laidKinds := [.data, .data, .data], laidTests := true, laidLooks := .later }
def RuleSimplestCardSaid : Prop := Claim7.holds Tryd.pinned (.plain (OpenSpec.ofChange ruleSimplestSpec)) ruleSimplestCard

/-- THE TIED CARD OF 'stricklelaw01.RuleSafe'. -/
def ruleSafeCard : Claim7 := { stood := { row := ruleSafeRow, standIns := [], harness := (true, "1537d8f319fd2d8410ab8346ba22b793059811bef1630252f0e070d48d544361"), looks := true }, kinds := [], alts := [], laidByText := true, laidKinds := [.data, .data, .data], laidTests := true, laidLooks := .later }
def RuleSafeCardSaid : Prop := Claim7.holds Tryd.pinned (.plain (OpenSpec.ofChange ruleSafeSpec)) ruleSafeCard

/-- THE TIED CARD OF 'stricklelaw01.RuleLeast'. -/
def ruleLeastCard : Claim7 := { stood := { row := ruleLeastRow, standIns := [], harness := (true, "1537d8f319fd2d8410ab8346ba22b793059811bef1630252f0e070d48d544361"), looks := true }, kinds := [], alts := [], laidByText := true, laidKinds := [.data, .data, .data], laidTests := true, laidLooks := .later }
def RuleLeastCardSaid : Prop := Claim7.holds Tryd.pinned (.plain (OpenSpec.ofChange ruleLeastSpec)) ruleLeastCard

/-- THE TIED CARD OF 'stricklelaw01.RuleFracs'. -/
def ruleFracsCard : Claim7 := { stood := { row := ruleFracsRow, standIns := [], harness := (true, "1537d8f319fd2d8410ab8346ba22b793059811bef1630252f0e070d48d544361"), looks := true }, kinds := [], alts := [], laidByText := true, laidKinds := [.data, .data, .data], laidTests := true, laidLooks := .later }
def RuleFracsCardSaid : Prop := Claim7.holds Tryd.pinned (.plain (OpenSpec.ofChange ruleFracsSpec)) ruleFracsCard

/-- THE TIED CARD OF 'stricklelaw01.RuleChained'. -/
def ruleChainedCard : Claim7 := { stood := { row := ruleChainedRow, standIns := [], harness := (true, "1537d8f319fd2d8410ab8346ba22b793059811bef1630252f0e070d48d544361"), looks := true }, kinds := [], alts := [], laidByText := true, laidKinds := [.data, .data, .data], laidTests := true, laidLooks := .later }
def RuleChainedCardSaid : Prop := Claim7.holds Tryd.pinned (.plain (OpenSpec.ofChange ruleChainedSpec)) ruleChainedCard

/-- THE TIED CARD OF 'stricklelaw01.RuleProved'. -/
def ruleProvedCard : Claim7 := { stood := { row := ruleProvedRow, standIns := [], harness := (true, "1537d8f319fd2d8410ab8346ba22b793059811bef1630252f0e070d48d544361"), looks := true }, kinds := [], alts := [], laidByText := true, laidKinds := [.data, .data, .data], laidTests := true, laidLooks := .later }
def RuleProvedCardSaid : Prop := Claim7.holds Tryd.pinned (.plain (OpenSpec.ofChange ruleProvedSpec)) ruleProvedCard

/-- THE TIED CARD OF 'stricklelaw01.RuleCasts'. -/
def ruleCastsCard : Claim7 := { stood := { row := ruleCastsRow, standIns := [], harness := (true, "1537d8f319fd2d8410ab8346ba22b793059811bef1630252f0e070d48d544361"), looks := true }, kinds := [], alts := [], laidByText := true, laidKinds := [.data, .data, .data], laidTests := true, laidLooks := .later }
def RuleCastsCardSaid : Prop := Claim7.holds Tryd.pinned (.plain (OpenSpec.ofChange ruleCastsSpec)) ruleCastsCard

/-- THE TIED CARD OF 'stricklelaw01.RuleTerms'. -/
def ruleTermsCard : Claim7 := { stood := { row := ruleTermsRow, standIns := [], harness := (true, "1537d8f319fd2d8410ab8346ba22b793059811bef1630252f0e070d48d544361"), looks := true }, kinds := [], alts := [], laidByText := true, laidKinds := [.data, .data, .data], laidTests := true, laidLooks := .later }
def RuleTermsCardSaid : Prop := Claim7.holds Tryd.pinned (.plain (OpenSpec.ofChange ruleTermsSpec)) ruleTermsCard

/-- THE TIED CARD OF 'stricklelaw01.RuleSteps'. -/
def ruleStepsCard : Claim7 := { stood := { row := ruleStepsRow, standIns := [], harness := (true, "1537d8f319fd2d8410ab8346ba22b793059811bef1630252f0e070d48d544361"), looks := true }, kinds := [], alts := [], laidByText := true, laidKinds := [.data, .data, .data], laidTests := true, laidLooks := .later }
def RuleStepsCardSaid : Prop := Claim7.holds Tryd.pinned (.plain (OpenSpec.ofChange ruleStepsSpec)) ruleStepsCard

/-- THE SECOND FORM's CARD OF 'stricklelaw01.RuleNeighbours'. -/
def ruleNeighboursUptoCard : Claim7 := { stood := { row := ruleNeighboursUptoRow, standIns := [], harness := (true, "1537d8f319fd2d8410ab8346ba22b793059811bef1630252f0e070d48d544361"), looks := true }, kinds := [], alts := [], laidByText := true, laidKinds := [.data, .data, .data], laidTests := true, laidLooks := .later }
def RuleNeighboursUptoCardSaid : Prop := Claim7.holds Tryd.pinned (.plain (OpenSpec.upto ruleNeighboursSpec)) ruleNeighboursUptoCard

/-- THE SECOND FORM's CARD OF 'stricklelaw01.RuleAround'. -/
def ruleAroundUptoCard : Claim7 := { stood := { row := ruleAroundUptoRow, standIns := [], harness := (true, "1537d8f319fd2d8410ab8346ba22b793059811bef1630252f0e070d48d544361"), looks := true }, kinds := [], alts := [], laidByText := true, laidKinds := [.data, .data, .data], laidTests := true, laidLooks := .later }
def RuleAroundUptoCardSaid : Prop := Claim7.holds Tryd.pinned (.plain (OpenSpec.upto ruleAroundSpec)) ruleAroundUptoCard

/-- THE SECOND FORM's CARD OF 'stricklelaw01.RuleSizes'. -/
def ruleSizesUptoCard : Claim7 := { stood := { row := ruleSizesUptoRow, standIns := [], harness := (true, "1537d8f319fd2d8410ab8346ba22b793059811bef1630252f0e070d48d544361"), looks := true }, kinds := [], alts := [], laidByText := true, laidKinds := [.data, .data, .data], laidTests := true, laidLooks := .later }
def RuleSizesUptoCardSaid : Prop := Claim7.holds Tryd.pinned (.plain (OpenSpec.upto ruleSizesSpec)) ruleSizesUptoCard

/-- THE SECOND FORM's CARD OF 'stricklelaw01.RuleBest'. -/
def ruleBestUptoCard : Claim7 := { stood := { row := ruleBestUptoRow, standIns := [], harness := (true, "1537d8f319fd2d8410ab8346ba22b793059811bef1630252f0e070d48d544361"), looks := true }, kinds := [], alts := [], laidByText := true, laidKinds := [.data, .data, .data], laidTests := true, laidLooks := .later }
def RuleBestUptoCardSaid : Prop := Claim7.holds Tryd.pinned (.plain (OpenSpec.upto ruleBestSpec)) ruleBestUptoCard

/-- THE SECOND FORM's CARD OF 'stricklelaw01.RuleSums'. -/
def ruleSumsUptoCard : Claim7 := { stood := { row := ruleSumsUptoRow, standIns := [], harness := (true, "1537d8f319fd2d8410ab8346ba22b793059811bef1630252f0e070d48d544361"), looks := true }, kinds := [], alts := [], laidByText := true, laidKinds := [.data, .data, .data], laidTests := true, laidLooks := .later }
def RuleSumsUptoCardSaid : Prop := Claim7.holds Tryd.pinned (.plain (OpenSpec.upto ruleSumsSpec)) ruleSumsUptoCard

/-- THE SECOND FORM's CARD OF 'stricklelaw01.RuleField'. -/
def ruleFieldUptoCard : Claim7 := { stood := { row := ruleFieldUptoRow, standIns := [], harness := (true, "1537d8f319fd2d8410ab8346ba22b793059811bef1630252f0e070d48d544361"), looks := true }, kinds := [], alts := [], laidByText := true, laidKinds := [.data, .data, .data], laidTests := true, laidLooks := .later }
def RuleFieldUptoCardSaid : Prop := Claim7.holds Tryd.pinned (.plain (OpenSpec.upto ruleFieldSpec)) ruleFieldUptoCard

/-- THE SECOND FORM's CARD OF 'stricklelaw01.RuleMediant'. -/
def ruleMediantUptoCard : Claim7 := { stood := { row := ruleMediantUptoRow, standIns := [], harness := (true, "1537d8f319fd2d8410ab8346ba22b793059811bef1630252f0e070d48d544361"), looks := true }, kinds := [], alts := [], laidByText := true, laidKinds := [.data, .data, .data], laidTests := true, laidLooks := .later }
def RuleMediantUptoCardSaid : Prop := Claim7.holds Tryd.pinned (.plain (OpenSpec.upto ruleMediantSpec)) ruleMediantUptoCard

/-- THE SECOND FORM's CARD OF 'stricklelaw01.RuleNear'. -/
def ruleNearUptoCard : Claim7 := { stood := { row := ruleNearUptoRow, standIns := [], harness := (true, "1537d8f319fd2d8410ab8346ba22b793059811bef1630252f0e070d48d544361"), looks := true }, kinds := [], alts := [], laidByText := true, laidKinds := [.data, .data, .data], laidTests := true, laidLooks := .later }
def RuleNearUptoCardSaid : Prop := Claim7.holds Tryd.pinned (.plain (OpenSpec.upto ruleNearSpec)) ruleNearUptoCard

/-- THE SECOND FORM's CARD OF 'stricklelaw01.RuleSimplest'. -/
def ruleSimplestUptoCard : Claim7 := { stood := { row := ruleSimplestUptoRow, standIns := [], harness := (true, "1537d8f319fd2d8410ab8346ba22b793059811bef1630252f0e070d48d544361"), looks := true }, kinds := [], alts := [], laidByText := true, laidKinds := [.data, .data, .data], laidTests := true, laidLooks := .later }
def RuleSimplestUptoCardSaid : Prop := Claim7.holds Tryd.pinned (.plain (OpenSpec.upto ruleSimplestSpec)) ruleSimplestUptoCard

/-- THE SECOND FORM's CARD OF 'stricklelaw01.RuleSafe'. -/
def ruleSafeUptoCard : Claim7 := { stood := { row := ruleSafeUptoRow, standIns := [], harness := (true, "1537d8f319fd2d8410ab8346ba22b793059811bef1630252f0e070d48d544361"), looks := true }, kinds := [], alts := [], laidByText := true, laidKinds := [.data, .data, .data], laidTests := true, laidLooks := .later }
def RuleSafeUptoCardSaid : Prop := Claim7.holds Tryd.pinned (.plain (OpenSpec.upto ruleSafeSpec)) ruleSafeUptoCard

/-- THE SECOND FORM's CARD OF 'stricklelaw01.RuleLeast'. -/
def ruleLeastUptoCard : Claim7 := { stood := { row := ruleLeastUptoRow, standIns := [], harness := (true, "1537d8f319fd2d8410ab8346ba22b793059811bef1630252f0e070d48d544361"), looks := true }, kinds := [], alts := [], laidByText := true, laidKinds := [.data, .data, .data], laidTests := true, laidLooks := .later }
def RuleLeastUptoCardSaid : Prop := Claim7.holds Tryd.pinned (.plain (OpenSpec.upto ruleLeastSpec)) ruleLeastUptoCard

/-- THE SECOND FORM's CARD OF 'stricklelaw01.RuleFracs'. -/
def ruleFracsUptoCard : Claim7 := { stood := { row := ruleFracsUptoRow, standIns := [], harness := (true, "1537d8f319fd2d8410ab8346ba22b793059811bef1630252f0e070d48d544361"), looks := true }, kinds := [], alts := [], laidByText := true, laidKinds := [.data, .data, .data], laidTests := true, laidLooks := .later }
def RuleFracsUptoCardSaid : Prop := Claim7.holds Tryd.pinned (.plain (OpenSpec.upto ruleFracsSpec)) ruleFracsUptoCard

/-- THE SECOND FORM's CARD OF 'stricklelaw01.RuleChained'. -/
def ruleChainedUptoCard : Claim7 := { stood := { row := ruleChainedUptoRow, standIns := [], harness := (true, "1537d8f319fd2d8410ab8346ba22b793059811bef1630252f0e070d48d544361"), looks := true }, kinds := [], alts := [], laidByText := true, laidKinds := [.data, .data, .data], laidTests := true, laidLooks := .later }
def RuleChainedUptoCardSaid : Prop := Claim7.holds Tryd.pinned (.plain (OpenSpec.upto ruleChainedSpec)) ruleChainedUptoCard

/-- THE SECOND FORM's CARD OF 'stricklelaw01.RuleProved'. -/
def ruleProvedUptoCard : Claim7 := { stood := { row := ruleProvedUptoRow, standIns := [], harness := (true, "1537d8f319fd2d8410ab8346ba22b793059811bef1630252f0e070d48d544361"), looks := true }, kinds := [], alts := [], laidByText := true, laidKinds := [.data, .data, .data], laidTests := true, laidLooks := .later }
def RuleProvedUptoCardSaid : Prop := Claim7.holds Tryd.pinned (.plain (OpenSpec.upto ruleProvedSpec)) ruleProvedUptoCard

/-- THE SECOND FORM's CARD OF 'stricklelaw01.RuleCasts'. -/
def ruleCastsUptoCard : Claim7 := { stood := { row := ruleCastsUptoRow, standIns := [], harness := (true, "1537d8f319fd2d8410ab8346ba22b793059811bef1630252f0e070d48d544361"), looks := true }, kinds := [], alts := [], laidByText := true, laidKinds := [.data, .data, .data], laidTests := true, laidLooks := .later }
def RuleCastsUptoCardSaid : Prop := Claim7.holds Tryd.pinned (.plain (OpenSpec.upto ruleCastsSpec)) ruleCastsUptoCard

/-- THE SECOND FORM's CARD OF 'stricklelaw01.RuleTerms'. -/
def ruleTermsUptoCard : Claim7 := { stood := { row := ruleTermsUptoRow, standIns := [], harness := (true, "1537d8f319fd2d8410ab8346ba22b793059811bef1630252f0e070d48d544361"), looks := true }, kinds := [], alts := [], laidByText := true, laidKinds := [.data, .data, .data], laidTests := true, laidLooks := .later }
def RuleTermsUptoCardSaid : Prop := Claim7.holds Tryd.pinned (.plain (OpenSpec.upto ruleTermsSpec)) ruleTermsUptoCard

/-- THE SECOND FORM's CARD OF 'stricklelaw01.RuleSteps'. -/
def ruleStepsUptoCard : Claim7 := { stood := { row := ruleStepsUptoRow, standIns := [], harness := (true, "1537d8f319fd2d8410ab8346ba22b793059811bef1630252f0e070d48d544361"), looks := true }, kinds := [], alts := [], laidByText := true, laidKinds := [.data, .data, .data], laidTests := true, laidLooks := .later }
def RuleStepsUptoCardSaid : Prop := Claim7.holds Tryd.pinned (.plain (OpenSpec.upto ruleStepsSpec)) ruleStepsUptoCard
end Rows
end Go.Proofs.YtconhikflghkdaaDoor
