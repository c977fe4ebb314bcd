/-
  NARROWER THAN 'FOR EVERY INPUT', by the rows' own cells (each row's printed sentence says how): RuleNeighbours: laid · RuleAround: laid · RuleSizes: laid · RuleBest: laid · RuleSums: laid · RuleField: laid · RuleMediant: laid · RuleNear: laid · RuleSimplest: laid · RuleSafe: laid · RuleLeast: laid · RuleFracs: laid · RuleChained: laid · RuleProved: laid · RuleCasts: laid · RuleTerms: laid · RuleSteps: laid.
  DERIVED. THE GIVEN ROWS OF THIS SEAT. 17 by the template 'for every input the law returns true; each argument reads behind the call as it read before'; 0 by the template 'total and deterministic' (their statements: YtconhikflghkdaaDoorTotals.lean).
  GIVEN WITH THE SEED: the statements are not yours to turn. If you find one false, say at which input.
  Laid BY PROGRAM, IN A SANDBOX (cutbox-rows.mjs): the forced cells as the released guide's own fill.sh prints them over the translation 53f0876b6d07e099… (all of the seat's roots in one cut). By AI agents, Wed Nov 11 2026. No macro, syntax, notation, axiom, sorry.
-/
import Derived.Test.YtconhikflghkdaaDoorChecked
import GoSem.Claim
import GoSem.ClaimJoined
import GoSem.ClaimMapViews
import Derived.JoinedTies
import Derived.KernelRfl
namespace Go.Proofs.YtconhikflghkdaaDoor
/- THE CELL 'sum', in the pinned program and in every row, IS THE sha256 OF THE DUMP (.gsa) THAT YtconhikflghkdaaDoorProg.lean LOADS. Nothing in Lean hashes anything: it is a label: what it is worth is what the hold of that sum in a sandbox is worth. -/
noncomputable def Tryd.pinned : Pinned := { name := "ytconhikflghkdaadoor", sum := "53f0876b6d07e099b3cf80ee9e0bc1975c3067181a12448a57030861fe90c03b", checked := Tryd.checked }
namespace Rows
def none {H : Type} : Left H := { results := [], args := [] }

/- WHAT THE LISTED PACKAGE-LEVEL VARIABLES READ AS WHEN THE CALL BEGINS. Each datum BY PROGRAM (the guide's laid-datum.mjs) off the statement by which the dump's own 'gosem.cut.vars' lays the variable. In a bare row this is a premise. The card (YtconhikflghkdaaDoorCards.lean) ties it to the program's text. -/
def laid_math_bits_deBruijn32tab {H : Type} : DataW H := .agg [.lit (.int .u8 0), .lit (.int .u8 1), .lit (.int .u8 28), .lit (.int .u8 2), .lit (.int .u8 29), .lit (.int .u8 14), .lit (.int .u8 24), .lit (.int .u8 3), .lit (.int .u8 30), .lit (.int .u8 22), .lit (.int .u8 20), .lit (.int .u8 15), .lit (.int .u8 25), .lit (.int .u8 17), .lit (.int .u8 4), .lit (.int .u8 8), .lit (.int .u8 31), .lit (.int .u8 27), .lit (.int .u8 13), .lit (.int .u8 23), .lit (.int .u8 21), .lit (.int .u8 19), .lit (.int .u8 16), .lit (.int .u8 7), .lit (.int .u8 26), .lit (.int .u8 12), .lit (.int .u8 18), .lit (.int .u8 6), .lit (.int .u8 11), .lit (.int .u8 5), .lit (.int .u8 10), .lit (.int .u8 9)]
def laid_math_bits_deBruijn64tab {H : Type} : DataW H := .agg [.lit (.int .u8 0), .lit (.int .u8 1), .lit (.int .u8 56), .lit (.int .u8 2), .lit (.int .u8 57), .lit (.int .u8 49), .lit (.int .u8 28), .lit (.int .u8 3), .lit (.int .u8 61), .lit (.int .u8 58), .lit (.int .u8 42), .lit (.int .u8 50), .lit (.int .u8 38), .lit (.int .u8 29), .lit (.int .u8 17), .lit (.int .u8 4), .lit (.int .u8 62), .lit (.int .u8 47), .lit (.int .u8 59), .lit (.int .u8 36), .lit (.int .u8 45), .lit (.int .u8 43), .lit (.int .u8 51), .lit (.int .u8 22), .lit (.int .u8 53), .lit (.int .u8 39), .lit (.int .u8 33), .lit (.int .u8 30), .lit (.int .u8 24), .lit (.int .u8 18), .lit (.int .u8 12), .lit (.int .u8 5), .lit (.int .u8 63), .lit (.int .u8 55), .lit (.int .u8 48), .lit (.int .u8 27), .lit (.int .u8 60), .lit (.int .u8 41), .lit (.int .u8 37), .lit (.int .u8 16), .lit (.int .u8 46), .lit (.int .u8 35), .lit (.int .u8 44), .lit (.int .u8 21), .lit (.int .u8 52), .lit (.int .u8 32), .lit (.int .u8 23), .lit (.int .u8 11), .lit (.int .u8 54), .lit (.int .u8 26), .lit (.int .u8 40), .lit (.int .u8 15), .lit (.int .u8 34), .lit (.int .u8 20), .lit (.int .u8 31), .lit (.int .u8 10), .lit (.int .u8 25), .lit (.int .u8 14), .lit (.int .u8 19), .lit (.int .u8 9), .lit (.int .u8 13), .lit (.int .u8 8), .lit (.int .u8 7), .lit (.int .u8 6)]
def laid_internal_strconv_uint64pow10 {H : Type} : DataW H := .agg [.lit (.int .u64 1), .lit (.int .u64 10), .lit (.int .u64 100), .lit (.int .u64 1000), .lit (.int .u64 10000), .lit (.int .u64 100000), .lit (.int .u64 1000000), .lit (.int .u64 10000000), .lit (.int .u64 100000000), .lit (.int .u64 1000000000), .lit (.int .u64 10000000000), .lit (.int .u64 100000000000), .lit (.int .u64 1000000000000), .lit (.int .u64 10000000000000), .lit (.int .u64 100000000000000), .lit (.int .u64 1000000000000000), .lit (.int .u64 10000000000000000), .lit (.int .u64 100000000000000000), .lit (.int .u64 1000000000000000000), .lit (.int .u64 10000000000000000000)]

/-- 'stricklelaw01.RuleNeighbours': WHATEVER THE INPUT: true; the input reads as it did. -/
def ruleNeighboursSpec : ChangeSpec := { name := "ruleNeighbours", fn := fun _ => fun
  | [d] => { results := [.lit (.bool true)], args := [d] }
  | _ => none }
def ruleNeighboursRow : OpenClaim := { program := "ytconhikflghkdaadoor", sum := "53f0876b6d07e099b3cf80ee9e0bc1975c3067181a12448a57030861fe90c03b", func := "strickle/stricklelaw01.RuleNeighbours", spec := "ruleNeighbours", unfollowed := true, recurses := true, named := ["internal/strconv.uint64pow10", "math/bits.deBruijn32tab", "math/bits.deBruijn64tab"], apart := false, laid := [("math/bits.deBruijn32tab", laid_math_bits_deBruijn32tab), ("math/bits.deBruijn64tab", laid_math_bits_deBruijn64tab), ("internal/strconv.uint64pow10", laid_internal_strconv_uint64pow10)] }
def RuleNeighboursSaid : Prop := ruleNeighboursRow.holds Tryd.pinned (OpenSpec.ofChange ruleNeighboursSpec)

/-- ITS FALSE NEIGHBOUR: 'it returns false'. Refute it at one input. -/
def ruleNeighboursWrong : ChangeSpec := { name := "ruleNeighbours", fn := fun _ => fun
  | [d] => { results := [.lit (.bool false)], args := [d] }
  | _ => none }
def RuleNeighboursWrongFalsely : Prop := ruleNeighboursRow.holds Tryd.pinned (OpenSpec.ofChange ruleNeighboursWrong)

/-- 'stricklelaw01.RuleAround': WHATEVER THE INPUT: true; the input reads as it did. -/
def ruleAroundSpec : ChangeSpec := { name := "ruleAround", fn := fun _ => fun
  | [d1, d2] => { results := [.lit (.bool true)], args := [d1, d2] }
  | _ => none }
def ruleAroundRow : OpenClaim := { program := "ytconhikflghkdaadoor", sum := "53f0876b6d07e099b3cf80ee9e0bc1975c3067181a12448a57030861fe90c03b", func := "strickle/stricklelaw01.RuleAround", spec := "ruleAround", unfollowed := true, recurses := true, named := ["internal/strconv.uint64pow10", "math/bits.deBruijn32tab", "math/bits.deBruijn64tab"], apart := false, laid := [("math/bits.deBruijn32tab", laid_math_bits_deBruijn32tab), ("math/bits.deBruijn64tab", laid_math_bits_deBruijn64tab), ("internal/strconv.uint64pow10", laid_internal_strconv_uint64pow10)] }
def RuleAroundSaid : Prop := ruleAroundRow.holds Tryd.pinned (OpenSpec.ofChange ruleAroundSpec)

/-- ITS FALSE NEIGHBOUR: 'it returns false'. Refute it at one input. -/
def ruleAroundWrong : ChangeSpec := { name := "ruleAround", fn := fun _ => fun
  | [d1, d2] => { results := [.lit (.bool false)], args := [d1, d2] }
  | _ => none }
def RuleAroundWrongFalsely : Prop := ruleAroundRow.holds Tryd.pinned (OpenSpec.ofChange ruleAroundWrong)

/-- 'stricklelaw01.RuleSizes': WHATEVER THE INPUT: true; the input reads as it did. -/
def ruleSizesSpec : ChangeSpec := { name := "ruleSizes", fn := fun _ => fun
  | [d1, d2, d3] => { results := [.lit (.bool true)], args := [d1, d2, d3] }
  | _ => none }
def ruleSizesRow : OpenClaim := { program := "ytconhikflghkdaadoor", sum := "53f0876b6d07e099b3cf80ee9e0bc1975c3067181a12448a57030861fe90c03b", func := "strickle/stricklelaw01.RuleSizes", spec := "ruleSizes", unfollowed := true, recurses := true, named := ["internal/strconv.uint64pow10", "math/bits.deBruijn32tab", "math/bits.deBruijn64tab"], apart := false, laid := [("math/bits.deBruijn32tab", laid_math_bits_deBruijn32tab), ("math/bits.deBruijn64tab", laid_math_bits_deBruijn64tab), ("internal/strconv.uint64pow10", laid_internal_strconv_uint64pow10)] }
def RuleSizesSaid : Prop := ruleSizesRow.holds Tryd.pinned (OpenSpec.ofChange ruleSizesSpec)

/-- ITS FALSE NEIGHBOUR: 'it returns false'. Refute it at one input. -/
def ruleSizesWrong : ChangeSpec := { name := "ruleSizes", fn := fun _ => fun
  | [d1, d2, d3] => { results := [.lit (.bool false)], args := [d1, d2, d3] }
  | _ => none }
def RuleSizesWrongFalsely : Prop := ruleSizesRow.holds Tryd.pinned (OpenSpec.ofChange ruleSizesWrong)

/-- 'stricklelaw01.RuleBest': WHATEVER THE INPUT: true; the input reads as it did. -/
def ruleBestSpec : ChangeSpec := { name := "ruleBest", fn := fun _ => fun
  | [d1, d2] => { results := [.lit (.bool true)], args := [d1, d2] }
  | _ => none }
def ruleBestRow : OpenClaim := { program := "ytconhikflghkdaadoor", sum := "53f0876b6d07e099b3cf80ee9e0bc1975c3067181a12448a57030861fe90c03b", func := "strickle/stricklelaw01.RuleBest", spec := "ruleBest", unfollowed := true, recurses := true, named := ["internal/strconv.uint64pow10", "math/bits.deBruijn32tab", "math/bits.deBruijn64tab"], apart := false, laid := [("math/bits.deBruijn32tab", laid_math_bits_deBruijn32tab), ("math/bits.deBruijn64tab", laid_math_bits_deBruijn64tab), ("internal/strconv.uint64pow10", laid_internal_strconv_uint64pow10)] }
def RuleBestSaid : Prop := ruleBestRow.holds Tryd.pinned (OpenSpec.ofChange ruleBestSpec)

/-- ITS FALSE NEIGHBOUR: 'it returns false'. Refute it at one input. -/
def ruleBestWrong : ChangeSpec := { name := "ruleBest", fn := fun _ => fun
  | [d1, d2] => { results := [.lit (.bool false)], args := [d1, d2] }
  | _ => none }
def RuleBestWrongFalsely : Prop := ruleBestRow.holds Tryd.pinned (OpenSpec.ofChange ruleBestWrong)

/-- 'stricklelaw01.RuleSums': WHATEVER THE INPUT: true; the input reads as it did. -/
def ruleSumsSpec : ChangeSpec := { name := "ruleSums", fn := fun _ => fun
  | [d1, d2] => { results := [.lit (.bool true)], args := [d1, d2] }
  | _ => none }
def ruleSumsRow : OpenClaim := { program := "ytconhikflghkdaadoor", sum := "53f0876b6d07e099b3cf80ee9e0bc1975c3067181a12448a57030861fe90c03b", func := "strickle/stricklelaw01.RuleSums", spec := "ruleSums", unfollowed := true, recurses := true, named := ["internal/strconv.uint64pow10", "math/bits.deBruijn32tab", "math/bits.deBruijn64tab"], apart := false, laid := [("math/bits.deBruijn32tab", laid_math_bits_deBruijn32tab), ("math/bits.deBruijn64tab", laid_math_bits_deBruijn64tab), ("internal/strconv.uint64pow10", laid_internal_strconv_uint64pow10)] }
def RuleSumsSaid : Prop := ruleSumsRow.holds Tryd.pinned (OpenSpec.ofChange ruleSumsSpec)

/-- ITS FALSE NEIGHBOUR: 'it returns false'. Refute it at one input. -/
def ruleSumsWrong : ChangeSpec := { name := "ruleSums", fn := fun _ => fun
  | [d1, d2] => { results := [.lit (.bool false)], args := [d1, d2] }
  | _ => none }
def RuleSumsWrongFalsely : Prop := ruleSumsRow.holds Tryd.pinned (OpenSpec.ofChange ruleSumsWrong)

/-- 'stricklelaw01.RuleField': WHATEVER THE INPUT: true; the input reads as it did. -/
def ruleFieldSpec : ChangeSpec := { name := "ruleField", fn := fun _ => fun
  | [d1, d2] => { results := [.lit (.bool true)], args := [d1, d2] }
  | _ => none }
def ruleFieldRow : OpenClaim := { program := "ytconhikflghkdaadoor", sum := "53f0876b6d07e099b3cf80ee9e0bc1975c3067181a12448a57030861fe90c03b", func := "strickle/stricklelaw01.RuleField", spec := "ruleField", unfollowed := true, recurses := true, named := ["internal/strconv.uint64pow10", "math/bits.deBruijn32tab", "math/bits.deBruijn64tab"], apart := false, laid := [("math/bits.deBruijn32tab", laid_math_bits_deBruijn32tab), ("math/bits.deBruijn64tab", laid_math_bits_deBruijn64tab), ("internal/strconv.uint64pow10", laid_internal_strconv_uint64pow10)] }
def RuleFieldSaid : Prop := ruleFieldRow.holds Tryd.pinned (OpenSpec.ofChange ruleFieldSpec)

/-- ITS FALSE NEIGHBOUR: 'it returns false'. Refute it at one input. -/
def ruleFieldWrong : ChangeSpec := { name := "ruleField", fn := fun _ => fun
  | [d1, d2] => { results := [.lit (.bool false)], args := [d1, d2] }
  | _ => none }
def RuleFieldWrongFalsely : Prop := ruleFieldRow.holds Tryd.pinned (OpenSpec.ofChange ruleFieldWrong)

/-- 'stricklelaw01.RuleMediant': WHATEVER THE INPUT: true; the input reads as it did. -/
def ruleMediantSpec : ChangeSpec := { name := "ruleMediant", fn := fun _ => fun
  | [d1, d2] => { results := [.lit (.bool true)], args := [d1, d2] }
  | _ => none }
def ruleMediantRow : OpenClaim := { program := "ytconhikflghkdaadoor", sum := "53f0876b6d07e099b3cf80ee9e0bc1975c3067181a12448a57030861fe90c03b", func := "strickle/stricklelaw01.RuleMediant", spec := "ruleMediant", unfollowed := true, recurses := true, named := ["internal/strconv.uint64pow10", "math/bits.deBruijn32tab", "math/bits.deBruijn64tab"], apart := false, laid := [("math/bits.deBruijn32tab", laid_math_bits_deBruijn32tab), ("math/bits.deBruijn64tab", laid_math_bits_deBruijn64tab), ("internal/strconv.uint64pow10", laid_internal_strconv_uint64pow10)] }
def RuleMediantSaid : Prop := ruleMediantRow.holds Tryd.pinned (OpenSpec.ofChange ruleMediantSpec)

/-- ITS FALSE NEIGHBOUR: 'it returns false'. Refute it at one input. -/
def ruleMediantWrong : ChangeSpec := { name := "ruleMediant", fn := fun _ => fun
  | [d1, d2] => { results := [.lit (.bool false)], args := [d1, d2] }
  | _ => none }
def RuleMediantWrongFalsely : Prop := ruleMediantRow.holds Tryd.pinned (OpenSpec.ofChange ruleMediantWrong)

/-- 'stricklelaw01.RuleNear': WHATEVER THE INPUT: true; the input reads as it did. -/
def ruleNearSpec : ChangeSpec := { name := "ruleNear", fn := fun _ => fun
  | [d1, d2, d3] => { results := [.lit (.bool true)], args := [d1, d2, d3] }
  | _ => none }
def ruleNearRow : OpenClaim := { program := "ytconhikflghkdaadoor", sum := "53f0876b6d07e099b3cf80ee9e0bc1975c3067181a12448a57030861fe90c03b", func := "strickle/stricklelaw01.RuleNear", spec := "ruleNear", unfollowed := true, recurses := true, named := ["internal/strconv.uint64pow10", "math/bits.deBruijn32tab", "math/bits.deBruijn64tab"], apart := false, laid := [("math/bits.deBruijn32tab", laid_math_bits_deBruijn32tab), ("math/bits.deBruijn64tab", laid_math_bits_deBruijn64tab), ("internal/strconv.uint64pow10", laid_internal_strconv_uint64pow10)] }
def RuleNearSaid : Prop := ruleNearRow.holds Tryd.pinned (OpenSpec.ofChange ruleNearSpec)

/-- ITS FALSE NEIGHBOUR: 'it returns false'. Refute it at one input. -/
def ruleNearWrong : ChangeSpec := { name := "ruleNear", fn := fun _ => fun
  | [d1, d2, d3] => { results := [.lit (.bool false)], args := [d1, d2, d3] }
  | _ => none }
def RuleNearWrongFalsely : Prop := ruleNearRow.holds Tryd.pinned (OpenSpec.ofChange ruleNearWrong)

/-- 'stricklelaw01.RuleSimplest': WHATEVER THE INPUT: true; the input reads as it did. -/
def ruleSimplestSpec : ChangeSpec := { name := "ruleSimplest", fn := fun _ => fun
  | [d1, d2, d3] => { results := [.lit (.bool true)], args := [d1, d2, d3] }
  | _ => none }
def ruleSimplestRow : OpenClaim := { program := "ytconhikflghkdaadoor", sum := "53f0876b6d07e099b3cf80ee9e0bc1975c3067181a12448a57030861fe90c03b", func := "strickle/stricklelaw01.RuleSimplest", spec := "ruleSimplest", unfollowed := true, recurses := true, named := ["internal/strconv.uint64pow10", "math/bits.deBruijn32tab", "math/bits.deBruijn64tab"], apart := false, laid := [("math/bits.deBruijn32tab", laid_math_bits_deBruijn32tab), ("math/bits.deBruijn64tab", laid_math_bits_deBruijn64tab), ("internal/strconv.uint64pow10", laid_internal_strconv_uint64pow10)] }
def RuleSimplestSaid : Prop := ruleSimplestRow.holds Tryd.pinned (OpenSpec.ofChange ruleSimplestSpec)

/-- ITS FALSE NEIGHBOUR: 'it returns false'. Refute it at one input. -/
def ruleSimplestWrong : ChangeSpec := { name := "ruleSimplest", fn := fun _ => fun
  | [d1, d2, d3] => { results := [.lit (.bool false)], args := [d1, d2, d3] }
  | _ => none }
def RuleSimplestWrongFalsely : Prop := ruleSimplestRow.holds Tryd.pinned (OpenSpec.ofChange ruleSimplestWrong)

/-- 'stricklelaw01.RuleSafe': WHATEVER THE INPUT: true; the input reads as it did. -/
def ruleSafeSpec : ChangeSpec := { name := "ruleSafe", fn := fun _ => fun
  | [d1, d2, d3, d4] => { results := [.lit (.bool true)], args := [d1, d2, d3, d4] }
  | _ => none }
def ruleSafeRow : OpenClaim := { program := "ytconhikflghkdaadoor", sum := "53f0876b6d07e099b3cf80ee9e0bc1975c3067181a12448a57030861fe90c03b", func := "strickle/stricklelaw01.RuleSafe", spec := "ruleSafe", unfollowed := true, recurses := true, named := ["internal/strconv.uint64pow10", "math/bits.deBruijn32tab", "math/bits.deBruijn64tab"], apart := false, laid := [("math/bits.deBruijn32tab", laid_math_bits_deBruijn32tab), ("math/bits.deBruijn64tab", laid_math_bits_deBruijn64tab), ("internal/strconv.uint64pow10", laid_internal_strconv_uint64pow10)] }
def RuleSafeSaid : Prop := ruleSafeRow.holds Tryd.pinned (OpenSpec.ofChange ruleSafeSpec)

/-- ITS FALSE NEIGHBOUR: 'it returns false'. Refute it at one input. -/
def ruleSafeWrong : ChangeSpec := { name := "ruleSafe", fn := fun _ => fun
  | [d1, d2, d3, d4] => { results := [.lit (.bool false)], args := [d1, d2, d3, d4] }
  | _ => none }
def RuleSafeWrongFalsely : Prop := ruleSafeRow.holds Tryd.pinned (OpenSpec.ofChange ruleSafeWrong)

/-- 'stricklelaw01.RuleLeast': WHATEVER THE INPUT: true; the input reads as it did. -/
def ruleLeastSpec : ChangeSpec := { name := "ruleLeast", fn := fun _ => fun
  | [d1, d2, d3] => { results := [.lit (.bool true)], args := [d1, d2, d3] }
  | _ => none }
def ruleLeastRow : OpenClaim := { program := "ytconhikflghkdaadoor", sum := "53f0876b6d07e099b3cf80ee9e0bc1975c3067181a12448a57030861fe90c03b", func := "strickle/stricklelaw01.RuleLeast", spec := "ruleLeast", unfollowed := true, recurses := true, named := ["internal/strconv.uint64pow10", "math/bits.deBruijn32tab", "math/bits.deBruijn64tab"], apart := false, laid := [("math/bits.deBruijn32tab", laid_math_bits_deBruijn32tab), ("math/bits.deBruijn64tab", laid_math_bits_deBruijn64tab), ("internal/strconv.uint64pow10", laid_internal_strconv_uint64pow10)] }
def RuleLeastSaid : Prop := ruleLeastRow.holds Tryd.pinned (OpenSpec.ofChange ruleLeastSpec)

/-- ITS FALSE NEIGHBOUR: 'it returns false'. Refute it at one input. -/
def ruleLeastWrong : ChangeSpec := { name := "ruleLeast", fn := fun _ => fun
  | [d1, d2, d3] => { results := [.lit (.bool false)], args := [d1, d2, d3] }
  | _ => none }
def RuleLeastWrongFalsely : Prop := ruleLeastRow.holds Tryd.pinned (OpenSpec.ofChange ruleLeastWrong)

/-- 'stricklelaw01.RuleFracs': WHATEVER THE INPUT: true; the input reads as it did. -/
def ruleFracsSpec : ChangeSpec := { name := "ruleFracs", fn := fun _ => fun
  | [d1, d2, d3, d4] => { results := [.lit (.bool true)], args := [d1, d2, d3, d4] }
  | _ => none }
def ruleFracsRow : OpenClaim := { program := "ytconhikflghkdaadoor", sum := "53f0876b6d07e099b3cf80ee9e0bc1975c3067181a12448a57030861fe90c03b", func := "strickle/stricklelaw01.RuleFracs", spec := "ruleFracs", unfollowed := true, recurses := true, named := ["internal/strconv.uint64pow10", "math/bits.deBruijn32tab", "math/bits.deBruijn64tab"], apart := false, laid := [("math/bits.deBruijn32tab", laid_math_bits_deBruijn32tab), ("math/bits.deBruijn64tab", laid_math_bits_deBruijn64tab), ("internal/strconv.uint64pow10", laid_internal_strconv_uint64pow10)] }
def RuleFracsSaid : Prop := ruleFracsRow.holds Tryd.pinned (OpenSpec.ofChange ruleFracsSpec)

/-- ITS FALSE NEIGHBOUR: 'it returns false'. Refute it at one input. -/
def ruleFracsWrong : ChangeSpec := { name := "ruleFracs", fn := fun _ => fun
  | [d1, d2, d3, d4] => { results := [.lit (.bool false)], args := [d1, d2, d3, d4] }
  | _ => none }
def RuleFracsWrongFalsely : Prop := ruleFracsRow.holds Tryd.pinned (OpenSpec.ofChange ruleFracsWrong)

/-- 'stricklelaw01.RuleChained': WHATEVER THE INPUT: true; the input reads as it did. -/
def ruleChainedSpec : ChangeSpec := { name := "ruleChained", fn := fun _ => fun
  | [d1, d2, d3, d4, d5] => { results := [.lit (.bool true)], args := [d1, d2, d3, d4, d5] }
  | _ => none }
def ruleChainedRow : OpenClaim := { program := "ytconhikflghkdaadoor", sum := "53f0876b6d07e099b3cf80ee9e0bc1975c3067181a12448a57030861fe90c03b", func := "strickle/stricklelaw01.RuleChained", spec := "ruleChained", unfollowed := true, recurses := true, named := ["internal/strconv.uint64pow10", "math/bits.deBruijn32tab", "math/bits.deBruijn64tab"], apart := false, laid := [("math/bits.deBruijn32tab", laid_math_bits_deBruijn32tab), ("math/bits.deBruijn64tab", laid_math_bits_deBruijn64tab), ("internal/strconv.uint64pow10", laid_internal_strconv_uint64pow10)] }
def RuleChainedSaid : Prop := ruleChainedRow.holds Tryd.pinned (OpenSpec.ofChange ruleChainedSpec)

/-- ITS FALSE NEIGHBOUR: 'it returns false'. Refute it at one input. -/
def ruleChainedWrong : ChangeSpec := { name := "ruleChained", fn := fun _ => fun
  | [d1, d2, d3, d4, d5] => { results := [.lit (.bool false)], args := [d1, d2, d3, d4, d5] }
  | _ => none }
def RuleChainedWrongFalsely : Prop := ruleChainedRow.holds Tryd.pinned (OpenSpec.ofChange ruleChainedWrong)

/-- 'stricklelaw01.RuleProved': WHATEVER THE INPUT: true; the input reads as it did. -/
def ruleProvedSpec : ChangeSpec := { name := "ruleProved", fn := fun _ => fun
  | [d1, d2, d3] => { results := [.lit (.bool true)], args := [d1, d2, d3] }
  | _ => none }
def ruleProvedRow : OpenClaim := { program := "ytconhikflghkdaadoor", sum := "53f0876b6d07e099b3cf80ee9e0bc1975c3067181a12448a57030861fe90c03b", func := "strickle/stricklelaw01.RuleProved", spec := "ruleProved", unfollowed := true, recurses := true, named := ["internal/strconv.uint64pow10", "math/bits.deBruijn32tab", "math/bits.deBruijn64tab"], apart := false, laid := [("math/bits.deBruijn32tab", laid_math_bits_deBruijn32tab), ("math/bits.deBruijn64tab", laid_math_bits_deBruijn64tab), ("internal/strconv.uint64pow10", laid_internal_strconv_uint64pow10)] }
def RuleProvedSaid : Prop := ruleProvedRow.holds Tryd.pinned (OpenSpec.ofChange ruleProvedSpec)

/-- ITS FALSE NEIGHBOUR: 'it returns false'. Refute it at one input. -/
def ruleProvedWrong : ChangeSpec := { name := "ruleProved", fn := fun _ => fun
  | [d1, d2, d3] => { results := [.lit (.bool false)], args := [d1, d2, d3] }
  | _ => none }
def RuleProvedWrongFalsely : Prop := ruleProvedRow.holds Tryd.pinned (OpenSpec.ofChange ruleProvedWrong)

/-- 'stricklelaw01.RuleCasts': WHATEVER THE INPUT: true; the input reads as it did. -/
def ruleCastsSpec : ChangeSpec := { name := "ruleCasts", fn := fun _ => fun
  | [d1, d2, d3, d4] => { results := [.lit (.bool true)], args := [d1, d2, d3, d4] }
  | _ => none }
def ruleCastsRow : OpenClaim := { program := "ytconhikflghkdaadoor", sum := "53f0876b6d07e099b3cf80ee9e0bc1975c3067181a12448a57030861fe90c03b", func := "strickle/stricklelaw01.RuleCasts", spec := "ruleCasts", unfollowed := true, recurses := true, named := ["internal/strconv.uint64pow10", "math/bits.deBruijn32tab", "math/bits.deBruijn64tab"], apart := false, laid := [("math/bits.deBruijn32tab", laid_math_bits_deBruijn32tab), ("math/bits.deBruijn64tab", laid_math_bits_deBruijn64tab), ("internal/strconv.uint64pow10", laid_internal_strconv_uint64pow10)] }
def RuleCastsSaid : Prop := ruleCastsRow.holds Tryd.pinned (OpenSpec.ofChange ruleCastsSpec)

/-- ITS FALSE NEIGHBOUR: 'it returns false'. Refute it at one input. -/
def ruleCastsWrong : ChangeSpec := { name := "ruleCasts", fn := fun _ => fun
  | [d1, d2, d3, d4] => { results := [.lit (.bool false)], args := [d1, d2, d3, d4] }
  | _ => none }
def RuleCastsWrongFalsely : Prop := ruleCastsRow.holds Tryd.pinned (OpenSpec.ofChange ruleCastsWrong)

/-- 'stricklelaw01.RuleTerms': WHATEVER THE INPUT: true; the input reads as it did. -/
def ruleTermsSpec : ChangeSpec := { name := "ruleTerms", fn := fun _ => fun
  | [d1, d2] => { results := [.lit (.bool true)], args := [d1, d2] }
  | _ => none }
def ruleTermsRow : OpenClaim := { program := "ytconhikflghkdaadoor", sum := "53f0876b6d07e099b3cf80ee9e0bc1975c3067181a12448a57030861fe90c03b", func := "strickle/stricklelaw01.RuleTerms", spec := "ruleTerms", unfollowed := true, recurses := true, named := ["internal/strconv.uint64pow10", "math/bits.deBruijn32tab", "math/bits.deBruijn64tab"], apart := false, laid := [("math/bits.deBruijn32tab", laid_math_bits_deBruijn32tab), ("math/bits.deBruijn64tab", laid_math_bits_deBruijn64tab), ("internal/strconv.uint64pow10", laid_internal_strconv_uint64pow10)] }
def RuleTermsSaid : Prop := ruleTermsRow.holds Tryd.pinned (OpenSpec.ofChange ruleTermsSpec)

/-- ITS FALSE NEIGHBOUR: 'it returns false'. Refute it at one input. -/
def ruleTermsWrong : ChangeSpec := { name := "ruleTerms", fn := fun _ => fun
  | [d1, d2] => { results := [.lit (.bool false)], args := [d1, d2] }
  | _ => none }
def RuleTermsWrongFalsely : Prop := ruleTermsRow.holds Tryd.pinned (OpenSpec.ofChange ruleTermsWrong)

/-- 'stricklelaw01.RuleSteps': WHATEVER THE INPUT: true; the input reads as it did. -/
def ruleStepsSpec : ChangeSpec := { name := "ruleSteps", fn := fun _ => fun
  | [d] => { results := [.lit (.bool true)], args := [d] }
  | _ => none }
def ruleStepsRow : OpenClaim := { program := "ytconhikflghkdaadoor", sum := "53f0876b6d07e099b3cf80ee9e0bc1975c3067181a12448a57030861fe90c03b", func := "strickle/stricklelaw01.RuleSteps", spec := "ruleSteps", unfollowed := true, recurses := true, named := ["internal/strconv.uint64pow10", "math/bits.deBruijn32tab", "math/bits.deBruijn64tab"], apart := false, laid := [("math/bits.deBruijn32tab", laid_math_bits_deBruijn32tab), ("math/bits.deBruijn64tab", laid_math_bits_deBruijn64tab), ("internal/strconv.uint64pow10", laid_internal_strconv_uint64pow10)] }
def RuleStepsSaid : Prop := ruleStepsRow.holds Tryd.pinned (OpenSpec.ofChange ruleStepsSpec)

/-- ITS FALSE NEIGHBOUR: 'it returns false'. Refute it at one input. -/
def ruleStepsWrong : ChangeSpec := { name := "ruleSteps", fn := fun _ => fun
  | [d] => { results := [.lit (.bool false)], args := [d] }
  | _ => none }
def RuleStepsWrongFalsely : Prop := ruleStepsRow.holds Tryd.pinned (OpenSpec.ofChange ruleStepsWrong)

/- THE SECOND FORM. 'bulk': how many values and letters a reading holds, each counted each time it is reached (what is shared counts as often as it is met; a slice's spare places count too). A statement '..UptoSaid' is the law's where the arguments, and the package variables that the reading takes, are together of bulk at most 1048576: NARROWER than '..Said'. Prove '..Said' where nothing that the law and all that it calls make is longer than what came in: it says more and counts as full. Else prove '..UptoSaid'. A law counts once. -/
mutual
def uptoBulk {H : Type} : DataW H → Nat
  | .lit (.string bytes) => bytes.length + 1
  | .lit _ => 1
  | .nil => 1
  | .ptr d => uptoBulk d + 1
  | .slice elems spare => uptoBulkAll elems + uptoBulkAll spare + 1
  | .agg parts => uptoBulkAll parts + 1
  | .iface _ d => uptoBulk d + 1
  | .map entries => uptoBulkEntries entries + 1
  | .held _ => 1
def uptoBulkAll {H : Type} : List (DataW H) → Nat
  | [] => 0
  | d :: r => uptoBulk d + uptoBulkAll r
def uptoBulkEntries {H : Type} : List (Lit × DataW H) → Nat
  | [] => 0
  | x :: r => uptoBulkEntry x + uptoBulkEntries r
def uptoBulkEntry {H : Type} : Lit × DataW H → Nat
  | (.string bytes, d) => bytes.length + uptoBulk d + 1
  | (_, d) => uptoBulk d + 1
 end
def uptoSmall : (H : Type) → List (DataW H) → Bool := fun _ ds => decide (uptoBulkAll ds ≤ 1048576)
def OpenSpec.upto (s : _root_.Go.ChangeSpec) : _root_.Go.OpenSpec := { _root_.Go.OpenSpec.ofChange s with cond := some uptoSmall }

/-- 'stricklelaw01.RuleNeighbours', WHERE WHAT IT READS IS OF BULK AT MOST 1048576: true; the input reads as it did. -/
def ruleNeighboursUptoRow : OpenClaim := { program := "ytconhikflghkdaadoor", sum := "53f0876b6d07e099b3cf80ee9e0bc1975c3067181a12448a57030861fe90c03b", func := "strickle/stricklelaw01.RuleNeighbours", spec := "ruleNeighbours", unfollowed := true, recurses := true, named := ["internal/strconv.uint64pow10", "math/bits.deBruijn32tab", "math/bits.deBruijn64tab"], apart := false, laid := [("math/bits.deBruijn32tab", laid_math_bits_deBruijn32tab), ("math/bits.deBruijn64tab", laid_math_bits_deBruijn64tab), ("internal/strconv.uint64pow10", laid_internal_strconv_uint64pow10)], narrowed := true }
def RuleNeighboursUptoSaid : Prop := ruleNeighboursUptoRow.holds Tryd.pinned (OpenSpec.upto ruleNeighboursSpec)

/-- 'stricklelaw01.RuleAround', WHERE WHAT IT READS IS OF BULK AT MOST 1048576: true; the input reads as it did. -/
def ruleAroundUptoRow : OpenClaim := { program := "ytconhikflghkdaadoor", sum := "53f0876b6d07e099b3cf80ee9e0bc1975c3067181a12448a57030861fe90c03b", func := "strickle/stricklelaw01.RuleAround", spec := "ruleAround", unfollowed := true, recurses := true, named := ["internal/strconv.uint64pow10", "math/bits.deBruijn32tab", "math/bits.deBruijn64tab"], apart := false, laid := [("math/bits.deBruijn32tab", laid_math_bits_deBruijn32tab), ("math/bits.deBruijn64tab", laid_math_bits_deBruijn64tab), ("internal/strconv.uint64pow10", laid_internal_strconv_uint64pow10)], narrowed := true }
def RuleAroundUptoSaid : Prop := ruleAroundUptoRow.holds Tryd.pinned (OpenSpec.upto ruleAroundSpec)

/-- 'stricklelaw01.RuleSizes', WHERE WHAT IT READS IS OF BULK AT MOST 1048576: true; the input reads as it did. -/
def ruleSizesUptoRow : OpenClaim := { program := "ytconhikflghkdaadoor", sum := "53f0876b6d07e099b3cf80ee9e0bc1975c3067181a12448a57030861fe90c03b", func := "strickle/stricklelaw01.RuleSizes", spec := "ruleSizes", unfollowed := true, recurses := true, named := ["internal/strconv.uint64pow10", "math/bits.deBruijn32tab", "math/bits.deBruijn64tab"], apart := false, laid := [("math/bits.deBruijn32tab", laid_math_bits_deBruijn32tab), ("math/bits.deBruijn64tab", laid_math_bits_deBruijn64tab), ("internal/strconv.uint64pow10", laid_internal_strconv_uint64pow10)], narrowed := true }
def RuleSizesUptoSaid : Prop := ruleSizesUptoRow.holds Tryd.pinned (OpenSpec.upto ruleSizesSpec)

/-- 'stricklelaw01.RuleBest', WHERE WHAT IT READS IS OF BULK AT MOST 1048576: true; the input reads as it did. -/
def ruleBestUptoRow : OpenClaim := { program := "ytconhikflghkdaadoor", sum := "53f0876b6d07e099b3cf80ee9e0bc1975c3067181a12448a57030861fe90c03b", func := "strickle/stricklelaw01.RuleBest", spec := "ruleBest", unfollowed := true, recurses := true, named := ["internal/strconv.uint64pow10", "math/bits.deBruijn32tab", "math/bits.deBruijn64tab"], apart := false, laid := [("math/bits.deBruijn32tab", laid_math_bits_deBruijn32tab), ("math/bits.deBruijn64tab", laid_math_bits_deBruijn64tab), ("internal/strconv.uint64pow10", laid_internal_strconv_uint64pow10)], narrowed := true }
def RuleBestUptoSaid : Prop := ruleBestUptoRow.holds Tryd.pinned (OpenSpec.upto ruleBestSpec)

/-- 'stricklelaw01.RuleSums', WHERE WHAT IT READS IS OF BULK AT MOST 1048576: true; the input reads as it did. -/
def ruleSumsUptoRow : OpenClaim := { program := "ytconhikflghkdaadoor", sum := "53f0876b6d07e099b3cf80ee9e0bc1975c3067181a12448a57030861fe90c03b", func := "strickle/stricklelaw01.RuleSums", spec := "ruleSums", unfollowed := true, recurses := true, named := ["internal/strconv.uint64pow10", "math/bits.deBruijn32tab", "math/bits.deBruijn64tab"], apart := false, laid := [("math/bits.deBruijn32tab", laid_math_bits_deBruijn32tab), ("math/bits.deBruijn64tab", laid_math_bits_deBruijn64tab), ("internal/strconv.uint64pow10", laid_internal_strconv_uint64pow10)], narrowed := true }
def RuleSumsUptoSaid : Prop := ruleSumsUptoRow.holds Tryd.pinned (OpenSpec.upto ruleSumsSpec)

/-- 'stricklelaw01.RuleField', WHERE WHAT IT READS IS OF BULK AT MOST 1048576: true; the input reads as it did. -/
def ruleFieldUptoRow : OpenClaim := { program := "ytconhikflghkdaadoor", sum := "53f0876b6d07e099b3cf80ee9e0bc1975c3067181a12448a57030861fe90c03b", func := "strickle/stricklelaw01.RuleField", spec := "ruleField", unfollowed := true, recurses := true, named := ["internal/strconv.uint64pow10", "math/bits.deBruijn32tab", "math/bits.deBruijn64tab"], apart := false, laid := [("math/bits.deBruijn32tab", laid_math_bits_deBruijn32tab), ("math/bits.deBruijn64tab", laid_math_bits_deBruijn64tab), ("internal/strconv.uint64pow10", laid_internal_strconv_uint64pow10)], narrowed := true }
def RuleFieldUptoSaid : Prop := ruleFieldUptoRow.holds Tryd.pinned (OpenSpec.upto ruleFieldSpec)

/-- 'stricklelaw01.RuleMediant', WHERE WHAT IT READS IS OF BULK AT MOST 1048576: true; the input reads as it did. -/
def ruleMediantUptoRow : OpenClaim := { program := "ytconhikflghkdaadoor", sum := "53f0876b6d07e099b3cf80ee9e0bc1975c3067181a12448a57030861fe90c03b", func := "strickle/stricklelaw01.RuleMediant", spec := "ruleMediant", unfollowed := true, recurses := true, named := ["internal/strconv.uint64pow10", "math/bits.deBruijn32tab", "math/bits.deBruijn64tab"], apart := false, laid := [("math/bits.deBruijn32tab", laid_math_bits_deBruijn32tab), ("math/bits.deBruijn64tab", laid_math_bits_deBruijn64tab), ("internal/strconv.uint64pow10", laid_internal_strconv_uint64pow10)], narrowed := true }
def RuleMediantUptoSaid : Prop := ruleMediantUptoRow.holds Tryd.pinned (OpenSpec.upto ruleMediantSpec)

/-- 'stricklelaw01.RuleNear', WHERE WHAT IT READS IS OF BULK AT MOST 1048576: true; the input reads as it did. -/
def ruleNearUptoRow : OpenClaim := { program := "ytconhikflghkdaadoor", sum := "53f0876b6d07e099b3cf80ee9e0bc1975c3067181a12448a57030861fe90c03b", func := "strickle/stricklelaw01.RuleNear", spec := "ruleNear", unfollowed := true, recurses := true, named := ["internal/strconv.uint64pow10", "math/bits.deBruijn32tab", "math/bits.deBruijn64tab"], apart := false, laid := [("math/bits.deBruijn32tab", laid_math_bits_deBruijn32tab), ("math/bits.deBruijn64tab", laid_math_bits_deBruijn64tab), ("internal/strconv.uint64pow10", laid_internal_strconv_uint64pow10)], narrowed := true }
def RuleNearUptoSaid : Prop := ruleNearUptoRow.holds Tryd.pinned (OpenSpec.upto ruleNearSpec)

/-- 'stricklelaw01.RuleSimplest', WHERE WHAT IT READS IS OF BULK AT MOST 1048576: true; the input reads as it did. -/
def ruleSimplestUptoRow : OpenClaim := { program := "ytconhikflghkdaadoor", sum := "53f0876b6d07e099b3cf80ee9e0bc1975c3067181a12448a57030861fe90c03b", func := "strickle/stricklelaw01.RuleSimplest", spec := "ruleSimplest", unfollowed := true, recurses := true, named := ["internal/strconv.uint64pow10", "math/bits.deBruijn32tab", "math/bits.deBruijn64tab"], apart := false, laid := [("math/bits.deBruijn32tab", laid_math_bits_deBruijn32tab), ("math/bits.deBruijn64tab", laid_math_bits_deBruijn64tab), ("internal/strconv.uint64pow10", laid_internal_strconv_uint64pow10)], narrowed := true }
def RuleSimplestUptoSaid : Prop := ruleSimplestUptoRow.holds Tryd.pinned (OpenSpec.upto ruleSimplestSpec)

/-- 'stricklelaw01.RuleSafe', WHERE WHAT IT READS IS OF BULK AT MOST 1048576: true; the input reads as it did. -/
def ruleSafeUptoRow : OpenClaim := { program := "ytconhikflghkdaadoor", sum := "53f0876b6d07e099b3cf80ee9e0bc1975c3067181a12448a57030861fe90c03b", func := "strickle/stricklelaw01.RuleSafe", spec := "ruleSafe", unfollowed := true, recurses := true, named := ["internal/strconv.uint64pow10", "math/bits.deBruijn32tab", "math/bits.deBruijn64tab"], apart := false, laid := [("math/bits.deBruijn32tab", laid_math_bits_deBruijn32tab), ("math/bits.deBruijn64tab", laid_math_bits_deBruijn64tab), ("internal/strconv.uint64pow10", laid_internal_strconv_uint64pow10)], narrowed := true }
def RuleSafeUptoSaid : Prop := ruleSafeUptoRow.holds Tryd.pinned (OpenSpec.upto ruleSafeSpec)

/-- 'stricklelaw01.RuleLeast', WHERE WHAT IT READS IS OF BULK AT MOST 1048576: true; the input reads as it did. -/
def ruleLeastUptoRow : OpenClaim := { program := "ytconhikflghkdaadoor", sum := "53f0876b6d07e099b3cf80ee9e0bc1975c3067181a12448a57030861fe90c03b", func := "strickle/stricklelaw01.RuleLeast", spec := "ruleLeast", unfollowed := true, recurses := true, named := ["internal/strconv.uint64pow10", "math/bits.deBruijn32tab", "math/bits.deBruijn64tab"], apart := false, laid := [("math/bits.deBruijn32tab", laid_math_bits_deBruijn32tab), ("math/bits.deBruijn64tab", laid_math_bits_deBruijn64tab), ("internal/strconv.uint64pow10", laid_internal_strconv_uint64pow10)], narrowed := true }
def RuleLeastUptoSaid : Prop := ruleLeastUptoRow.holds Tryd.pinned (OpenSpec.upto ruleLeastSpec)

/-- 'stricklelaw01.RuleFracs', WHERE WHAT IT READS IS OF BULK AT MOST 1048576: true; the input reads as it did. -/
def ruleFracsUptoRow : OpenClaim := { program := "ytconhikflghkdaadoor", sum := "53f0876b6d07e099b3cf80ee9e0bc1975c3067181a12448a57030861fe90c03b", func := "strickle/stricklelaw01.RuleFracs", spec := "ruleFracs", unfollowed := true, recurses := true, named := ["internal/strconv.uint64pow10", "math/bits.deBruijn32tab", "math/bits.deBruijn64tab"], apart := false, laid := [("math/bits.deBruijn32tab", laid_math_bits_deBruijn32tab), ("math/bits.deBruijn64tab", laid_math_bits_deBruijn64tab), ("internal/strconv.uint64pow10", laid_internal_strconv_uint64pow10)], narrowed := true }
def RuleFracsUptoSaid : Prop := ruleFracsUptoRow.holds Tryd.pinned (OpenSpec.upto ruleFracsSpec)

/-- 'stricklelaw01.RuleChained', WHERE WHAT IT READS IS OF BULK AT MOST 1048576: true; the input reads as it did. -/
def ruleChainedUptoRow : OpenClaim := { program := "ytconhikflghkdaadoor", sum := "53f0876b6d07e099b3cf80ee9e0bc1975c3067181a12448a57030861fe90c03b", func := "strickle/stricklelaw01.RuleChained", spec := "ruleChained", unfollowed := true, recurses := true, named := ["internal/strconv.uint64pow10", "math/bits.deBruijn32tab", "math/bits.deBruijn64tab"], apart := false, laid := [("math/bits.deBruijn32tab", laid_math_bits_deBruijn32tab), ("math/bits.deBruijn64tab", laid_math_bits_deBruijn64tab), ("internal/strconv.uint64pow10", laid_internal_strconv_uint64pow10)], narrowed := true }
def RuleChainedUptoSaid : Prop := ruleChainedUptoRow.holds Tryd.pinned (OpenSpec.upto ruleChainedSpec)

/-- 'stricklelaw01.RuleProved', WHERE WHAT IT READS IS OF BULK AT MOST 1048576: true; the input reads as it did. -/
def ruleProvedUptoRow : OpenClaim := { program := "ytconhikflghkdaadoor", sum := "53f0876b6d07e099b3cf80ee9e0bc1975c3067181a12448a57030861fe90c03b", func := "strickle/stricklelaw01.RuleProved", spec := "ruleProved", unfollowed := true, recurses := true, named := ["internal/strconv.uint64pow10", "math/bits.deBruijn32tab", "math/bits.deBruijn64tab"], apart := false, laid := [("math/bits.deBruijn32tab", laid_math_bits_deBruijn32tab), ("math/bits.deBruijn64tab", laid_math_bits_deBruijn64tab), ("internal/strconv.uint64pow10", laid_internal_strconv_uint64pow10)], narrowed := true }
def RuleProvedUptoSaid : Prop := ruleProvedUptoRow.holds Tryd.pinned (OpenSpec.upto ruleProvedSpec)

/-- 'stricklelaw01.RuleCasts', WHERE WHAT IT READS IS OF BULK AT MOST 1048576: true; the input reads as it did. -/
def ruleCastsUptoRow : OpenClaim := { program := "ytconhikflghkdaadoor", sum := "53f0876b6d07e099b3cf80ee9e0bc1975c3067181a12448a57030861fe90c03b", func := "strickle/stricklelaw01.RuleCasts", spec := "ruleCasts", unfollowed := true, recurses := true, named := ["internal/strconv.uint64pow10", "math/bits.deBruijn32tab", "math/bits.deBruijn64tab"], apart := false, laid := [("math/bits.deBruijn32tab", laid_math_bits_deBruijn32tab), ("math/bits.deBruijn64tab", laid_math_bits_deBruijn64tab), ("internal/strconv.uint64pow10", laid_internal_strconv_uint64pow10)], narrowed := true }
def RuleCastsUptoSaid : Prop := ruleCastsUptoRow.holds Tryd.pinned (OpenSpec.upto ruleCastsSpec)

/-- 'stricklelaw01.RuleTerms', WHERE WHAT IT READS IS OF BULK AT MOST 1048576: true; the input reads as it did. -/
def ruleTermsUptoRow : OpenClaim := { program := "ytconhikflghkdaadoor", sum := "53f0876b6d07e099b3cf80ee9e0bc1975c3067181a12448a57030861fe90c03b", func := "strickle/stricklelaw01.RuleTerms", spec := "ruleTerms", unfollowed := true, recurses := true, named := ["internal/strconv.uint64pow10", "math/bits.deBruijn32tab", "math/bits.deBruijn64tab"], apart := false, laid := [("math/bits.deBruijn32tab", laid_math_bits_deBruijn32tab), ("math/bits.deBruijn64tab", laid_math_bits_deBruijn64tab), ("internal/strconv.uint64pow10", laid_internal_strconv_uint64pow10)], narrowed := true }
def RuleTermsUptoSaid : Prop := ruleTermsUptoRow.holds Tryd.pinned (OpenSpec.upto ruleTermsSpec)

/-- 'stricklelaw01.RuleSteps', WHERE WHAT IT READS IS OF BULK AT MOST 1048576: true; the input reads as it did. -/
def ruleStepsUptoRow : OpenClaim := { program := "ytconhikflghkdaadoor", sum := "53f0876b6d07e099b3cf80ee9e0bc1975c3067181a12448a57030861fe90c03b", func := "strickle/stricklelaw01.RuleSteps", spec := "ruleSteps", unfollowed := true, recurses := true, named := ["internal/strconv.uint64pow10", "math/bits.deBruijn32tab", "math/bits.deBruijn64tab"], apart := false, laid := [("math/bits.deBruijn32tab", laid_math_bits_deBruijn32tab), ("math/bits.deBruijn64tab", laid_math_bits_deBruijn64tab), ("internal/strconv.uint64pow10", laid_internal_strconv_uint64pow10)], narrowed := true }
def RuleStepsUptoSaid : Prop := ruleStepsUptoRow.holds Tryd.pinned (OpenSpec.upto ruleStepsSpec)

end Rows
end Go.Proofs.YtconhikflghkdaaDoor
