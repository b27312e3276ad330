/-
  NARROWER THAN 'FOR EVERY INPUT', by the rows' own cells (each row's printed sentence says how): ContentChecks: loops, laid · ContentIncludes: loops, laid · ContentMeans: loops, laid · ContentMakes: loops, laid · ContentAgrees: loops, laid · AttributionClashes: loops, laid · AttributionOnly: loops, laid · AttributionKeeps: loops, laid.
  DERIVED. THE GIVEN ROWS OF THIS SEAT. 8 by the template 'for every input the law returns true; each argument reads behind the call as it read before'; 0 by the template 'total and deterministic' (their statements: YtgmnnegfndpakaaGreatDoorTotals.lean).
  GIVEN WITH THE SEED: the statements are not yours to turn. If you find one false, say at which input.
  Laid BY PROGRAM, IN A SANDBOX (cutbox-rows.mjs): the forced cells as the released guide's own fill.sh prints them over the translation 714b90867b6686bc… (all of the seat's roots in one cut). By AI agents, Wed Nov 11 2026. No macro, syntax, notation, axiom, sorry.
-/
import Derived.Test.YtgmnnegfndpakaaGreatDoorChecked
import GoSem.Claim
import GoSem.ClaimJoined
import GoSem.ClaimMapViews
import Derived.JoinedTies
import Derived.KernelRfl
namespace Go.Proofs.YtgmnnegfndpakaaGreatDoor
/- THE CELL 'sum', in the pinned program and in every row, IS THE sha256 OF THE DUMP (.gsa) THAT YtgmnnegfndpakaaGreatDoorProg.lean LOADS. Nothing in Lean hashes anything: it is a label: what it is worth is what the hold of that sum in a sandbox is worth. -/
noncomputable def Tryz.pinned : Pinned := { name := "ytgmnnegfndpakaagreatdoor", sum := "714b90867b6686bcecb7d7fa228f6adad3fef961ee52f8f176305e5c6dcf7ee6", checked := Tryz.checked }
namespace Rows
def none {H : Type} : Left H := { results := [], args := [] }

/- WHAT THE LISTED PACKAGE-LEVEL VARIABLES READ AS WHEN THE CALL BEGINS. Each datum BY PROGRAM (the guide's laid-datum.mjs) off the statement by which the dump's own 'gosem.cut.vars' lays the variable. In a bare row this is a premise. The card (YtgmnnegfndpakaaGreatDoorCards.lean) ties it to the program's text. -/
def laid_math_bits_deBruijn32tab {H : Type} : DataW H := .agg [.lit (.int .u8 0), .lit (.int .u8 1), .lit (.int .u8 28), .lit (.int .u8 2), .lit (.int .u8 29), .lit (.int .u8 14), .lit (.int .u8 24), .lit (.int .u8 3), .lit (.int .u8 30), .lit (.int .u8 22), .lit (.int .u8 20), .lit (.int .u8 15), .lit (.int .u8 25), .lit (.int .u8 17), .lit (.int .u8 4), .lit (.int .u8 8), .lit (.int .u8 31), .lit (.int .u8 27), .lit (.int .u8 13), .lit (.int .u8 23), .lit (.int .u8 21), .lit (.int .u8 19), .lit (.int .u8 16), .lit (.int .u8 7), .lit (.int .u8 26), .lit (.int .u8 12), .lit (.int .u8 18), .lit (.int .u8 6), .lit (.int .u8 11), .lit (.int .u8 5), .lit (.int .u8 10), .lit (.int .u8 9)]
def laid_math_bits_deBruijn64tab {H : Type} : DataW H := .agg [.lit (.int .u8 0), .lit (.int .u8 1), .lit (.int .u8 56), .lit (.int .u8 2), .lit (.int .u8 57), .lit (.int .u8 49), .lit (.int .u8 28), .lit (.int .u8 3), .lit (.int .u8 61), .lit (.int .u8 58), .lit (.int .u8 42), .lit (.int .u8 50), .lit (.int .u8 38), .lit (.int .u8 29), .lit (.int .u8 17), .lit (.int .u8 4), .lit (.int .u8 62), .lit (.int .u8 47), .lit (.int .u8 59), .lit (.int .u8 36), .lit (.int .u8 45), .lit (.int .u8 43), .lit (.int .u8 51), .lit (.int .u8 22), .lit (.int .u8 53), .lit (.int .u8 39), .lit (.int .u8 33), .lit (.int .u8 30), .lit (.int .u8 24), .lit (.int .u8 18), .lit (.int .u8 12), .lit (.int .u8 5), .lit (.int .u8 63), .lit (.int .u8 55), .lit (.int .u8 48), .lit (.int .u8 27), .lit (.int .u8 60), .lit (.int .u8 41), .lit (.int .u8 37), .lit (.int .u8 16), .lit (.int .u8 46), .lit (.int .u8 35), .lit (.int .u8 44), .lit (.int .u8 21), .lit (.int .u8 52), .lit (.int .u8 32), .lit (.int .u8 23), .lit (.int .u8 11), .lit (.int .u8 54), .lit (.int .u8 26), .lit (.int .u8 40), .lit (.int .u8 15), .lit (.int .u8 34), .lit (.int .u8 20), .lit (.int .u8 31), .lit (.int .u8 10), .lit (.int .u8 25), .lit (.int .u8 14), .lit (.int .u8 19), .lit (.int .u8 9), .lit (.int .u8 13), .lit (.int .u8 8), .lit (.int .u8 7), .lit (.int .u8 6)]
def laid_internal_strconv_uint64pow10 {H : Type} : DataW H := .agg [.lit (.int .u64 1), .lit (.int .u64 10), .lit (.int .u64 100), .lit (.int .u64 1000), .lit (.int .u64 10000), .lit (.int .u64 100000), .lit (.int .u64 1000000), .lit (.int .u64 10000000), .lit (.int .u64 100000000), .lit (.int .u64 1000000000), .lit (.int .u64 10000000000), .lit (.int .u64 100000000000), .lit (.int .u64 1000000000000), .lit (.int .u64 10000000000000), .lit (.int .u64 100000000000000), .lit (.int .u64 1000000000000000), .lit (.int .u64 10000000000000000), .lit (.int .u64 100000000000000000), .lit (.int .u64 1000000000000000000), .lit (.int .u64 10000000000000000000)]

/-- 'gabaritlaw16.ContentChecks': WHATEVER THE INPUT: true; the input reads as it did. -/
def contentChecksSpec : ChangeSpec := { name := "contentChecks", fn := fun _ => fun
  | [d1, d2] => { results := [.lit (.bool true)], args := [d1, d2] }
  | _ => none }
def contentChecksRow : OpenClaim := { program := "ytgmnnegfndpakaagreatdoor", sum := "714b90867b6686bcecb7d7fa228f6adad3fef961ee52f8f176305e5c6dcf7ee6", func := "gabarit/gabaritlaw16.ContentChecks", spec := "contentChecks", inPlace := ["internal/bytealg.abigen_runtime_cmpstring"], unfollowed := true, recurses := true, named := ["internal/strconv.uint64pow10", "math/bits.deBruijn32tab", "math/bits.deBruijn64tab"], loops := true, plainKeys := false, apart := false, laid := [("math/bits.deBruijn32tab", laid_math_bits_deBruijn32tab), ("math/bits.deBruijn64tab", laid_math_bits_deBruijn64tab), ("internal/strconv.uint64pow10", laid_internal_strconv_uint64pow10)] }
def ContentChecksSaid : Prop := contentChecksRow.holds Tryz.pinned (OpenSpec.ofChange contentChecksSpec)

/-- ITS FALSE NEIGHBOUR: 'it returns false'. Refute it at one input. -/
def contentChecksWrong : ChangeSpec := { name := "contentChecks", fn := fun _ => fun
  | [d1, d2] => { results := [.lit (.bool false)], args := [d1, d2] }
  | _ => none }
def ContentChecksWrongFalsely : Prop := contentChecksRow.holds Tryz.pinned (OpenSpec.ofChange contentChecksWrong)

/-- 'gabaritlaw16.ContentIncludes': WHATEVER THE INPUT: true; the input reads as it did. -/
def contentIncludesSpec : ChangeSpec := { name := "contentIncludes", fn := fun _ => fun
  | [d1, d2, d3] => { results := [.lit (.bool true)], args := [d1, d2, d3] }
  | _ => none }
def contentIncludesRow : OpenClaim := { program := "ytgmnnegfndpakaagreatdoor", sum := "714b90867b6686bcecb7d7fa228f6adad3fef961ee52f8f176305e5c6dcf7ee6", func := "gabarit/gabaritlaw16.ContentIncludes", spec := "contentIncludes", inPlace := ["internal/bytealg.abigen_runtime_cmpstring"], unfollowed := true, recurses := true, named := ["internal/strconv.uint64pow10", "math/bits.deBruijn32tab", "math/bits.deBruijn64tab"], loops := true, plainKeys := false, apart := false, laid := [("math/bits.deBruijn32tab", laid_math_bits_deBruijn32tab), ("math/bits.deBruijn64tab", laid_math_bits_deBruijn64tab), ("internal/strconv.uint64pow10", laid_internal_strconv_uint64pow10)] }
def ContentIncludesSaid : Prop := contentIncludesRow.holds Tryz.pinned (OpenSpec.ofChange contentIncludesSpec)

/-- ITS FALSE NEIGHBOUR: 'it returns false'. Refute it at one input. -/
def contentIncludesWrong : ChangeSpec := { name := "contentIncludes", fn := fun _ => fun
  | [d1, d2, d3] => { results := [.lit (.bool false)], args := [d1, d2, d3] }
  | _ => none }
def ContentIncludesWrongFalsely : Prop := contentIncludesRow.holds Tryz.pinned (OpenSpec.ofChange contentIncludesWrong)

/-- 'gabaritlaw16.ContentMeans': WHATEVER THE INPUT: true; the input reads as it did. -/
def contentMeansSpec : ChangeSpec := { name := "contentMeans", fn := fun _ => fun
  | [d1, d2, d3] => { results := [.lit (.bool true)], args := [d1, d2, d3] }
  | _ => none }
def contentMeansRow : OpenClaim := { program := "ytgmnnegfndpakaagreatdoor", sum := "714b90867b6686bcecb7d7fa228f6adad3fef961ee52f8f176305e5c6dcf7ee6", func := "gabarit/gabaritlaw16.ContentMeans", spec := "contentMeans", inPlace := ["internal/bytealg.abigen_runtime_cmpstring"], unfollowed := true, recurses := true, named := ["internal/strconv.uint64pow10", "math/bits.deBruijn32tab", "math/bits.deBruijn64tab"], loops := true, plainKeys := false, apart := false, laid := [("math/bits.deBruijn32tab", laid_math_bits_deBruijn32tab), ("math/bits.deBruijn64tab", laid_math_bits_deBruijn64tab), ("internal/strconv.uint64pow10", laid_internal_strconv_uint64pow10)] }
def ContentMeansSaid : Prop := contentMeansRow.holds Tryz.pinned (OpenSpec.ofChange contentMeansSpec)

/-- ITS FALSE NEIGHBOUR: 'it returns false'. Refute it at one input. -/
def contentMeansWrong : ChangeSpec := { name := "contentMeans", fn := fun _ => fun
  | [d1, d2, d3] => { results := [.lit (.bool false)], args := [d1, d2, d3] }
  | _ => none }
def ContentMeansWrongFalsely : Prop := contentMeansRow.holds Tryz.pinned (OpenSpec.ofChange contentMeansWrong)

/-- 'gabaritlaw16.ContentMakes': WHATEVER THE INPUT: true; the input reads as it did. -/
def contentMakesSpec : ChangeSpec := { name := "contentMakes", fn := fun _ => fun
  | [d1, d2, d3] => { results := [.lit (.bool true)], args := [d1, d2, d3] }
  | _ => none }
def contentMakesRow : OpenClaim := { program := "ytgmnnegfndpakaagreatdoor", sum := "714b90867b6686bcecb7d7fa228f6adad3fef961ee52f8f176305e5c6dcf7ee6", func := "gabarit/gabaritlaw16.ContentMakes", spec := "contentMakes", inPlace := ["internal/bytealg.abigen_runtime_cmpstring"], unfollowed := true, recurses := true, named := ["internal/strconv.uint64pow10", "math/bits.deBruijn32tab", "math/bits.deBruijn64tab"], loops := true, plainKeys := false, apart := false, laid := [("math/bits.deBruijn32tab", laid_math_bits_deBruijn32tab), ("math/bits.deBruijn64tab", laid_math_bits_deBruijn64tab), ("internal/strconv.uint64pow10", laid_internal_strconv_uint64pow10)] }
def ContentMakesSaid : Prop := contentMakesRow.holds Tryz.pinned (OpenSpec.ofChange contentMakesSpec)

/-- ITS FALSE NEIGHBOUR: 'it returns false'. Refute it at one input. -/
def contentMakesWrong : ChangeSpec := { name := "contentMakes", fn := fun _ => fun
  | [d1, d2, d3] => { results := [.lit (.bool false)], args := [d1, d2, d3] }
  | _ => none }
def ContentMakesWrongFalsely : Prop := contentMakesRow.holds Tryz.pinned (OpenSpec.ofChange contentMakesWrong)

/-- 'gabaritlaw16.ContentAgrees': WHATEVER THE INPUT: true; the input reads as it did. -/
def contentAgreesSpec : ChangeSpec := { name := "contentAgrees", fn := fun _ => fun
  | [d1, d2, d3] => { results := [.lit (.bool true)], args := [d1, d2, d3] }
  | _ => none }
def contentAgreesRow : OpenClaim := { program := "ytgmnnegfndpakaagreatdoor", sum := "714b90867b6686bcecb7d7fa228f6adad3fef961ee52f8f176305e5c6dcf7ee6", func := "gabarit/gabaritlaw16.ContentAgrees", spec := "contentAgrees", inPlace := ["internal/bytealg.abigen_runtime_cmpstring"], unfollowed := true, recurses := true, named := ["internal/strconv.uint64pow10", "math/bits.deBruijn32tab", "math/bits.deBruijn64tab"], loops := true, plainKeys := false, apart := false, laid := [("math/bits.deBruijn32tab", laid_math_bits_deBruijn32tab), ("math/bits.deBruijn64tab", laid_math_bits_deBruijn64tab), ("internal/strconv.uint64pow10", laid_internal_strconv_uint64pow10)] }
def ContentAgreesSaid : Prop := contentAgreesRow.holds Tryz.pinned (OpenSpec.ofChange contentAgreesSpec)

/-- ITS FALSE NEIGHBOUR: 'it returns false'. Refute it at one input. -/
def contentAgreesWrong : ChangeSpec := { name := "contentAgrees", fn := fun _ => fun
  | [d1, d2, d3] => { results := [.lit (.bool false)], args := [d1, d2, d3] }
  | _ => none }
def ContentAgreesWrongFalsely : Prop := contentAgreesRow.holds Tryz.pinned (OpenSpec.ofChange contentAgreesWrong)

/-- 'gabaritlaw17.AttributionClashes': WHATEVER THE INPUT: true; the input reads as it did. -/
def attributionClashesSpec : ChangeSpec := { name := "attributionClashes", fn := fun _ => fun
  | [d1, d2] => { results := [.lit (.bool true)], args := [d1, d2] }
  | _ => none }
def attributionClashesRow : OpenClaim := { program := "ytgmnnegfndpakaagreatdoor", sum := "714b90867b6686bcecb7d7fa228f6adad3fef961ee52f8f176305e5c6dcf7ee6", func := "gabarit/gabaritlaw17.AttributionClashes", spec := "attributionClashes", inPlace := ["internal/bytealg.abigen_runtime_cmpstring"], unfollowed := true, recurses := true, named := ["internal/strconv.uint64pow10", "math/bits.deBruijn32tab", "math/bits.deBruijn64tab"], loops := true, plainKeys := false, apart := false, laid := [("math/bits.deBruijn32tab", laid_math_bits_deBruijn32tab), ("math/bits.deBruijn64tab", laid_math_bits_deBruijn64tab), ("internal/strconv.uint64pow10", laid_internal_strconv_uint64pow10)] }
def AttributionClashesSaid : Prop := attributionClashesRow.holds Tryz.pinned (OpenSpec.ofChange attributionClashesSpec)

/-- ITS FALSE NEIGHBOUR: 'it returns false'. Refute it at one input. -/
def attributionClashesWrong : ChangeSpec := { name := "attributionClashes", fn := fun _ => fun
  | [d1, d2] => { results := [.lit (.bool false)], args := [d1, d2] }
  | _ => none }
def AttributionClashesWrongFalsely : Prop := attributionClashesRow.holds Tryz.pinned (OpenSpec.ofChange attributionClashesWrong)

/-- 'gabaritlaw17.AttributionOnly': WHATEVER THE INPUT: true; the input reads as it did. -/
def attributionOnlySpec : ChangeSpec := { name := "attributionOnly", fn := fun _ => fun
  | [d1, d2, d3] => { results := [.lit (.bool true)], args := [d1, d2, d3] }
  | _ => none }
def attributionOnlyRow : OpenClaim := { program := "ytgmnnegfndpakaagreatdoor", sum := "714b90867b6686bcecb7d7fa228f6adad3fef961ee52f8f176305e5c6dcf7ee6", func := "gabarit/gabaritlaw17.AttributionOnly", spec := "attributionOnly", inPlace := ["internal/bytealg.abigen_runtime_cmpstring"], unfollowed := true, recurses := true, named := ["internal/strconv.uint64pow10", "math/bits.deBruijn32tab", "math/bits.deBruijn64tab"], loops := true, plainKeys := false, apart := false, laid := [("math/bits.deBruijn32tab", laid_math_bits_deBruijn32tab), ("math/bits.deBruijn64tab", laid_math_bits_deBruijn64tab), ("internal/strconv.uint64pow10", laid_internal_strconv_uint64pow10)] }
def AttributionOnlySaid : Prop := attributionOnlyRow.holds Tryz.pinned (OpenSpec.ofChange attributionOnlySpec)

/-- ITS FALSE NEIGHBOUR: 'it returns false'. Refute it at one input. -/
def attributionOnlyWrong : ChangeSpec := { name := "attributionOnly", fn := fun _ => fun
  | [d1, d2, d3] => { results := [.lit (.bool false)], args := [d1, d2, d3] }
  | _ => none }
def AttributionOnlyWrongFalsely : Prop := attributionOnlyRow.holds Tryz.pinned (OpenSpec.ofChange attributionOnlyWrong)

/-- 'gabaritlaw17.AttributionKeeps': WHATEVER THE INPUT: true; the input reads as it did. -/
def attributionKeepsSpec : ChangeSpec := { name := "attributionKeeps", fn := fun _ => fun
  | [d1, d2] => { results := [.lit (.bool true)], args := [d1, d2] }
  | _ => none }
def attributionKeepsRow : OpenClaim := { program := "ytgmnnegfndpakaagreatdoor", sum := "714b90867b6686bcecb7d7fa228f6adad3fef961ee52f8f176305e5c6dcf7ee6", func := "gabarit/gabaritlaw17.AttributionKeeps", spec := "attributionKeeps", inPlace := ["internal/bytealg.abigen_runtime_cmpstring"], unfollowed := true, recurses := true, named := ["internal/strconv.uint64pow10", "math/bits.deBruijn32tab", "math/bits.deBruijn64tab"], loops := true, plainKeys := false, apart := false, laid := [("math/bits.deBruijn32tab", laid_math_bits_deBruijn32tab), ("math/bits.deBruijn64tab", laid_math_bits_deBruijn64tab), ("internal/strconv.uint64pow10", laid_internal_strconv_uint64pow10)] }
def AttributionKeepsSaid : Prop := attributionKeepsRow.holds Tryz.pinned (OpenSpec.ofChange attributionKeepsSpec)

/-- ITS FALSE NEIGHBOUR: 'it returns false'. Refute it at one input. -/
def attributionKeepsWrong : ChangeSpec := { name := "attributionKeeps", fn := fun _ => fun
  | [d1, d2] => { results := [.lit (.bool false)], args := [d1, d2] }
  | _ => none }
def AttributionKeepsWrongFalsely : Prop := attributionKeepsRow.holds Tryz.pinned (OpenSpec.ofChange attributionKeepsWrong)

/- THE SECOND FORM. 'bulk': how many values and letters a reading holds, each counted each time it is reached (what is shared counts as often as it is met; a slice's spare places count too). A statement '..UptoSaid' is the law's where the arguments, and the package variables that the reading takes, are together of bulk at most 1048576: NARROWER than '..Said'. Prove '..Said' where nothing that the law and all that it calls make is longer than what came in: it says more and counts as full. Else prove '..UptoSaid'. A law counts once. -/
mutual
def uptoBulk {H : Type} : DataW H → Nat
  | .lit (.string bytes) => bytes.length + 1
  | .lit _ => 1
  | .nil => 1
  | .ptr d => uptoBulk d + 1
  | .slice elems spare => uptoBulkAll elems + uptoBulkAll spare + 1
  | .agg parts => uptoBulkAll parts + 1
  | .iface _ d => uptoBulk d + 1
  | .map entries => uptoBulkEntries entries + 1
  | .held _ => 1
def uptoBulkAll {H : Type} : List (DataW H) → Nat
  | [] => 0
  | d :: r => uptoBulk d + uptoBulkAll r
def uptoBulkEntries {H : Type} : List (Lit × DataW H) → Nat
  | [] => 0
  | x :: r => uptoBulkEntry x + uptoBulkEntries r
def uptoBulkEntry {H : Type} : Lit × DataW H → Nat
  | (.string bytes, d) => bytes.length + uptoBulk d + 1
  | (_, d) => uptoBulk d + 1
 end
def uptoSmall : (H : Type) → List (DataW H) → Bool := fun _ ds => decide (uptoBulkAll ds ≤ 1048576)
def OpenSpec.upto (s : _root_.Go.ChangeSpec) : _root_.Go.OpenSpec := { _root_.Go.OpenSpec.ofChange s with cond := some uptoSmall }

/-- 'gabaritlaw16.ContentChecks', WHERE WHAT IT READS IS OF BULK AT MOST 1048576: true; the input reads as it did. -/
def contentChecksUptoRow : OpenClaim := { program := "ytgmnnegfndpakaagreatdoor", sum := "714b90867b6686bcecb7d7fa228f6adad3fef961ee52f8f176305e5c6dcf7ee6", func := "gabarit/gabaritlaw16.ContentChecks", spec := "contentChecks", inPlace := ["internal/bytealg.abigen_runtime_cmpstring"], unfollowed := true, recurses := true, named := ["internal/strconv.uint64pow10", "math/bits.deBruijn32tab", "math/bits.deBruijn64tab"], loops := true, plainKeys := false, apart := false, laid := [("math/bits.deBruijn32tab", laid_math_bits_deBruijn32tab), ("math/bits.deBruijn64tab", laid_math_bits_deBruijn64tab), ("internal/strconv.uint64pow10", laid_internal_strconv_uint64pow10)], narrowed := true }
def ContentChecksUptoSaid : Prop := contentChecksUptoRow.holds Tryz.pinned (OpenSpec.upto contentChecksSpec)

/-- 'gabaritlaw16.ContentIncludes', WHERE WHAT IT READS IS OF BULK AT MOST 1048576: true; the input reads as it did. -/
def contentIncludesUptoRow : OpenClaim := { program := "ytgmnnegfndpakaagreatdoor", sum := "714b90867b6686bcecb7d7fa228f6adad3fef961ee52f8f176305e5c6dcf7ee6", func := "gabarit/gabaritlaw16.ContentIncludes", spec := "contentIncludes", inPlace := ["internal/bytealg.abigen_runtime_cmpstring"], unfollowed := true, recurses := true, named := ["internal/strconv.uint64pow10", "math/bits.deBruijn32tab", "math/bits.deBruijn64tab"], loops := true, plainKeys := false, apart := false, laid := [("math/bits.deBruijn32tab", laid_math_bits_deBruijn32tab), ("math/bits.deBruijn64tab", laid_math_bits_deBruijn64tab), ("internal/strconv.uint64pow10", laid_internal_strconv_uint64pow10)], narrowed := true }
def ContentIncludesUptoSaid : Prop := contentIncludesUptoRow.holds Tryz.pinned (OpenSpec.upto contentIncludesSpec)

/-- 'gabaritlaw16.ContentMeans', WHERE WHAT IT READS IS OF BULK AT MOST 1048576: true; the input reads as it did. -/
def contentMeansUptoRow : OpenClaim := { program := "ytgmnnegfndpakaagreatdoor", sum := "714b90867b6686bcecb7d7fa228f6adad3fef961ee52f8f176305e5c6dcf7ee6", func := "gabarit/gabaritlaw16.ContentMeans", spec := "contentMeans", inPlace := ["internal/bytealg.abigen_runtime_cmpstring"], unfollowed := true, recurses := true, named := ["internal/strconv.uint64pow10", "math/bits.deBruijn32tab", "math/bits.deBruijn64tab"], loops := true, plainKeys := false, apart := false, laid := [("math/bits.deBruijn32tab", laid_math_bits_deBruijn32tab), ("math/bits.deBruijn64tab", laid_math_bits_deBruijn64tab), ("internal/strconv.uint64pow10", laid_internal_strconv_uint64pow10)], narrowed := true }
def ContentMeansUptoSaid : Prop := contentMeansUptoRow.holds Tryz.pinned (OpenSpec.upto contentMeansSpec)

/-- 'gabaritlaw16.ContentMakes', WHERE WHAT IT READS IS OF BULK AT MOST 1048576: true; the input reads as it did. -/
def contentMakesUptoRow : OpenClaim := { program := "ytgmnnegfndpakaagreatdoor", sum := "714b90867b6686bcecb7d7fa228f6adad3fef961ee52f8f176305e5c6dcf7ee6", func := "gabarit/gabaritlaw16.ContentMakes", spec := "contentMakes", inPlace := ["internal/bytealg.abigen_runtime_cmpstring"], unfollowed := true, recurses := true, named := ["internal/strconv.uint64pow10", "math/bits.deBruijn32tab", "math/bits.deBruijn64tab"], loops := true, plainKeys := false, apart := false, laid := [("math/bits.deBruijn32tab", laid_math_bits_deBruijn32tab), ("math/bits.deBruijn64tab", laid_math_bits_deBruijn64tab), ("internal/strconv.uint64pow10", laid_internal_strconv_uint64pow10)], narrowed := true }
def ContentMakesUptoSaid : Prop := contentMakesUptoRow.holds Tryz.pinned (OpenSpec.upto contentMakesSpec)

/-- 'gabaritlaw16.ContentAgrees', WHERE WHAT IT READS IS OF BULK AT MOST 1048576: true; the input reads as it did. -/
def contentAgreesUptoRow : OpenClaim := { program := "ytgmnnegfndpakaagreatdoor", sum := "714b90867b6686bcecb7d7fa228f6adad3fef961ee52f8f176305e5c6dcf7ee6", func := "gabarit/gabaritlaw16.ContentAgrees", spec := "contentAgrees", inPlace := ["internal/bytealg.abigen_runtime_cmpstring"], unfollowed := true, recurses := true, named := ["internal/strconv.uint64pow10", "math/bits.deBruijn32tab", "math/bits.deBruijn64tab"], loops := true, plainKeys := false, apart := false, laid := [("math/bits.deBruijn32tab", laid_math_bits_deBruijn32tab), ("math/bits.deBruijn64tab", laid_math_bits_deBruijn64tab), ("internal/strconv.uint64pow10", laid_internal_strconv_uint64pow10)], narrowed := true }
def ContentAgreesUptoSaid : Prop := contentAgreesUptoRow.holds Tryz.pinned (OpenSpec.upto contentAgreesSpec)

/-- 'gabaritlaw17.AttributionClashes', WHERE WHAT IT READS IS OF BULK AT MOST 1048576: true; the input reads as it did. -/
def attributionClashesUptoRow : OpenClaim := { program := "ytgmnnegfndpakaagreatdoor", sum := "714b90867b6686bcecb7d7fa228f6adad3fef961ee52f8f176305e5c6dcf7ee6", func := "gabarit/gabaritlaw17.AttributionClashes", spec := "attributionClashes", inPlace := ["internal/bytealg.abigen_runtime_cmpstring"], unfollowed := true, recurses := true, named := ["internal/strconv.uint64pow10", "math/bits.deBruijn32tab", "math/bits.deBruijn64tab"], loops := true, plainKeys := false, apart := false, laid := [("math/bits.deBruijn32tab", laid_math_bits_deBruijn32tab), ("math/bits.deBruijn64tab", laid_math_bits_deBruijn64tab), ("internal/strconv.uint64pow10", laid_internal_strconv_uint64pow10)], narrowed := true }
def AttributionClashesUptoSaid : Prop := attributionClashesUptoRow.holds Tryz.pinned (OpenSpec.upto attributionClashesSpec)

/-- 'gabaritlaw17.AttributionOnly', WHERE WHAT IT READS IS OF BULK AT MOST 1048576: true; the input reads as it did. -/
def attributionOnlyUptoRow : OpenClaim := { program := "ytgmnnegfndpakaagreatdoor", sum := "714b90867b6686bcecb7d7fa228f6adad3fef961ee52f8f176305e5c6dcf7ee6", func := "gabarit/gabaritlaw17.AttributionOnly", spec := "attributionOnly", inPlace := ["internal/bytealg.abigen_runtime_cmpstring"], unfollowed := true, recurses := true, named := ["internal/strconv.uint64pow10", "math/bits.deBruijn32tab", "math/bits.deBruijn64tab"], loops := true, plainKeys := false, apart := false, laid := [("math/bits.deBruijn32tab", laid_math_bits_deBruijn32tab), ("math/bits.deBruijn64tab", laid_math_bits_deBruijn64tab), ("internal/strconv.uint64pow10", laid_internal_strconv_uint64pow10)], narrowed := true }
def AttributionOnlyUptoSaid : Prop := attributionOnlyUptoRow.holds Tryz.pinned (OpenSpec.upto attributionOnlySpec)

/-- 'gabaritlaw17.AttributionKeeps', WHERE WHAT IT READS IS OF BULK AT MOST 1048576: true; the input reads as it did. -/
def attributionKeepsUptoRow : OpenClaim := { program := "ytgmnnegfndpakaagreatdoor", sum := "714b90867b6686bcecb7d7fa228f6adad3fef961ee52f8f176305e5c6dcf7ee6", func := "gabarit/gabaritlaw17.AttributionKeeps", spec := "attributionKeeps", inPlace := ["internal/bytealg.abigen_runtime_cmpstring"], unfollowed := true, recurses := true, named := ["internal/strconv.uint64pow10", "math/bits.deBruijn32tab", "math/bits.deBruijn64tab"], loops := true, plainKeys := false, apart := false, laid := [("math/bits.deBruijn32tab", laid_math_bits_deBruijn32tab), ("math/bits.deBruijn64tab", laid_math_bits_deBruijn64tab), ("internal/strconv.uint64pow10", laid_internal_strconv_uint64pow10)], narrowed := true }
def AttributionKeepsUptoSaid : Prop := attributionKeepsUptoRow.holds Tryz.pinned (OpenSpec.upto attributionKeepsSpec)

end Rows
end Go.Proofs.YtgmnnegfndpakaaGreatDoor
