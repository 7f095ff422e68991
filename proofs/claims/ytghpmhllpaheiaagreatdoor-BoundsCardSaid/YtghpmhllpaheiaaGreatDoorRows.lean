/-
  NARROWER THAN 'FOR EVERY INPUT', by the rows' own cells (each row's printed sentence says how): Whole: laid · Back: laid · Pieces: laid · Letters: laid · Cut: laid · Near: laid · Compiles: laid · Bounds: laid · Scans: laid.
  DERIVED. THE GIVEN ROWS OF THIS SEAT. 9 by the template 'for every input the law returns true; each argument reads behind the call as it read before'; 0 by the template 'total and deterministic' (their statements: YtghpmhllpaheiaaGreatDoorTotals.lean).
  GIVEN WITH THE SEED: the statements are not yours to turn. If you find one false, say at which input.
  Laid BY PROGRAM, IN A SANDBOX (cutbox-rows.mjs): the forced cells as the released guide's own fill.sh prints them over the translation 0cb53f190ed69997… (all of the seat's roots in one cut). By AI agents, Wed Nov 11 2026. No macro, syntax, notation, axiom, sorry.
-/
import Derived.Test.YtghpmhllpaheiaaGreatDoorChecked
import GoSem.PinnedTables
import GoSem.Claim
import GoSem.ClaimJoined
import GoSem.ClaimMapViews
import Derived.JoinedTies
import Derived.KernelRfl
namespace Go.Proofs.YtghpmhllpaheiaaGreatDoor
/- THE CELL 'sum', in the pinned program and in every row, IS THE sha256 OF THE DUMP (.gsa) THAT YtghpmhllpaheiaaGreatDoorProg.lean LOADS. Nothing in Lean hashes anything: it is a label: what it is worth is what the hold of that sum in a sandbox is worth. -/
noncomputable def Tryz.pinned : Pinned := { name := "ytghpmhllpaheiaagreatdoor", sum := "0cb53f190ed69997fe2e2dc0062785dd3819bf210798195de9c5351d8be9d15f", checked := Tryz.checked }
namespace Rows
def none {H : Type} : Left H := { results := [], args := [] }

/- WHAT THE LISTED PACKAGE-LEVEL VARIABLES READ AS WHEN THE CALL BEGINS. Each datum BY PROGRAM (the guide's laid-datum.mjs) off the statement by which the dump's own 'gosem.cut.vars' lays the variable. In a bare row this is a premise. The card (YtghpmhllpaheiaaGreatDoorCards.lean) ties it to the program's text. -/
def laid_unicode_utf8_acceptRanges {H : Type} : DataW H := .agg [.agg [.lit (.int .u8 128), .lit (.int .u8 191)], .agg [.lit (.int .u8 160), .lit (.int .u8 191)], .agg [.lit (.int .u8 128), .lit (.int .u8 159)], .agg [.lit (.int .u8 144), .lit (.int .u8 191)], .agg [.lit (.int .u8 128), .lit (.int .u8 143)], .agg [.lit (.int .u8 0), .lit (.int .u8 0)], .agg [.lit (.int .u8 0), .lit (.int .u8 0)], .agg [.lit (.int .u8 0), .lit (.int .u8 0)], .agg [.lit (.int .u8 0), .lit (.int .u8 0)], .agg [.lit (.int .u8 0), .lit (.int .u8 0)], .agg [.lit (.int .u8 0), .lit (.int .u8 0)], .agg [.lit (.int .u8 0), .lit (.int .u8 0)], .agg [.lit (.int .u8 0), .lit (.int .u8 0)], .agg [.lit (.int .u8 0), .lit (.int .u8 0)], .agg [.lit (.int .u8 0), .lit (.int .u8 0)], .agg [.lit (.int .u8 0), .lit (.int .u8 0)]]
def laid_errors_errorType {H : Type} : DataW H := .iface "internal/reflectlite.rtype" (.agg [.ptr (.lit (.string [101, 114, 114, 111, 114]))])
def laid_scangen_tables_widths {H : Type} : DataW H := .agg [.lit (.int .i32 0), .lit (.int .i32 128), .lit (.int .i32 2048), .lit (.int .i32 55296), .lit (.int .i32 57344), .lit (.int .i32 65536)]
/-- One of Go's own tables, pinned by name: the form's constant. -/
def laid_unicode_utf8_first : DataW Unit := Go.Pinned.utf8First

/-- 'scangenkeep.Whole': WHATEVER THE INPUT: true; the input reads as it did. -/
def wholeSpec : ChangeSpec := { name := "whole", fn := fun _ => fun
  | [d1, d2] => { results := [.lit (.bool true)], args := [d1, d2] }
  | _ => none }
def wholeRow : OpenClaim := { program := "ytghpmhllpaheiaagreatdoor", sum := "0cb53f190ed69997fe2e2dc0062785dd3819bf210798195de9c5351d8be9d15f", func := "scangen/scangenkeep.Whole", spec := "whole", inPlace := ["internal/reflectlite.ValueOf", "(internal/reflectlite.Value).Type", "(internal/reflectlite.Value).IsNil", "internal/reflectlite.TypeOf", "(internal/reflectlite.Value).Elem", "(internal/reflectlite.Value).Set"], unfollowed := true, recurses := true, named := ["unicode/utf8.first", "unicode/utf8.acceptRanges", "errors.errorType", "scangen/tables.widths"], plainKeys := false, apart := false, laid := [("unicode/utf8.acceptRanges", laid_unicode_utf8_acceptRanges), ("errors.errorType", laid_errors_errorType), ("scangen/tables.widths", laid_scangen_tables_widths), ("unicode/utf8.first", laid_unicode_utf8_first)] }
def WholeSaid : Prop := wholeRow.holds Tryz.pinned (OpenSpec.ofChange wholeSpec)

/-- ITS FALSE NEIGHBOUR: 'it returns false'. Refute it at one input. -/
def wholeWrong : ChangeSpec := { name := "whole", fn := fun _ => fun
  | [d1, d2] => { results := [.lit (.bool false)], args := [d1, d2] }
  | _ => none }
def WholeWrongFalsely : Prop := wholeRow.holds Tryz.pinned (OpenSpec.ofChange wholeWrong)

/-- 'scangenkeep.Back': WHATEVER THE INPUT: true; the input reads as it did. -/
def backSpec : ChangeSpec := { name := "back", fn := fun _ => fun
  | [d1, d2] => { results := [.lit (.bool true)], args := [d1, d2] }
  | _ => none }
def backRow : OpenClaim := { program := "ytghpmhllpaheiaagreatdoor", sum := "0cb53f190ed69997fe2e2dc0062785dd3819bf210798195de9c5351d8be9d15f", func := "scangen/scangenkeep.Back", spec := "back", inPlace := ["internal/reflectlite.ValueOf", "(internal/reflectlite.Value).Type", "(internal/reflectlite.Value).IsNil", "internal/reflectlite.TypeOf", "(internal/reflectlite.Value).Elem", "(internal/reflectlite.Value).Set"], unfollowed := true, recurses := true, named := ["unicode/utf8.first", "unicode/utf8.acceptRanges", "errors.errorType", "scangen/tables.widths"], plainKeys := false, apart := false, laid := [("unicode/utf8.acceptRanges", laid_unicode_utf8_acceptRanges), ("errors.errorType", laid_errors_errorType), ("scangen/tables.widths", laid_scangen_tables_widths), ("unicode/utf8.first", laid_unicode_utf8_first)] }
def BackSaid : Prop := backRow.holds Tryz.pinned (OpenSpec.ofChange backSpec)

/-- ITS FALSE NEIGHBOUR: 'it returns false'. Refute it at one input. -/
def backWrong : ChangeSpec := { name := "back", fn := fun _ => fun
  | [d1, d2] => { results := [.lit (.bool false)], args := [d1, d2] }
  | _ => none }
def BackWrongFalsely : Prop := backRow.holds Tryz.pinned (OpenSpec.ofChange backWrong)

/-- 'scangenkeep.Pieces': WHATEVER THE INPUT: true; the input reads as it did. -/
def piecesSpec : ChangeSpec := { name := "pieces", fn := fun _ => fun
  | [d1, d2, d3] => { results := [.lit (.bool true)], args := [d1, d2, d3] }
  | _ => none }
def piecesRow : OpenClaim := { program := "ytghpmhllpaheiaagreatdoor", sum := "0cb53f190ed69997fe2e2dc0062785dd3819bf210798195de9c5351d8be9d15f", func := "scangen/scangenkeep.Pieces", spec := "pieces", inPlace := ["internal/reflectlite.ValueOf", "(internal/reflectlite.Value).Type", "(internal/reflectlite.Value).IsNil", "internal/reflectlite.TypeOf", "(internal/reflectlite.Value).Elem", "(internal/reflectlite.Value).Set"], unfollowed := true, recurses := true, named := ["unicode/utf8.first", "unicode/utf8.acceptRanges", "errors.errorType", "scangen/tables.widths"], plainKeys := false, apart := false, laid := [("unicode/utf8.acceptRanges", laid_unicode_utf8_acceptRanges), ("errors.errorType", laid_errors_errorType), ("scangen/tables.widths", laid_scangen_tables_widths), ("unicode/utf8.first", laid_unicode_utf8_first)] }
def PiecesSaid : Prop := piecesRow.holds Tryz.pinned (OpenSpec.ofChange piecesSpec)

/-- ITS FALSE NEIGHBOUR: 'it returns false'. Refute it at one input. -/
def piecesWrong : ChangeSpec := { name := "pieces", fn := fun _ => fun
  | [d1, d2, d3] => { results := [.lit (.bool false)], args := [d1, d2, d3] }
  | _ => none }
def PiecesWrongFalsely : Prop := piecesRow.holds Tryz.pinned (OpenSpec.ofChange piecesWrong)

/-- 'scangenkeep.Letters': WHATEVER THE INPUT: true; the input reads as it did. -/
def lettersSpec : ChangeSpec := { name := "letters", fn := fun _ => fun
  | [d1, d2] => { results := [.lit (.bool true)], args := [d1, d2] }
  | _ => none }
def lettersRow : OpenClaim := { program := "ytghpmhllpaheiaagreatdoor", sum := "0cb53f190ed69997fe2e2dc0062785dd3819bf210798195de9c5351d8be9d15f", func := "scangen/scangenkeep.Letters", spec := "letters", inPlace := ["internal/reflectlite.ValueOf", "(internal/reflectlite.Value).Type", "(internal/reflectlite.Value).IsNil", "internal/reflectlite.TypeOf", "(internal/reflectlite.Value).Elem", "(internal/reflectlite.Value).Set"], unfollowed := true, recurses := true, named := ["unicode/utf8.first", "unicode/utf8.acceptRanges", "errors.errorType", "scangen/tables.widths"], plainKeys := false, apart := false, laid := [("unicode/utf8.acceptRanges", laid_unicode_utf8_acceptRanges), ("errors.errorType", laid_errors_errorType), ("scangen/tables.widths", laid_scangen_tables_widths), ("unicode/utf8.first", laid_unicode_utf8_first)] }
def LettersSaid : Prop := lettersRow.holds Tryz.pinned (OpenSpec.ofChange lettersSpec)

/-- ITS FALSE NEIGHBOUR: 'it returns false'. Refute it at one input. -/
def lettersWrong : ChangeSpec := { name := "letters", fn := fun _ => fun
  | [d1, d2] => { results := [.lit (.bool false)], args := [d1, d2] }
  | _ => none }
def LettersWrongFalsely : Prop := lettersRow.holds Tryz.pinned (OpenSpec.ofChange lettersWrong)

/-- 'scangenkeep.Cut': WHATEVER THE INPUT: true; the input reads as it did. -/
def cutSpec : ChangeSpec := { name := "cut", fn := fun _ => fun
  | [d1, d2, d3, d4] => { results := [.lit (.bool true)], args := [d1, d2, d3, d4] }
  | _ => none }
def cutRow : OpenClaim := { program := "ytghpmhllpaheiaagreatdoor", sum := "0cb53f190ed69997fe2e2dc0062785dd3819bf210798195de9c5351d8be9d15f", func := "scangen/scangenkeep.Cut", spec := "cut", inPlace := ["internal/reflectlite.ValueOf", "(internal/reflectlite.Value).Type", "(internal/reflectlite.Value).IsNil", "internal/reflectlite.TypeOf", "(internal/reflectlite.Value).Elem", "(internal/reflectlite.Value).Set"], unfollowed := true, recurses := true, named := ["unicode/utf8.first", "unicode/utf8.acceptRanges", "errors.errorType", "scangen/tables.widths"], plainKeys := false, apart := false, laid := [("unicode/utf8.acceptRanges", laid_unicode_utf8_acceptRanges), ("errors.errorType", laid_errors_errorType), ("scangen/tables.widths", laid_scangen_tables_widths), ("unicode/utf8.first", laid_unicode_utf8_first)] }
def CutSaid : Prop := cutRow.holds Tryz.pinned (OpenSpec.ofChange cutSpec)

/-- ITS FALSE NEIGHBOUR: 'it returns false'. Refute it at one input. -/
def cutWrong : ChangeSpec := { name := "cut", fn := fun _ => fun
  | [d1, d2, d3, d4] => { results := [.lit (.bool false)], args := [d1, d2, d3, d4] }
  | _ => none }
def CutWrongFalsely : Prop := cutRow.holds Tryz.pinned (OpenSpec.ofChange cutWrong)

/-- 'scangenkeep.Near': WHATEVER THE INPUT: true; the input reads as it did. -/
def nearSpec : ChangeSpec := { name := "near", fn := fun _ => fun
  | [d1, d2] => { results := [.lit (.bool true)], args := [d1, d2] }
  | _ => none }
def nearRow : OpenClaim := { program := "ytghpmhllpaheiaagreatdoor", sum := "0cb53f190ed69997fe2e2dc0062785dd3819bf210798195de9c5351d8be9d15f", func := "scangen/scangenkeep.Near", spec := "near", inPlace := ["internal/reflectlite.ValueOf", "(internal/reflectlite.Value).Type", "(internal/reflectlite.Value).IsNil", "internal/reflectlite.TypeOf", "(internal/reflectlite.Value).Elem", "(internal/reflectlite.Value).Set"], unfollowed := true, recurses := true, named := ["unicode/utf8.first", "unicode/utf8.acceptRanges", "errors.errorType", "scangen/tables.widths"], plainKeys := false, apart := false, laid := [("unicode/utf8.acceptRanges", laid_unicode_utf8_acceptRanges), ("errors.errorType", laid_errors_errorType), ("scangen/tables.widths", laid_scangen_tables_widths), ("unicode/utf8.first", laid_unicode_utf8_first)] }
def NearSaid : Prop := nearRow.holds Tryz.pinned (OpenSpec.ofChange nearSpec)

/-- ITS FALSE NEIGHBOUR: 'it returns false'. Refute it at one input. -/
def nearWrong : ChangeSpec := { name := "near", fn := fun _ => fun
  | [d1, d2] => { results := [.lit (.bool false)], args := [d1, d2] }
  | _ => none }
def NearWrongFalsely : Prop := nearRow.holds Tryz.pinned (OpenSpec.ofChange nearWrong)

/-- 'scangenlaw.Compiles': WHATEVER THE INPUT: true; the input reads as it did. -/
def compilesSpec : ChangeSpec := { name := "compiles", fn := fun _ => fun
  | [d] => { results := [.lit (.bool true)], args := [d] }
  | _ => none }
def compilesRow : OpenClaim := { program := "ytghpmhllpaheiaagreatdoor", sum := "0cb53f190ed69997fe2e2dc0062785dd3819bf210798195de9c5351d8be9d15f", func := "scangen/scangenlaw.Compiles", spec := "compiles", inPlace := ["internal/reflectlite.ValueOf", "(internal/reflectlite.Value).Type", "(internal/reflectlite.Value).IsNil", "internal/reflectlite.TypeOf", "(internal/reflectlite.Value).Elem", "(internal/reflectlite.Value).Set"], unfollowed := true, recurses := true, named := ["unicode/utf8.first", "unicode/utf8.acceptRanges", "errors.errorType", "scangen/tables.widths"], plainKeys := false, apart := false, laid := [("unicode/utf8.acceptRanges", laid_unicode_utf8_acceptRanges), ("errors.errorType", laid_errors_errorType), ("scangen/tables.widths", laid_scangen_tables_widths), ("unicode/utf8.first", laid_unicode_utf8_first)] }
def CompilesSaid : Prop := compilesRow.holds Tryz.pinned (OpenSpec.ofChange compilesSpec)

/-- ITS FALSE NEIGHBOUR: 'it returns false'. Refute it at one input. -/
def compilesWrong : ChangeSpec := { name := "compiles", fn := fun _ => fun
  | [d] => { results := [.lit (.bool false)], args := [d] }
  | _ => none }
def CompilesWrongFalsely : Prop := compilesRow.holds Tryz.pinned (OpenSpec.ofChange compilesWrong)

/-- 'scangenlaw.Bounds': WHATEVER THE INPUT: true; the input reads as it did. -/
def boundsSpec : ChangeSpec := { name := "bounds", fn := fun _ => fun
  | [d] => { results := [.lit (.bool true)], args := [d] }
  | _ => none }
def boundsRow : OpenClaim := { program := "ytghpmhllpaheiaagreatdoor", sum := "0cb53f190ed69997fe2e2dc0062785dd3819bf210798195de9c5351d8be9d15f", func := "scangen/scangenlaw.Bounds", spec := "bounds", inPlace := ["internal/reflectlite.ValueOf", "(internal/reflectlite.Value).Type", "(internal/reflectlite.Value).IsNil", "internal/reflectlite.TypeOf", "(internal/reflectlite.Value).Elem", "(internal/reflectlite.Value).Set"], unfollowed := true, recurses := true, named := ["unicode/utf8.first", "unicode/utf8.acceptRanges", "errors.errorType", "scangen/tables.widths"], plainKeys := false, apart := false, laid := [("unicode/utf8.acceptRanges", laid_unicode_utf8_acceptRanges), ("errors.errorType", laid_errors_errorType), ("scangen/tables.widths", laid_scangen_tables_widths), ("unicode/utf8.first", laid_unicode_utf8_first)] }
def BoundsSaid : Prop := boundsRow.holds Tryz.pinned (OpenSpec.ofChange boundsSpec)

/-- ITS FALSE NEIGHBOUR: 'it returns false'. Refute it at one input. -/
def boundsWrong : ChangeSpec := { name := "bounds", fn := fun _ => fun
  | [d] => { results := [.lit (.bool false)], args := [d] }
  | _ => none }
def BoundsWrongFalsely : Prop := boundsRow.holds Tryz.pinned (OpenSpec.ofChange boundsWrong)

/-- 'scangenlaw.Scans': WHATEVER THE INPUT: true; the input reads as it did. -/
def scansSpec : ChangeSpec := { name := "scans", fn := fun _ => fun
  | [d] => { results := [.lit (.bool true)], args := [d] }
  | _ => none }
def scansRow : OpenClaim := { program := "ytghpmhllpaheiaagreatdoor", sum := "0cb53f190ed69997fe2e2dc0062785dd3819bf210798195de9c5351d8be9d15f", func := "scangen/scangenlaw.Scans", spec := "scans", inPlace := ["internal/reflectlite.ValueOf", "(internal/reflectlite.Value).Type", "(internal/reflectlite.Value).IsNil", "internal/reflectlite.TypeOf", "(internal/reflectlite.Value).Elem", "(internal/reflectlite.Value).Set"], unfollowed := true, recurses := true, named := ["unicode/utf8.first", "unicode/utf8.acceptRanges", "errors.errorType", "scangen/tables.widths"], plainKeys := false, apart := false, laid := [("unicode/utf8.acceptRanges", laid_unicode_utf8_acceptRanges), ("errors.errorType", laid_errors_errorType), ("scangen/tables.widths", laid_scangen_tables_widths), ("unicode/utf8.first", laid_unicode_utf8_first)] }
def ScansSaid : Prop := scansRow.holds Tryz.pinned (OpenSpec.ofChange scansSpec)

/-- ITS FALSE NEIGHBOUR: 'it returns false'. Refute it at one input. -/
def scansWrong : ChangeSpec := { name := "scans", fn := fun _ => fun
  | [d] => { results := [.lit (.bool false)], args := [d] }
  | _ => none }
def ScansWrongFalsely : Prop := scansRow.holds Tryz.pinned (OpenSpec.ofChange scansWrong)

/- THE SECOND FORM. 'bulk': how many values and letters a reading holds, each counted each time it is reached (what is shared counts as often as it is met; a slice's spare places count too). A statement '..UptoSaid' is the law's where the arguments, and the package variables that the reading takes, are together of bulk at most 1048576: NARROWER than '..Said'. Prove '..Said' where nothing that the law and all that it calls make is longer than what came in: it says more and counts as full. Else prove '..UptoSaid'. A law counts once. -/
mutual
def uptoBulk {H : Type} : DataW H → Nat
  | .lit (.string bytes) => bytes.length + 1
  | .lit _ => 1
  | .nil => 1
  | .ptr d => uptoBulk d + 1
  | .slice elems spare => uptoBulkAll elems + uptoBulkAll spare + 1
  | .agg parts => uptoBulkAll parts + 1
  | .iface _ d => uptoBulk d + 1
  | .map entries => uptoBulkEntries entries + 1
  | .held _ => 1
def uptoBulkAll {H : Type} : List (DataW H) → Nat
  | [] => 0
  | d :: r => uptoBulk d + uptoBulkAll r
def uptoBulkEntries {H : Type} : List (Lit × DataW H) → Nat
  | [] => 0
  | x :: r => uptoBulkEntry x + uptoBulkEntries r
def uptoBulkEntry {H : Type} : Lit × DataW H → Nat
  | (.string bytes, d) => bytes.length + uptoBulk d + 1
  | (_, d) => uptoBulk d + 1
 end
def uptoSmall : (H : Type) → List (DataW H) → Bool := fun _ ds => decide (uptoBulkAll ds ≤ 1048576)
def OpenSpec.upto (s : _root_.Go.ChangeSpec) : _root_.Go.OpenSpec := { _root_.Go.OpenSpec.ofChange s with cond := some uptoSmall }

/-- 'scangenkeep.Whole', WHERE WHAT IT READS IS OF BULK AT MOST 1048576: true; the input reads as it did. -/
def wholeUptoRow : OpenClaim := { program := "ytghpmhllpaheiaagreatdoor", sum := "0cb53f190ed69997fe2e2dc0062785dd3819bf210798195de9c5351d8be9d15f", func := "scangen/scangenkeep.Whole", spec := "whole", inPlace := ["internal/reflectlite.ValueOf", "(internal/reflectlite.Value).Type", "(internal/reflectlite.Value).IsNil", "internal/reflectlite.TypeOf", "(internal/reflectlite.Value).Elem", "(internal/reflectlite.Value).Set"], unfollowed := true, recurses := true, named := ["unicode/utf8.first", "unicode/utf8.acceptRanges", "errors.errorType", "scangen/tables.widths"], plainKeys := false, apart := false, laid := [("unicode/utf8.acceptRanges", laid_unicode_utf8_acceptRanges), ("errors.errorType", laid_errors_errorType), ("scangen/tables.widths", laid_scangen_tables_widths), ("unicode/utf8.first", laid_unicode_utf8_first)], narrowed := true }
def WholeUptoSaid : Prop := wholeUptoRow.holds Tryz.pinned (OpenSpec.upto wholeSpec)

/-- 'scangenkeep.Back', WHERE WHAT IT READS IS OF BULK AT MOST 1048576: true; the input reads as it did. -/
def backUptoRow : OpenClaim := { program := "ytghpmhllpaheiaagreatdoor", sum := "0cb53f190ed69997fe2e2dc0062785dd3819bf210798195de9c5351d8be9d15f", func := "scangen/scangenkeep.Back", spec := "back", inPlace := ["internal/reflectlite.ValueOf", "(internal/reflectlite.Value).Type", "(internal/reflectlite.Value).IsNil", "internal/reflectlite.TypeOf", "(internal/reflectlite.Value).Elem", "(internal/reflectlite.Value).Set"], unfollowed := true, recurses := true, named := ["unicode/utf8.first", "unicode/utf8.acceptRanges", "errors.errorType", "scangen/tables.widths"], plainKeys := false, apart := false, laid := [("unicode/utf8.acceptRanges", laid_unicode_utf8_acceptRanges), ("errors.errorType", laid_errors_errorType), ("scangen/tables.widths", laid_scangen_tables_widths), ("unicode/utf8.first", laid_unicode_utf8_first)], narrowed := true }
def BackUptoSaid : Prop := backUptoRow.holds Tryz.pinned (OpenSpec.upto backSpec)

/-- 'scangenkeep.Pieces', WHERE WHAT IT READS IS OF BULK AT MOST 1048576: true; the input reads as it did. -/
def piecesUptoRow : OpenClaim := { program := "ytghpmhllpaheiaagreatdoor", sum := "0cb53f190ed69997fe2e2dc0062785dd3819bf210798195de9c5351d8be9d15f", func := "scangen/scangenkeep.Pieces", spec := "pieces", inPlace := ["internal/reflectlite.ValueOf", "(internal/reflectlite.Value).Type", "(internal/reflectlite.Value).IsNil", "internal/reflectlite.TypeOf", "(internal/reflectlite.Value).Elem", "(internal/reflectlite.Value).Set"], unfollowed := true, recurses := true, named := ["unicode/utf8.first", "unicode/utf8.acceptRanges", "errors.errorType", "scangen/tables.widths"], plainKeys := false, apart := false, laid := [("unicode/utf8.acceptRanges", laid_unicode_utf8_acceptRanges), ("errors.errorType", laid_errors_errorType), ("scangen/tables.widths", laid_scangen_tables_widths), ("unicode/utf8.first", laid_unicode_utf8_first)], narrowed := true }
def PiecesUptoSaid : Prop := piecesUptoRow.holds Tryz.pinned (OpenSpec.upto piecesSpec)

/-- 'scangenkeep.Letters', WHERE WHAT IT READS IS OF BULK AT MOST 1048576: true; the input reads as it did. -/
def lettersUptoRow : OpenClaim := { program := "ytghpmhllpaheiaagreatdoor", sum := "0cb53f190ed69997fe2e2dc0062785dd3819bf210798195de9c5351d8be9d15f", func := "scangen/scangenkeep.Letters", spec := "letters", inPlace := ["internal/reflectlite.ValueOf", "(internal/reflectlite.Value).Type", "(internal/reflectlite.Value).IsNil", "internal/reflectlite.TypeOf", "(internal/reflectlite.Value).Elem", "(internal/reflectlite.Value).Set"], unfollowed := true, recurses := true, named := ["unicode/utf8.first", "unicode/utf8.acceptRanges", "errors.errorType", "scangen/tables.widths"], plainKeys := false, apart := false, laid := [("unicode/utf8.acceptRanges", laid_unicode_utf8_acceptRanges), ("errors.errorType", laid_errors_errorType), ("scangen/tables.widths", laid_scangen_tables_widths), ("unicode/utf8.first", laid_unicode_utf8_first)], narrowed := true }
def LettersUptoSaid : Prop := lettersUptoRow.holds Tryz.pinned (OpenSpec.upto lettersSpec)

/-- 'scangenkeep.Cut', WHERE WHAT IT READS IS OF BULK AT MOST 1048576: true; the input reads as it did. -/
def cutUptoRow : OpenClaim := { program := "ytghpmhllpaheiaagreatdoor", sum := "0cb53f190ed69997fe2e2dc0062785dd3819bf210798195de9c5351d8be9d15f", func := "scangen/scangenkeep.Cut", spec := "cut", inPlace := ["internal/reflectlite.ValueOf", "(internal/reflectlite.Value).Type", "(internal/reflectlite.Value).IsNil", "internal/reflectlite.TypeOf", "(internal/reflectlite.Value).Elem", "(internal/reflectlite.Value).Set"], unfollowed := true, recurses := true, named := ["unicode/utf8.first", "unicode/utf8.acceptRanges", "errors.errorType", "scangen/tables.widths"], plainKeys := false, apart := false, laid := [("unicode/utf8.acceptRanges", laid_unicode_utf8_acceptRanges), ("errors.errorType", laid_errors_errorType), ("scangen/tables.widths", laid_scangen_tables_widths), ("unicode/utf8.first", laid_unicode_utf8_first)], narrowed := true }
def CutUptoSaid : Prop := cutUptoRow.holds Tryz.pinned (OpenSpec.upto cutSpec)

/-- 'scangenkeep.Near', WHERE WHAT IT READS IS OF BULK AT MOST 1048576: true; the input reads as it did. -/
def nearUptoRow : OpenClaim := { program := "ytghpmhllpaheiaagreatdoor", sum := "0cb53f190ed69997fe2e2dc0062785dd3819bf210798195de9c5351d8be9d15f", func := "scangen/scangenkeep.Near", spec := "near", inPlace := ["internal/reflectlite.ValueOf", "(internal/reflectlite.Value).Type", "(internal/reflectlite.Value).IsNil", "internal/reflectlite.TypeOf", "(internal/reflectlite.Value).Elem", "(internal/reflectlite.Value).Set"], unfollowed := true, recurses := true, named := ["unicode/utf8.first", "unicode/utf8.acceptRanges", "errors.errorType", "scangen/tables.widths"], plainKeys := false, apart := false, laid := [("unicode/utf8.acceptRanges", laid_unicode_utf8_acceptRanges), ("errors.errorType", laid_errors_errorType), ("scangen/tables.widths", laid_scangen_tables_widths), ("unicode/utf8.first", laid_unicode_utf8_first)], narrowed := true }
def NearUptoSaid : Prop := nearUptoRow.holds Tryz.pinned (OpenSpec.upto nearSpec)

/-- 'scangenlaw.Compiles', WHERE WHAT IT READS IS OF BULK AT MOST 1048576: true; the input reads as it did. -/
def compilesUptoRow : OpenClaim := { program := "ytghpmhllpaheiaagreatdoor", sum := "0cb53f190ed69997fe2e2dc0062785dd3819bf210798195de9c5351d8be9d15f", func := "scangen/scangenlaw.Compiles", spec := "compiles", inPlace := ["internal/reflectlite.ValueOf", "(internal/reflectlite.Value).Type", "(internal/reflectlite.Value).IsNil", "internal/reflectlite.TypeOf", "(internal/reflectlite.Value).Elem", "(internal/reflectlite.Value).Set"], unfollowed := true, recurses := true, named := ["unicode/utf8.first", "unicode/utf8.acceptRanges", "errors.errorType", "scangen/tables.widths"], plainKeys := false, apart := false, laid := [("unicode/utf8.acceptRanges", laid_unicode_utf8_acceptRanges), ("errors.errorType", laid_errors_errorType), ("scangen/tables.widths", laid_scangen_tables_widths), ("unicode/utf8.first", laid_unicode_utf8_first)], narrowed := true }
def CompilesUptoSaid : Prop := compilesUptoRow.holds Tryz.pinned (OpenSpec.upto compilesSpec)

/-- 'scangenlaw.Bounds', WHERE WHAT IT READS IS OF BULK AT MOST 1048576: true; the input reads as it did. -/
def boundsUptoRow : OpenClaim := { program := "ytghpmhllpaheiaagreatdoor", sum := "0cb53f190ed69997fe2e2dc0062785dd3819bf210798195de9c5351d8be9d15f", func := "scangen/scangenlaw.Bounds", spec := "bounds", inPlace := ["internal/reflectlite.ValueOf", "(internal/reflectlite.Value).Type", "(internal/reflectlite.Value).IsNil", "internal/reflectlite.TypeOf", "(internal/reflectlite.Value).Elem", "(internal/reflectlite.Value).Set"], unfollowed := true, recurses := true, named := ["unicode/utf8.first", "unicode/utf8.acceptRanges", "errors.errorType", "scangen/tables.widths"], plainKeys := false, apart := false, laid := [("unicode/utf8.acceptRanges", laid_unicode_utf8_acceptRanges), ("errors.errorType", laid_errors_errorType), ("scangen/tables.widths", laid_scangen_tables_widths), ("unicode/utf8.first", laid_unicode_utf8_first)], narrowed := true }
def BoundsUptoSaid : Prop := boundsUptoRow.holds Tryz.pinned (OpenSpec.upto boundsSpec)

/-- 'scangenlaw.Scans', WHERE WHAT IT READS IS OF BULK AT MOST 1048576: true; the input reads as it did. -/
def scansUptoRow : OpenClaim := { program := "ytghpmhllpaheiaagreatdoor", sum := "0cb53f190ed69997fe2e2dc0062785dd3819bf210798195de9c5351d8be9d15f", func := "scangen/scangenlaw.Scans", spec := "scans", inPlace := ["internal/reflectlite.ValueOf", "(internal/reflectlite.Value).Type", "(internal/reflectlite.Value).IsNil", "internal/reflectlite.TypeOf", "(internal/reflectlite.Value).Elem", "(internal/reflectlite.Value).Set"], unfollowed := true, recurses := true, named := ["unicode/utf8.first", "unicode/utf8.acceptRanges", "errors.errorType", "scangen/tables.widths"], plainKeys := false, apart := false, laid := [("unicode/utf8.acceptRanges", laid_unicode_utf8_acceptRanges), ("errors.errorType", laid_errors_errorType), ("scangen/tables.widths", laid_scangen_tables_widths), ("unicode/utf8.first", laid_unicode_utf8_first)], narrowed := true }
def ScansUptoSaid : Prop := scansUptoRow.holds Tryz.pinned (OpenSpec.upto scansSpec)

end Rows
end Go.Proofs.YtghpmhllpaheiaaGreatDoor
