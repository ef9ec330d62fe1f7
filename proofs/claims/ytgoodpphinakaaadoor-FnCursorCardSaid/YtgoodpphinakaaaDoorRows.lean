/-
  NARROWER THAN 'FOR EVERY INPUT', by the rows' own cells (each row's printed sentence says how): FnExactKnown: laid · FnExactNameOk: laid · FnExactKeyOf: laid · FnExactAlike: laid · FnExactHashOf: laid · FnAlike: laid · FnExactDirOk: laid · FnExactNext: laid · FnExactLook: laid · FnScan: laid · FnDir: laid · FnCursor: laid.
  DERIVED. THE GIVEN ROWS OF THIS SEAT. 12 by the template 'for every input the law returns true; each argument reads behind the call as it read before'; 0 by the template 'total and deterministic' (their statements: YtgoodpphinakaaaDoorTotals.lean).
  GIVEN WITH THE SEED: the statements are not yours to turn. If you find one false, say at which input.
  Laid BY PROGRAM, IN A SANDBOX (cutbox-rows.mjs): the forced cells as the released guide's own fill.sh prints them over the translation d6287f221d326059… (all of the seat's roots in one cut). By AI agents, Wed Nov 11 2026. No macro, syntax, notation, axiom, sorry.
-/
import Derived.Test.YtgoodpphinakaaaDoorChecked
import GoSem.Claim
import GoSem.ClaimJoined
import GoSem.ClaimMapViews
import Derived.JoinedTies
import Derived.KernelRfl
namespace Go.Proofs.YtgoodpphinakaaaDoor
/- THE CELL 'sum', in the pinned program and in every row, IS THE sha256 OF THE DUMP (.gsa) THAT YtgoodpphinakaaaDoorProg.lean LOADS. Nothing in Lean hashes anything: it is a label: what it is worth is what the hold of that sum in a sandbox is worth. -/
noncomputable def Tryd.pinned : Pinned := { name := "ytgoodpphinakaaadoor", sum := "d6287f221d326059583dcc7974c02c16eb5951b81630f4d34f12501f01402949", checked := Tryd.checked }
namespace Rows
def none {H : Type} : Left H := { results := [], args := [] }

/- WHAT THE LISTED PACKAGE-LEVEL VARIABLES READ AS WHEN THE CALL BEGINS. Each datum BY PROGRAM (the guide's laid-datum.mjs) off the statement by which the dump's own 'gosem.cut.vars' lays the variable. In a bare row this is a premise. The card (YtgoodpphinakaaaDoorCards.lean) ties it to the program's text. -/
def laid_loop_example_g00773_impl_knownParts {H : Type} : DataW H := .agg [.lit (.int .i64 32), .lit (.int .i64 46), .lit (.int .i64 48), .lit (.int .i64 126), .lit (.int .i64 161), .lit (.int .i64 255), .lit (.int .i64 469), .lit (.int .i64 470), .lit (.int .i64 768), .lit (.int .i64 772), .lit (.int .i64 776), .lit (.int .i64 776), .lit (.int .i64 778), .lit (.int .i64 778), .lit (.int .i64 803), .lit (.int .i64 803), .lit (.int .i64 807), .lit (.int .i64 807), .lit (.int .i64 902), .lit (.int .i64 902), .lit (.int .i64 904), .lit (.int .i64 906), .lit (.int .i64 908), .lit (.int .i64 908), .lit (.int .i64 910), .lit (.int .i64 911), .lit (.int .i64 913), .lit (.int .i64 929), .lit (.int .i64 931), .lit (.int .i64 937), .lit (.int .i64 940), .lit (.int .i64 943), .lit (.int .i64 945), .lit (.int .i64 969), .lit (.int .i64 972), .lit (.int .i64 974), .lit (.int .i64 1040), .lit (.int .i64 1103), .lit (.int .i64 4352), .lit (.int .i64 4370), .lit (.int .i64 4449), .lit (.int .i64 4469), .lit (.int .i64 4520), .lit (.int .i64 4546), .lit (.int .i64 7840), .lit (.int .i64 7841), .lit (.int .i64 7852), .lit (.int .i64 7853), .lit (.int .i64 8486), .lit (.int .i64 8486), .lit (.int .i64 8491), .lit (.int .i64 8491), .lit (.int .i64 44032), .lit (.int .i64 55203)]

/-- 'laws.FnExactKnown': WHATEVER THE INPUT: true; the input reads as it did. -/
def fnExactKnownSpec : ChangeSpec := { name := "fnExactKnown", vars := ["loop.example/g00773/impl.knownParts"], fn := fun _ => fun
  | [d, g1] => { results := [.lit (.bool true)], args := [d], vars := [g1] }
  | _ => none }
def fnExactKnownRow : OpenClaim := { program := "ytgoodpphinakaaadoor", sum := "d6287f221d326059583dcc7974c02c16eb5951b81630f4d34f12501f01402949", func := "loop.example/g00773/laws.FnExactKnown", spec := "fnExactKnown", named := ["loop.example/g00773/impl.knownParts"], apart := false, laid := [("loop.example/g00773/impl.knownParts", laid_loop_example_g00773_impl_knownParts)] }
def FnExactKnownSaid : Prop := fnExactKnownRow.holds Tryd.pinned (OpenSpec.ofChange fnExactKnownSpec)

/-- ITS FALSE NEIGHBOUR: 'it returns false'. Refute it at one input. -/
def fnExactKnownWrong : ChangeSpec := { name := "fnExactKnown", vars := ["loop.example/g00773/impl.knownParts"], fn := fun _ => fun
  | [d, g1] => { results := [.lit (.bool false)], args := [d], vars := [g1] }
  | _ => none }
def FnExactKnownWrongFalsely : Prop := fnExactKnownRow.holds Tryd.pinned (OpenSpec.ofChange fnExactKnownWrong)

/-- 'laws.FnExactNameOk': WHATEVER THE INPUT: true; the input reads as it did. -/
def fnExactNameOkSpec : ChangeSpec := { name := "fnExactNameOk", vars := ["loop.example/g00773/impl.knownParts"], fn := fun _ => fun
  | [d, g1] => { results := [.lit (.bool true)], args := [d], vars := [g1] }
  | _ => none }
def fnExactNameOkRow : OpenClaim := { program := "ytgoodpphinakaaadoor", sum := "d6287f221d326059583dcc7974c02c16eb5951b81630f4d34f12501f01402949", func := "loop.example/g00773/laws.FnExactNameOk", spec := "fnExactNameOk", named := ["loop.example/g00773/impl.knownParts"], apart := false, laid := [("loop.example/g00773/impl.knownParts", laid_loop_example_g00773_impl_knownParts)] }
def FnExactNameOkSaid : Prop := fnExactNameOkRow.holds Tryd.pinned (OpenSpec.ofChange fnExactNameOkSpec)

/-- ITS FALSE NEIGHBOUR: 'it returns false'. Refute it at one input. -/
def fnExactNameOkWrong : ChangeSpec := { name := "fnExactNameOk", vars := ["loop.example/g00773/impl.knownParts"], fn := fun _ => fun
  | [d, g1] => { results := [.lit (.bool false)], args := [d], vars := [g1] }
  | _ => none }
def FnExactNameOkWrongFalsely : Prop := fnExactNameOkRow.holds Tryd.pinned (OpenSpec.ofChange fnExactNameOkWrong)

/-- 'laws.FnExactKeyOf': WHATEVER THE INPUT: true; the input reads as it did. -/
def fnExactKeyOfSpec : ChangeSpec := { name := "fnExactKeyOf", vars := ["loop.example/g00773/impl.knownParts"], fn := fun _ => fun
  | [d, g1] => { results := [.lit (.bool true)], args := [d], vars := [g1] }
  | _ => none }
def fnExactKeyOfRow : OpenClaim := { program := "ytgoodpphinakaaadoor", sum := "d6287f221d326059583dcc7974c02c16eb5951b81630f4d34f12501f01402949", func := "loop.example/g00773/laws.FnExactKeyOf", spec := "fnExactKeyOf", recurses := true, named := ["loop.example/g00773/impl.knownParts"], apart := false, laid := [("loop.example/g00773/impl.knownParts", laid_loop_example_g00773_impl_knownParts)] }
def FnExactKeyOfSaid : Prop := fnExactKeyOfRow.holds Tryd.pinned (OpenSpec.ofChange fnExactKeyOfSpec)

/-- ITS FALSE NEIGHBOUR: 'it returns false'. Refute it at one input. -/
def fnExactKeyOfWrong : ChangeSpec := { name := "fnExactKeyOf", vars := ["loop.example/g00773/impl.knownParts"], fn := fun _ => fun
  | [d, g1] => { results := [.lit (.bool false)], args := [d], vars := [g1] }
  | _ => none }
def FnExactKeyOfWrongFalsely : Prop := fnExactKeyOfRow.holds Tryd.pinned (OpenSpec.ofChange fnExactKeyOfWrong)

/-- 'laws.FnExactAlike': WHATEVER THE INPUT: true; the input reads as it did. -/
def fnExactAlikeSpec : ChangeSpec := { name := "fnExactAlike", vars := ["loop.example/g00773/impl.knownParts"], fn := fun _ => fun
  | [d1, d2, g1] => { results := [.lit (.bool true)], args := [d1, d2], vars := [g1] }
  | _ => none }
def fnExactAlikeRow : OpenClaim := { program := "ytgoodpphinakaaadoor", sum := "d6287f221d326059583dcc7974c02c16eb5951b81630f4d34f12501f01402949", func := "loop.example/g00773/laws.FnExactAlike", spec := "fnExactAlike", recurses := true, named := ["loop.example/g00773/impl.knownParts"], apart := false, laid := [("loop.example/g00773/impl.knownParts", laid_loop_example_g00773_impl_knownParts)] }
def FnExactAlikeSaid : Prop := fnExactAlikeRow.holds Tryd.pinned (OpenSpec.ofChange fnExactAlikeSpec)

/-- ITS FALSE NEIGHBOUR: 'it returns false'. Refute it at one input. -/
def fnExactAlikeWrong : ChangeSpec := { name := "fnExactAlike", vars := ["loop.example/g00773/impl.knownParts"], fn := fun _ => fun
  | [d1, d2, g1] => { results := [.lit (.bool false)], args := [d1, d2], vars := [g1] }
  | _ => none }
def FnExactAlikeWrongFalsely : Prop := fnExactAlikeRow.holds Tryd.pinned (OpenSpec.ofChange fnExactAlikeWrong)

/-- 'laws.FnExactHashOf': WHATEVER THE INPUT: true; the input reads as it did. -/
def fnExactHashOfSpec : ChangeSpec := { name := "fnExactHashOf", vars := ["loop.example/g00773/impl.knownParts"], fn := fun _ => fun
  | [d, g1] => { results := [.lit (.bool true)], args := [d], vars := [g1] }
  | _ => none }
def fnExactHashOfRow : OpenClaim := { program := "ytgoodpphinakaaadoor", sum := "d6287f221d326059583dcc7974c02c16eb5951b81630f4d34f12501f01402949", func := "loop.example/g00773/laws.FnExactHashOf", spec := "fnExactHashOf", recurses := true, named := ["loop.example/g00773/impl.knownParts"], apart := false, laid := [("loop.example/g00773/impl.knownParts", laid_loop_example_g00773_impl_knownParts)] }
def FnExactHashOfSaid : Prop := fnExactHashOfRow.holds Tryd.pinned (OpenSpec.ofChange fnExactHashOfSpec)

/-- ITS FALSE NEIGHBOUR: 'it returns false'. Refute it at one input. -/
def fnExactHashOfWrong : ChangeSpec := { name := "fnExactHashOf", vars := ["loop.example/g00773/impl.knownParts"], fn := fun _ => fun
  | [d, g1] => { results := [.lit (.bool false)], args := [d], vars := [g1] }
  | _ => none }
def FnExactHashOfWrongFalsely : Prop := fnExactHashOfRow.holds Tryd.pinned (OpenSpec.ofChange fnExactHashOfWrong)

/-- 'laws.FnAlike': WHATEVER THE INPUT: true; the input reads as it did. -/
def fnAlikeSpec : ChangeSpec := { name := "fnAlike", vars := ["loop.example/g00773/impl.knownParts"], fn := fun _ => fun
  | [d, g1] => { results := [.lit (.bool true)], args := [d], vars := [g1] }
  | _ => none }
def fnAlikeRow : OpenClaim := { program := "ytgoodpphinakaaadoor", sum := "d6287f221d326059583dcc7974c02c16eb5951b81630f4d34f12501f01402949", func := "loop.example/g00773/laws.FnAlike", spec := "fnAlike", recurses := true, named := ["loop.example/g00773/impl.knownParts"], apart := false, laid := [("loop.example/g00773/impl.knownParts", laid_loop_example_g00773_impl_knownParts)] }
def FnAlikeSaid : Prop := fnAlikeRow.holds Tryd.pinned (OpenSpec.ofChange fnAlikeSpec)

/-- ITS FALSE NEIGHBOUR: 'it returns false'. Refute it at one input. -/
def fnAlikeWrong : ChangeSpec := { name := "fnAlike", vars := ["loop.example/g00773/impl.knownParts"], fn := fun _ => fun
  | [d, g1] => { results := [.lit (.bool false)], args := [d], vars := [g1] }
  | _ => none }
def FnAlikeWrongFalsely : Prop := fnAlikeRow.holds Tryd.pinned (OpenSpec.ofChange fnAlikeWrong)

/-- 'laws.FnExactDirOk': WHATEVER THE INPUT: true; the input reads as it did. -/
def fnExactDirOkSpec : ChangeSpec := { name := "fnExactDirOk", vars := ["loop.example/g00773/impl.knownParts"], fn := fun _ => fun
  | [d, g1] => { results := [.lit (.bool true)], args := [d], vars := [g1] }
  | _ => none }
def fnExactDirOkRow : OpenClaim := { program := "ytgoodpphinakaaadoor", sum := "d6287f221d326059583dcc7974c02c16eb5951b81630f4d34f12501f01402949", func := "loop.example/g00773/laws.FnExactDirOk", spec := "fnExactDirOk", recurses := true, named := ["loop.example/g00773/impl.knownParts"], apart := false, laid := [("loop.example/g00773/impl.knownParts", laid_loop_example_g00773_impl_knownParts)] }
def FnExactDirOkSaid : Prop := fnExactDirOkRow.holds Tryd.pinned (OpenSpec.ofChange fnExactDirOkSpec)

/-- ITS FALSE NEIGHBOUR: 'it returns false'. Refute it at one input. -/
def fnExactDirOkWrong : ChangeSpec := { name := "fnExactDirOk", vars := ["loop.example/g00773/impl.knownParts"], fn := fun _ => fun
  | [d, g1] => { results := [.lit (.bool false)], args := [d], vars := [g1] }
  | _ => none }
def FnExactDirOkWrongFalsely : Prop := fnExactDirOkRow.holds Tryd.pinned (OpenSpec.ofChange fnExactDirOkWrong)

/-- 'laws.FnExactNext': WHATEVER THE INPUT: true; the input reads as it did. -/
def fnExactNextSpec : ChangeSpec := { name := "fnExactNext", vars := ["loop.example/g00773/impl.knownParts"], fn := fun _ => fun
  | [d1, d2, d3, g1] => { results := [.lit (.bool true)], args := [d1, d2, d3], vars := [g1] }
  | _ => none }
def fnExactNextRow : OpenClaim := { program := "ytgoodpphinakaaadoor", sum := "d6287f221d326059583dcc7974c02c16eb5951b81630f4d34f12501f01402949", func := "loop.example/g00773/laws.FnExactNext", spec := "fnExactNext", recurses := true, named := ["loop.example/g00773/impl.knownParts"], apart := false, laid := [("loop.example/g00773/impl.knownParts", laid_loop_example_g00773_impl_knownParts)] }
def FnExactNextSaid : Prop := fnExactNextRow.holds Tryd.pinned (OpenSpec.ofChange fnExactNextSpec)

/-- ITS FALSE NEIGHBOUR: 'it returns false'. Refute it at one input. -/
def fnExactNextWrong : ChangeSpec := { name := "fnExactNext", vars := ["loop.example/g00773/impl.knownParts"], fn := fun _ => fun
  | [d1, d2, d3, g1] => { results := [.lit (.bool false)], args := [d1, d2, d3], vars := [g1] }
  | _ => none }
def FnExactNextWrongFalsely : Prop := fnExactNextRow.holds Tryd.pinned (OpenSpec.ofChange fnExactNextWrong)

/-- 'laws.FnExactLook': WHATEVER THE INPUT: true; the input reads as it did. -/
def fnExactLookSpec : ChangeSpec := { name := "fnExactLook", vars := ["loop.example/g00773/impl.knownParts"], fn := fun _ => fun
  | [d1, d2, g1] => { results := [.lit (.bool true)], args := [d1, d2], vars := [g1] }
  | _ => none }
def fnExactLookRow : OpenClaim := { program := "ytgoodpphinakaaadoor", sum := "d6287f221d326059583dcc7974c02c16eb5951b81630f4d34f12501f01402949", func := "loop.example/g00773/laws.FnExactLook", spec := "fnExactLook", unfollowed := true, recurses := true, named := ["loop.example/g00773/impl.knownParts"], apart := false, laid := [("loop.example/g00773/impl.knownParts", laid_loop_example_g00773_impl_knownParts)] }
def FnExactLookSaid : Prop := fnExactLookRow.holds Tryd.pinned (OpenSpec.ofChange fnExactLookSpec)

/-- ITS FALSE NEIGHBOUR: 'it returns false'. Refute it at one input. -/
def fnExactLookWrong : ChangeSpec := { name := "fnExactLook", vars := ["loop.example/g00773/impl.knownParts"], fn := fun _ => fun
  | [d1, d2, g1] => { results := [.lit (.bool false)], args := [d1, d2], vars := [g1] }
  | _ => none }
def FnExactLookWrongFalsely : Prop := fnExactLookRow.holds Tryd.pinned (OpenSpec.ofChange fnExactLookWrong)

/-- 'laws.FnScan': WHATEVER THE INPUT: true; the input reads as it did. -/
def fnScanSpec : ChangeSpec := { name := "fnScan", vars := ["loop.example/g00773/impl.knownParts"], fn := fun _ => fun
  | [d, g1] => { results := [.lit (.bool true)], args := [d], vars := [g1] }
  | _ => none }
def fnScanRow : OpenClaim := { program := "ytgoodpphinakaaadoor", sum := "d6287f221d326059583dcc7974c02c16eb5951b81630f4d34f12501f01402949", func := "loop.example/g00773/laws.FnScan", spec := "fnScan", recurses := true, named := ["loop.example/g00773/impl.knownParts"], apart := false, laid := [("loop.example/g00773/impl.knownParts", laid_loop_example_g00773_impl_knownParts)] }
def FnScanSaid : Prop := fnScanRow.holds Tryd.pinned (OpenSpec.ofChange fnScanSpec)

/-- ITS FALSE NEIGHBOUR: 'it returns false'. Refute it at one input. -/
def fnScanWrong : ChangeSpec := { name := "fnScan", vars := ["loop.example/g00773/impl.knownParts"], fn := fun _ => fun
  | [d, g1] => { results := [.lit (.bool false)], args := [d], vars := [g1] }
  | _ => none }
def FnScanWrongFalsely : Prop := fnScanRow.holds Tryd.pinned (OpenSpec.ofChange fnScanWrong)

/-- 'laws.FnDir': WHATEVER THE INPUT: true; the input reads as it did. -/
def fnDirSpec : ChangeSpec := { name := "fnDir", vars := ["loop.example/g00773/impl.knownParts"], fn := fun _ => fun
  | [d, g1] => { results := [.lit (.bool true)], args := [d], vars := [g1] }
  | _ => none }
def fnDirRow : OpenClaim := { program := "ytgoodpphinakaaadoor", sum := "d6287f221d326059583dcc7974c02c16eb5951b81630f4d34f12501f01402949", func := "loop.example/g00773/laws.FnDir", spec := "fnDir", inPlace := ["slices.overlaps[loop.example/g00773/impl.Ent]"], unfollowed := true, recurses := true, named := ["loop.example/g00773/impl.knownParts"], apart := false, laid := [("loop.example/g00773/impl.knownParts", laid_loop_example_g00773_impl_knownParts)] }
def FnDirSaid : Prop := fnDirRow.holds Tryd.pinned (OpenSpec.ofChange fnDirSpec)

/-- ITS FALSE NEIGHBOUR: 'it returns false'. Refute it at one input. -/
def fnDirWrong : ChangeSpec := { name := "fnDir", vars := ["loop.example/g00773/impl.knownParts"], fn := fun _ => fun
  | [d, g1] => { results := [.lit (.bool false)], args := [d], vars := [g1] }
  | _ => none }
def FnDirWrongFalsely : Prop := fnDirRow.holds Tryd.pinned (OpenSpec.ofChange fnDirWrong)

/-- 'laws.FnCursor': WHATEVER THE INPUT: true; the input reads as it did. -/
def fnCursorSpec : ChangeSpec := { name := "fnCursor", vars := ["loop.example/g00773/impl.knownParts"], fn := fun _ => fun
  | [d, g1] => { results := [.lit (.bool true)], args := [d], vars := [g1] }
  | _ => none }
def fnCursorRow : OpenClaim := { program := "ytgoodpphinakaaadoor", sum := "d6287f221d326059583dcc7974c02c16eb5951b81630f4d34f12501f01402949", func := "loop.example/g00773/laws.FnCursor", spec := "fnCursor", inPlace := ["slices.overlaps[loop.example/g00773/impl.Ent]"], unfollowed := true, recurses := true, named := ["loop.example/g00773/impl.knownParts"], apart := false, laid := [("loop.example/g00773/impl.knownParts", laid_loop_example_g00773_impl_knownParts)] }
def FnCursorSaid : Prop := fnCursorRow.holds Tryd.pinned (OpenSpec.ofChange fnCursorSpec)

/-- ITS FALSE NEIGHBOUR: 'it returns false'. Refute it at one input. -/
def fnCursorWrong : ChangeSpec := { name := "fnCursor", vars := ["loop.example/g00773/impl.knownParts"], fn := fun _ => fun
  | [d, g1] => { results := [.lit (.bool false)], args := [d], vars := [g1] }
  | _ => none }
def FnCursorWrongFalsely : Prop := fnCursorRow.holds Tryd.pinned (OpenSpec.ofChange fnCursorWrong)

/- THE SECOND FORM. 'bulk': how many values and letters a reading holds, each counted each time it is reached (what is shared counts as often as it is met; a slice's spare places count too). A statement '..UptoSaid' is the law's where the arguments, and the package variables that the reading takes, are together of bulk at most 1048576: NARROWER than '..Said'. Prove '..Said' where nothing that the law and all that it calls make is longer than what came in: it says more and counts as full. Else prove '..UptoSaid'. A law counts once. -/
mutual
def uptoBulk {H : Type} : DataW H → Nat
  | .lit (.string bytes) => bytes.length + 1
  | .lit _ => 1
  | .nil => 1
  | .ptr d => uptoBulk d + 1
  | .slice elems spare => uptoBulkAll elems + uptoBulkAll spare + 1
  | .agg parts => uptoBulkAll parts + 1
  | .iface _ d => uptoBulk d + 1
  | .map entries => uptoBulkEntries entries + 1
  | .held _ => 1
def uptoBulkAll {H : Type} : List (DataW H) → Nat
  | [] => 0
  | d :: r => uptoBulk d + uptoBulkAll r
def uptoBulkEntries {H : Type} : List (Lit × DataW H) → Nat
  | [] => 0
  | x :: r => uptoBulkEntry x + uptoBulkEntries r
def uptoBulkEntry {H : Type} : Lit × DataW H → Nat
  | (.string bytes, d) => bytes.length + uptoBulk d + 1
  | (_, d) => uptoBulk d + 1
 end
def uptoSmall : (H : Type) → List (DataW H) → Bool := fun _ ds => decide (uptoBulkAll ds ≤ 1048576)
def OpenSpec.upto (s : _root_.Go.ChangeSpec) : _root_.Go.OpenSpec := { _root_.Go.OpenSpec.ofChange s with cond := some uptoSmall }

/-- 'laws.FnExactKnown', WHERE WHAT IT READS IS OF BULK AT MOST 1048576: true; the input reads as it did. -/
def fnExactKnownUptoRow : OpenClaim := { program := "ytgoodpphinakaaadoor", sum := "d6287f221d326059583dcc7974c02c16eb5951b81630f4d34f12501f01402949", func := "loop.example/g00773/laws.FnExactKnown", spec := "fnExactKnown", named := ["loop.example/g00773/impl.knownParts"], apart := false, laid := [("loop.example/g00773/impl.knownParts", laid_loop_example_g00773_impl_knownParts)], narrowed := true }
def FnExactKnownUptoSaid : Prop := fnExactKnownUptoRow.holds Tryd.pinned (OpenSpec.upto fnExactKnownSpec)

/-- 'laws.FnExactNameOk', WHERE WHAT IT READS IS OF BULK AT MOST 1048576: true; the input reads as it did. -/
def fnExactNameOkUptoRow : OpenClaim := { program := "ytgoodpphinakaaadoor", sum := "d6287f221d326059583dcc7974c02c16eb5951b81630f4d34f12501f01402949", func := "loop.example/g00773/laws.FnExactNameOk", spec := "fnExactNameOk", named := ["loop.example/g00773/impl.knownParts"], apart := false, laid := [("loop.example/g00773/impl.knownParts", laid_loop_example_g00773_impl_knownParts)], narrowed := true }
def FnExactNameOkUptoSaid : Prop := fnExactNameOkUptoRow.holds Tryd.pinned (OpenSpec.upto fnExactNameOkSpec)

/-- 'laws.FnExactKeyOf', WHERE WHAT IT READS IS OF BULK AT MOST 1048576: true; the input reads as it did. -/
def fnExactKeyOfUptoRow : OpenClaim := { program := "ytgoodpphinakaaadoor", sum := "d6287f221d326059583dcc7974c02c16eb5951b81630f4d34f12501f01402949", func := "loop.example/g00773/laws.FnExactKeyOf", spec := "fnExactKeyOf", recurses := true, named := ["loop.example/g00773/impl.knownParts"], apart := false, laid := [("loop.example/g00773/impl.knownParts", laid_loop_example_g00773_impl_knownParts)], narrowed := true }
def FnExactKeyOfUptoSaid : Prop := fnExactKeyOfUptoRow.holds Tryd.pinned (OpenSpec.upto fnExactKeyOfSpec)

/-- 'laws.FnExactAlike', WHERE WHAT IT READS IS OF BULK AT MOST 1048576: true; the input reads as it did. -/
def fnExactAlikeUptoRow : OpenClaim := { program := "ytgoodpphinakaaadoor", sum := "d6287f221d326059583dcc7974c02c16eb5951b81630f4d34f12501f01402949", func := "loop.example/g00773/laws.FnExactAlike", spec := "fnExactAlike", recurses := true, named := ["loop.example/g00773/impl.knownParts"], apart := false, laid := [("loop.example/g00773/impl.knownParts", laid_loop_example_g00773_impl_knownParts)], narrowed := true }
def FnExactAlikeUptoSaid : Prop := fnExactAlikeUptoRow.holds Tryd.pinned (OpenSpec.upto fnExactAlikeSpec)

/-- 'laws.FnExactHashOf', WHERE WHAT IT READS IS OF BULK AT MOST 1048576: true; the input reads as it did. -/
def fnExactHashOfUptoRow : OpenClaim := { program := "ytgoodpphinakaaadoor", sum := "d6287f221d326059583dcc7974c02c16eb5951b81630f4d34f12501f01402949", func := "loop.example/g00773/laws.FnExactHashOf", spec := "fnExactHashOf", recurses := true, named := ["loop.example/g00773/impl.knownParts"], apart := false, laid := [("loop.example/g00773/impl.knownParts", laid_loop_example_g00773_impl_knownParts)], narrowed := true }
def FnExactHashOfUptoSaid : Prop := fnExactHashOfUptoRow.holds Tryd.pinned (OpenSpec.upto fnExactHashOfSpec)

/-- 'laws.FnAlike', WHERE WHAT IT READS IS OF BULK AT MOST 1048576: true; the input reads as it did. -/
def fnAlikeUptoRow : OpenClaim := { program := "ytgoodpphinakaaadoor", sum := "d6287f221d326059583dcc7974c02c16eb5951b81630f4d34f12501f01402949", func := "loop.example/g00773/laws.FnAlike", spec := "fnAlike", recurses := true, named := ["loop.example/g00773/impl.knownParts"], apart := false, laid := [("loop.example/g00773/impl.knownParts", laid_loop_example_g00773_impl_knownParts)], narrowed := true }
def FnAlikeUptoSaid : Prop := fnAlikeUptoRow.holds Tryd.pinned (OpenSpec.upto fnAlikeSpec)

/-- 'laws.FnExactDirOk', WHERE WHAT IT READS IS OF BULK AT MOST 1048576: true; the input reads as it did. -/
def fnExactDirOkUptoRow : OpenClaim := { program := "ytgoodpphinakaaadoor", sum := "d6287f221d326059583dcc7974c02c16eb5951b81630f4d34f12501f01402949", func := "loop.example/g00773/laws.FnExactDirOk", spec := "fnExactDirOk", recurses := true, named := ["loop.example/g00773/impl.knownParts"], apart := false, laid := [("loop.example/g00773/impl.knownParts", laid_loop_example_g00773_impl_knownParts)], narrowed := true }
def FnExactDirOkUptoSaid : Prop := fnExactDirOkUptoRow.holds Tryd.pinned (OpenSpec.upto fnExactDirOkSpec)

/-- 'laws.FnExactNext', WHERE WHAT IT READS IS OF BULK AT MOST 1048576: true; the input reads as it did. -/
def fnExactNextUptoRow : OpenClaim := { program := "ytgoodpphinakaaadoor", sum := "d6287f221d326059583dcc7974c02c16eb5951b81630f4d34f12501f01402949", func := "loop.example/g00773/laws.FnExactNext", spec := "fnExactNext", recurses := true, named := ["loop.example/g00773/impl.knownParts"], apart := false, laid := [("loop.example/g00773/impl.knownParts", laid_loop_example_g00773_impl_knownParts)], narrowed := true }
def FnExactNextUptoSaid : Prop := fnExactNextUptoRow.holds Tryd.pinned (OpenSpec.upto fnExactNextSpec)

/-- 'laws.FnExactLook', WHERE WHAT IT READS IS OF BULK AT MOST 1048576: true; the input reads as it did. -/
def fnExactLookUptoRow : OpenClaim := { program := "ytgoodpphinakaaadoor", sum := "d6287f221d326059583dcc7974c02c16eb5951b81630f4d34f12501f01402949", func := "loop.example/g00773/laws.FnExactLook", spec := "fnExactLook", unfollowed := true, recurses := true, named := ["loop.example/g00773/impl.knownParts"], apart := false, laid := [("loop.example/g00773/impl.knownParts", laid_loop_example_g00773_impl_knownParts)], narrowed := true }
def FnExactLookUptoSaid : Prop := fnExactLookUptoRow.holds Tryd.pinned (OpenSpec.upto fnExactLookSpec)

/-- 'laws.FnScan', WHERE WHAT IT READS IS OF BULK AT MOST 1048576: true; the input reads as it did. -/
def fnScanUptoRow : OpenClaim := { program := "ytgoodpphinakaaadoor", sum := "d6287f221d326059583dcc7974c02c16eb5951b81630f4d34f12501f01402949", func := "loop.example/g00773/laws.FnScan", spec := "fnScan", recurses := true, named := ["loop.example/g00773/impl.knownParts"], apart := false, laid := [("loop.example/g00773/impl.knownParts", laid_loop_example_g00773_impl_knownParts)], narrowed := true }
def FnScanUptoSaid : Prop := fnScanUptoRow.holds Tryd.pinned (OpenSpec.upto fnScanSpec)

/-- 'laws.FnDir', WHERE WHAT IT READS IS OF BULK AT MOST 1048576: true; the input reads as it did. -/
def fnDirUptoRow : OpenClaim := { program := "ytgoodpphinakaaadoor", sum := "d6287f221d326059583dcc7974c02c16eb5951b81630f4d34f12501f01402949", func := "loop.example/g00773/laws.FnDir", spec := "fnDir", inPlace := ["slices.overlaps[loop.example/g00773/impl.Ent]"], unfollowed := true, recurses := true, named := ["loop.example/g00773/impl.knownParts"], apart := false, laid := [("loop.example/g00773/impl.knownParts", laid_loop_example_g00773_impl_knownParts)], narrowed := true }
def FnDirUptoSaid : Prop := fnDirUptoRow.holds Tryd.pinned (OpenSpec.upto fnDirSpec)

/-- 'laws.FnCursor', WHERE WHAT IT READS IS OF BULK AT MOST 1048576: true; the input reads as it did. -/
def fnCursorUptoRow : OpenClaim := { program := "ytgoodpphinakaaadoor", sum := "d6287f221d326059583dcc7974c02c16eb5951b81630f4d34f12501f01402949", func := "loop.example/g00773/laws.FnCursor", spec := "fnCursor", inPlace := ["slices.overlaps[loop.example/g00773/impl.Ent]"], unfollowed := true, recurses := true, named := ["loop.example/g00773/impl.knownParts"], apart := false, laid := [("loop.example/g00773/impl.knownParts", laid_loop_example_g00773_impl_knownParts)], narrowed := true }
def FnCursorUptoSaid : Prop := fnCursorUptoRow.holds Tryd.pinned (OpenSpec.upto fnCursorSpec)

end Rows
end Go.Proofs.YtgoodpphinakaaaDoor
