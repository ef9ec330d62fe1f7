/-
  No cell of these rows narrows 'for every input' (looked for: loops, veiled, ifaces, maps, wideKeys, modest, calm, conditions, laid).
  DERIVED. THE GIVEN ROWS OF THIS SEAT. 12 by the template 'for every input the law returns true; each argument reads behind the call as it read before'; 0 by the template 'total and deterministic' (their statements: YtbokgbbdjcpgbaaTotals.lean).
  GIVEN WITH THE SEED: the statements are not yours to turn. If you find one false, say at which input.
  Laid BY PROGRAM, IN A SANDBOX (cutbox-rows.mjs): the forced cells as the released guide's own fill.sh prints them over the translation 89dc1471b025682d… (all of the seat's roots in one cut). By AI agents, Wed Nov 11 2026. No macro, syntax, notation, axiom, sorry.
-/
import Derived.Test.YtbokgbbdjcpgbaaChecked
import GoSem.Claim
import GoSem.ClaimJoined
import GoSem.ClaimMapViews
import Derived.JoinedTies
import Derived.KernelRfl
namespace Go.Proofs.Ytbokgbbdjcpgbaa
/- THE CELL 'sum', in the pinned program and in every row, IS THE sha256 OF THE DUMP (.gsa) THAT YtbokgbbdjcpgbaaProg.lean LOADS. Nothing in Lean hashes anything: it is a label: what it is worth is what the hold of that sum in a sandbox is worth. -/
noncomputable def Try.pinned : Pinned := { name := "ytbokgbbdjcpgbaa", sum := "89dc1471b025682df1dd1f6d5bc6943372c0a217fdf3c21f4e65b1cb0514625c", checked := Try.checked }
namespace Rows
def none {H : Type} : Left H := { results := [], args := [] }

/-- 'laws.FnExactCallOk': WHATEVER THE INPUT: true; the input reads as it did. -/
def fnExactCallOkSpec : ChangeSpec := { name := "fnExactCallOk", fn := fun _ => fun
  | [d] => { results := [.lit (.bool true)], args := [d] }
  | _ => none }
def fnExactCallOkRow : OpenClaim := { program := "ytbokgbbdjcpgbaa", sum := "89dc1471b025682df1dd1f6d5bc6943372c0a217fdf3c21f4e65b1cb0514625c", func := "loop.example/g00773/laws.FnExactCallOk", spec := "fnExactCallOk", apart := false }
def FnExactCallOkSaid : Prop := fnExactCallOkRow.holds Try.pinned (OpenSpec.ofChange fnExactCallOkSpec)

/-- ITS FALSE NEIGHBOUR: 'it returns false'. Refute it at one input. -/
def fnExactCallOkWrong : ChangeSpec := { name := "fnExactCallOk", fn := fun _ => fun
  | [d] => { results := [.lit (.bool false)], args := [d] }
  | _ => none }
def FnExactCallOkWrongFalsely : Prop := fnExactCallOkRow.holds Try.pinned (OpenSpec.ofChange fnExactCallOkWrong)

/-- 'laws.FnExactNewDev': WHATEVER THE INPUT: true; the input reads as it did. -/
def fnExactNewDevSpec : ChangeSpec := { name := "fnExactNewDev", fn := fun _ => fun
  | [] => { results := [.lit (.bool true)], args := [] }
  | _ => none }
def fnExactNewDevRow : OpenClaim := { program := "ytbokgbbdjcpgbaa", sum := "89dc1471b025682df1dd1f6d5bc6943372c0a217fdf3c21f4e65b1cb0514625c", func := "loop.example/g00773/laws.FnExactNewDev", spec := "fnExactNewDev", apart := false }
def FnExactNewDevSaid : Prop := fnExactNewDevRow.holds Try.pinned (OpenSpec.ofChange fnExactNewDevSpec)

/-- ITS FALSE NEIGHBOUR: 'it returns false'. Refute it at one input. -/
def fnExactNewDevWrong : ChangeSpec := { name := "fnExactNewDev", fn := fun _ => fun
  | [] => { results := [.lit (.bool false)], args := [] }
  | _ => none }
def FnExactNewDevWrongFalsely : Prop := fnExactNewDevRow.holds Try.pinned (OpenSpec.ofChange fnExactNewDevWrong)

/-- 'laws.FnExactDevOk': WHATEVER THE INPUT: true; the input reads as it did. -/
def fnExactDevOkSpec : ChangeSpec := { name := "fnExactDevOk", fn := fun _ => fun
  | [d] => { results := [.lit (.bool true)], args := [d] }
  | _ => none }
def fnExactDevOkRow : OpenClaim := { program := "ytbokgbbdjcpgbaa", sum := "89dc1471b025682df1dd1f6d5bc6943372c0a217fdf3c21f4e65b1cb0514625c", func := "loop.example/g00773/laws.FnExactDevOk", spec := "fnExactDevOk", apart := false }
def FnExactDevOkSaid : Prop := fnExactDevOkRow.holds Try.pinned (OpenSpec.ofChange fnExactDevOkSpec)

/-- ITS FALSE NEIGHBOUR: 'it returns false'. Refute it at one input. -/
def fnExactDevOkWrong : ChangeSpec := { name := "fnExactDevOk", fn := fun _ => fun
  | [d] => { results := [.lit (.bool false)], args := [d] }
  | _ => none }
def FnExactDevOkWrongFalsely : Prop := fnExactDevOkRow.holds Try.pinned (OpenSpec.ofChange fnExactDevOkWrong)

/-- 'laws.FnExactCrash': WHATEVER THE INPUT: true; the input reads as it did. -/
def fnExactCrashSpec : ChangeSpec := { name := "fnExactCrash", fn := fun _ => fun
  | [d1, d2] => { results := [.lit (.bool true)], args := [d1, d2] }
  | _ => none }
def fnExactCrashRow : OpenClaim := { program := "ytbokgbbdjcpgbaa", sum := "89dc1471b025682df1dd1f6d5bc6943372c0a217fdf3c21f4e65b1cb0514625c", func := "loop.example/g00773/laws.FnExactCrash", spec := "fnExactCrash", unfollowed := true, recurses := true, apart := false }
def FnExactCrashSaid : Prop := fnExactCrashRow.holds Try.pinned (OpenSpec.ofChange fnExactCrashSpec)

/-- ITS FALSE NEIGHBOUR: 'it returns false'. Refute it at one input. -/
def fnExactCrashWrong : ChangeSpec := { name := "fnExactCrash", fn := fun _ => fun
  | [d1, d2] => { results := [.lit (.bool false)], args := [d1, d2] }
  | _ => none }
def FnExactCrashWrongFalsely : Prop := fnExactCrashRow.holds Try.pinned (OpenSpec.ofChange fnExactCrashWrong)

/-- 'laws.FnExactFlush': WHATEVER THE INPUT: true; the input reads as it did. -/
def fnExactFlushSpec : ChangeSpec := { name := "fnExactFlush", fn := fun _ => fun
  | [d] => { results := [.lit (.bool true)], args := [d] }
  | _ => none }
def fnExactFlushRow : OpenClaim := { program := "ytbokgbbdjcpgbaa", sum := "89dc1471b025682df1dd1f6d5bc6943372c0a217fdf3c21f4e65b1cb0514625c", func := "loop.example/g00773/laws.FnExactFlush", spec := "fnExactFlush", unfollowed := true, recurses := true, apart := false }
def FnExactFlushSaid : Prop := fnExactFlushRow.holds Try.pinned (OpenSpec.ofChange fnExactFlushSpec)

/-- ITS FALSE NEIGHBOUR: 'it returns false'. Refute it at one input. -/
def fnExactFlushWrong : ChangeSpec := { name := "fnExactFlush", fn := fun _ => fun
  | [d] => { results := [.lit (.bool false)], args := [d] }
  | _ => none }
def FnExactFlushWrongFalsely : Prop := fnExactFlushRow.holds Try.pinned (OpenSpec.ofChange fnExactFlushWrong)

/-- 'laws.FnDev': WHATEVER THE INPUT: true; the input reads as it did. -/
def fnDevSpec : ChangeSpec := { name := "fnDev", fn := fun _ => fun
  | [d] => { results := [.lit (.bool true)], args := [d] }
  | _ => none }
def fnDevRow : OpenClaim := { program := "ytbokgbbdjcpgbaa", sum := "89dc1471b025682df1dd1f6d5bc6943372c0a217fdf3c21f4e65b1cb0514625c", func := "loop.example/g00773/laws.FnDev", spec := "fnDev", unfollowed := true, recurses := true, apart := false }
def FnDevSaid : Prop := fnDevRow.holds Try.pinned (OpenSpec.ofChange fnDevSpec)

/-- ITS FALSE NEIGHBOUR: 'it returns false'. Refute it at one input. -/
def fnDevWrong : ChangeSpec := { name := "fnDev", fn := fun _ => fun
  | [d] => { results := [.lit (.bool false)], args := [d] }
  | _ => none }
def FnDevWrongFalsely : Prop := fnDevRow.holds Try.pinned (OpenSpec.ofChange fnDevWrong)

/-- 'laws.FnExactDiff': WHATEVER THE INPUT: true; the input reads as it did. -/
def fnExactDiffSpec : ChangeSpec := { name := "fnExactDiff", fn := fun _ => fun
  | [d1, d2] => { results := [.lit (.bool true)], args := [d1, d2] }
  | _ => none }
def fnExactDiffRow : OpenClaim := { program := "ytbokgbbdjcpgbaa", sum := "89dc1471b025682df1dd1f6d5bc6943372c0a217fdf3c21f4e65b1cb0514625c", func := "loop.example/g00773/laws.FnExactDiff", spec := "fnExactDiff", apart := false }
def FnExactDiffSaid : Prop := fnExactDiffRow.holds Try.pinned (OpenSpec.ofChange fnExactDiffSpec)

/-- ITS FALSE NEIGHBOUR: 'it returns false'. Refute it at one input. -/
def fnExactDiffWrong : ChangeSpec := { name := "fnExactDiff", fn := fun _ => fun
  | [d1, d2] => { results := [.lit (.bool false)], args := [d1, d2] }
  | _ => none }
def FnExactDiffWrongFalsely : Prop := fnExactDiffRow.holds Try.pinned (OpenSpec.ofChange fnExactDiffWrong)

/-- 'laws.FnExactNewVol': WHATEVER THE INPUT: true; the input reads as it did. -/
def fnExactNewVolSpec : ChangeSpec := { name := "fnExactNewVol", fn := fun _ => fun
  | [] => { results := [.lit (.bool true)], args := [] }
  | _ => none }
def fnExactNewVolRow : OpenClaim := { program := "ytbokgbbdjcpgbaa", sum := "89dc1471b025682df1dd1f6d5bc6943372c0a217fdf3c21f4e65b1cb0514625c", func := "loop.example/g00773/laws.FnExactNewVol", spec := "fnExactNewVol", apart := false }
def FnExactNewVolSaid : Prop := fnExactNewVolRow.holds Try.pinned (OpenSpec.ofChange fnExactNewVolSpec)

/-- ITS FALSE NEIGHBOUR: 'it returns false'. Refute it at one input. -/
def fnExactNewVolWrong : ChangeSpec := { name := "fnExactNewVol", fn := fun _ => fun
  | [] => { results := [.lit (.bool false)], args := [] }
  | _ => none }
def FnExactNewVolWrongFalsely : Prop := fnExactNewVolRow.holds Try.pinned (OpenSpec.ofChange fnExactNewVolWrong)

/-- 'laws.FnExactFormat': WHATEVER THE INPUT: true; the input reads as it did. -/
def fnExactFormatSpec : ChangeSpec := { name := "fnExactFormat", fn := fun _ => fun
  | [] => { results := [.lit (.bool true)], args := [] }
  | _ => none }
def fnExactFormatRow : OpenClaim := { program := "ytbokgbbdjcpgbaa", sum := "89dc1471b025682df1dd1f6d5bc6943372c0a217fdf3c21f4e65b1cb0514625c", func := "loop.example/g00773/laws.FnExactFormat", spec := "fnExactFormat", apart := false }
def FnExactFormatSaid : Prop := fnExactFormatRow.holds Try.pinned (OpenSpec.ofChange fnExactFormatSpec)

/-- ITS FALSE NEIGHBOUR: 'it returns false'. Refute it at one input. -/
def fnExactFormatWrong : ChangeSpec := { name := "fnExactFormat", fn := fun _ => fun
  | [] => { results := [.lit (.bool false)], args := [] }
  | _ => none }
def FnExactFormatWrongFalsely : Prop := fnExactFormatRow.holds Try.pinned (OpenSpec.ofChange fnExactFormatWrong)

/-- 'laws.FnExactShowTxn': WHATEVER THE INPUT: true; the input reads as it did. -/
def fnExactShowTxnSpec : ChangeSpec := { name := "fnExactShowTxn", fn := fun _ => fun
  | [d] => { results := [.lit (.bool true)], args := [d] }
  | _ => none }
def fnExactShowTxnRow : OpenClaim := { program := "ytbokgbbdjcpgbaa", sum := "89dc1471b025682df1dd1f6d5bc6943372c0a217fdf3c21f4e65b1cb0514625c", func := "loop.example/g00773/laws.FnExactShowTxn", spec := "fnExactShowTxn", apart := false }
def FnExactShowTxnSaid : Prop := fnExactShowTxnRow.holds Try.pinned (OpenSpec.ofChange fnExactShowTxnSpec)

/-- ITS FALSE NEIGHBOUR: 'it returns false'. Refute it at one input. -/
def fnExactShowTxnWrong : ChangeSpec := { name := "fnExactShowTxn", fn := fun _ => fun
  | [d] => { results := [.lit (.bool false)], args := [d] }
  | _ => none }
def FnExactShowTxnWrongFalsely : Prop := fnExactShowTxnRow.holds Try.pinned (OpenSpec.ofChange fnExactShowTxnWrong)

/-- 'laws.FnExactReadTxn': WHATEVER THE INPUT: true; the input reads as it did. -/
def fnExactReadTxnSpec : ChangeSpec := { name := "fnExactReadTxn", fn := fun _ => fun
  | [d] => { results := [.lit (.bool true)], args := [d] }
  | _ => none }
def fnExactReadTxnRow : OpenClaim := { program := "ytbokgbbdjcpgbaa", sum := "89dc1471b025682df1dd1f6d5bc6943372c0a217fdf3c21f4e65b1cb0514625c", func := "loop.example/g00773/laws.FnExactReadTxn", spec := "fnExactReadTxn", apart := false }
def FnExactReadTxnSaid : Prop := fnExactReadTxnRow.holds Try.pinned (OpenSpec.ofChange fnExactReadTxnSpec)

/-- ITS FALSE NEIGHBOUR: 'it returns false'. Refute it at one input. -/
def fnExactReadTxnWrong : ChangeSpec := { name := "fnExactReadTxn", fn := fun _ => fun
  | [d] => { results := [.lit (.bool false)], args := [d] }
  | _ => none }
def FnExactReadTxnWrongFalsely : Prop := fnExactReadTxnRow.holds Try.pinned (OpenSpec.ofChange fnExactReadTxnWrong)

/-- 'laws.FnTxn': WHATEVER THE INPUT: true; the input reads as it did. -/
def fnTxnSpec : ChangeSpec := { name := "fnTxn", fn := fun _ => fun
  | [d] => { results := [.lit (.bool true)], args := [d] }
  | _ => none }
def fnTxnRow : OpenClaim := { program := "ytbokgbbdjcpgbaa", sum := "89dc1471b025682df1dd1f6d5bc6943372c0a217fdf3c21f4e65b1cb0514625c", func := "loop.example/g00773/laws.FnTxn", spec := "fnTxn", apart := false }
def FnTxnSaid : Prop := fnTxnRow.holds Try.pinned (OpenSpec.ofChange fnTxnSpec)

/-- ITS FALSE NEIGHBOUR: 'it returns false'. Refute it at one input. -/
def fnTxnWrong : ChangeSpec := { name := "fnTxn", fn := fun _ => fun
  | [d] => { results := [.lit (.bool false)], args := [d] }
  | _ => none }
def FnTxnWrongFalsely : Prop := fnTxnRow.holds Try.pinned (OpenSpec.ofChange fnTxnWrong)

/- THE SECOND FORM. 'bulk': how many values and letters a reading holds, each counted each time it is reached (what is shared counts as often as it is met; a slice's spare places count too). A statement '..UptoSaid' is the law's where the arguments, and the package variables that the reading takes, are together of bulk at most 1048576: NARROWER than '..Said'. Prove '..Said' where nothing that the law and all that it calls make is longer than what came in: it says more and counts as full. Else prove '..UptoSaid'. A law counts once. -/
mutual
def uptoBulk {H : Type} : DataW H → Nat
  | .lit (.string bytes) => bytes.length + 1
  | .lit _ => 1
  | .nil => 1
  | .ptr d => uptoBulk d + 1
  | .slice elems spare => uptoBulkAll elems + uptoBulkAll spare + 1
  | .agg parts => uptoBulkAll parts + 1
  | .iface _ d => uptoBulk d + 1
  | .map entries => uptoBulkEntries entries + 1
  | .held _ => 1
def uptoBulkAll {H : Type} : List (DataW H) → Nat
  | [] => 0
  | d :: r => uptoBulk d + uptoBulkAll r
def uptoBulkEntries {H : Type} : List (Lit × DataW H) → Nat
  | [] => 0
  | x :: r => uptoBulkEntry x + uptoBulkEntries r
def uptoBulkEntry {H : Type} : Lit × DataW H → Nat
  | (.string bytes, d) => bytes.length + uptoBulk d + 1
  | (_, d) => uptoBulk d + 1
 end
def uptoSmall : (H : Type) → List (DataW H) → Bool := fun _ ds => decide (uptoBulkAll ds ≤ 1048576)
def OpenSpec.upto (s : _root_.Go.ChangeSpec) : _root_.Go.OpenSpec := { _root_.Go.OpenSpec.ofChange s with cond := some uptoSmall }

/-- 'laws.FnExactCallOk', WHERE WHAT IT READS IS OF BULK AT MOST 1048576: true; the input reads as it did. -/
def fnExactCallOkUptoRow : OpenClaim := { program := "ytbokgbbdjcpgbaa", sum := "89dc1471b025682df1dd1f6d5bc6943372c0a217fdf3c21f4e65b1cb0514625c", func := "loop.example/g00773/laws.FnExactCallOk", spec := "fnExactCallOk", apart := false, narrowed := true }
def FnExactCallOkUptoSaid : Prop := fnExactCallOkUptoRow.holds Try.pinned (OpenSpec.upto fnExactCallOkSpec)

/-- 'laws.FnExactNewDev', WHERE WHAT IT READS IS OF BULK AT MOST 1048576: true; the input reads as it did. -/
def fnExactNewDevUptoRow : OpenClaim := { program := "ytbokgbbdjcpgbaa", sum := "89dc1471b025682df1dd1f6d5bc6943372c0a217fdf3c21f4e65b1cb0514625c", func := "loop.example/g00773/laws.FnExactNewDev", spec := "fnExactNewDev", apart := false, narrowed := true }
def FnExactNewDevUptoSaid : Prop := fnExactNewDevUptoRow.holds Try.pinned (OpenSpec.upto fnExactNewDevSpec)

/-- 'laws.FnExactDevOk', WHERE WHAT IT READS IS OF BULK AT MOST 1048576: true; the input reads as it did. -/
def fnExactDevOkUptoRow : OpenClaim := { program := "ytbokgbbdjcpgbaa", sum := "89dc1471b025682df1dd1f6d5bc6943372c0a217fdf3c21f4e65b1cb0514625c", func := "loop.example/g00773/laws.FnExactDevOk", spec := "fnExactDevOk", apart := false, narrowed := true }
def FnExactDevOkUptoSaid : Prop := fnExactDevOkUptoRow.holds Try.pinned (OpenSpec.upto fnExactDevOkSpec)

/-- 'laws.FnExactCrash', WHERE WHAT IT READS IS OF BULK AT MOST 1048576: true; the input reads as it did. -/
def fnExactCrashUptoRow : OpenClaim := { program := "ytbokgbbdjcpgbaa", sum := "89dc1471b025682df1dd1f6d5bc6943372c0a217fdf3c21f4e65b1cb0514625c", func := "loop.example/g00773/laws.FnExactCrash", spec := "fnExactCrash", unfollowed := true, recurses := true, apart := false, narrowed := true }
def FnExactCrashUptoSaid : Prop := fnExactCrashUptoRow.holds Try.pinned (OpenSpec.upto fnExactCrashSpec)

/-- 'laws.FnExactFlush', WHERE WHAT IT READS IS OF BULK AT MOST 1048576: true; the input reads as it did. -/
def fnExactFlushUptoRow : OpenClaim := { program := "ytbokgbbdjcpgbaa", sum := "89dc1471b025682df1dd1f6d5bc6943372c0a217fdf3c21f4e65b1cb0514625c", func := "loop.example/g00773/laws.FnExactFlush", spec := "fnExactFlush", unfollowed := true, recurses := true, apart := false, narrowed := true }
def FnExactFlushUptoSaid : Prop := fnExactFlushUptoRow.holds Try.pinned (OpenSpec.upto fnExactFlushSpec)

/-- 'laws.FnDev', WHERE WHAT IT READS IS OF BULK AT MOST 1048576: true; the input reads as it did. -/
def fnDevUptoRow : OpenClaim := { program := "ytbokgbbdjcpgbaa", sum := "89dc1471b025682df1dd1f6d5bc6943372c0a217fdf3c21f4e65b1cb0514625c", func := "loop.example/g00773/laws.FnDev", spec := "fnDev", unfollowed := true, recurses := true, apart := false, narrowed := true }
def FnDevUptoSaid : Prop := fnDevUptoRow.holds Try.pinned (OpenSpec.upto fnDevSpec)

/-- 'laws.FnExactDiff', WHERE WHAT IT READS IS OF BULK AT MOST 1048576: true; the input reads as it did. -/
def fnExactDiffUptoRow : OpenClaim := { program := "ytbokgbbdjcpgbaa", sum := "89dc1471b025682df1dd1f6d5bc6943372c0a217fdf3c21f4e65b1cb0514625c", func := "loop.example/g00773/laws.FnExactDiff", spec := "fnExactDiff", apart := false, narrowed := true }
def FnExactDiffUptoSaid : Prop := fnExactDiffUptoRow.holds Try.pinned (OpenSpec.upto fnExactDiffSpec)

/-- 'laws.FnExactNewVol', WHERE WHAT IT READS IS OF BULK AT MOST 1048576: true; the input reads as it did. -/
def fnExactNewVolUptoRow : OpenClaim := { program := "ytbokgbbdjcpgbaa", sum := "89dc1471b025682df1dd1f6d5bc6943372c0a217fdf3c21f4e65b1cb0514625c", func := "loop.example/g00773/laws.FnExactNewVol", spec := "fnExactNewVol", apart := false, narrowed := true }
def FnExactNewVolUptoSaid : Prop := fnExactNewVolUptoRow.holds Try.pinned (OpenSpec.upto fnExactNewVolSpec)

/-- 'laws.FnExactFormat', WHERE WHAT IT READS IS OF BULK AT MOST 1048576: true; the input reads as it did. -/
def fnExactFormatUptoRow : OpenClaim := { program := "ytbokgbbdjcpgbaa", sum := "89dc1471b025682df1dd1f6d5bc6943372c0a217fdf3c21f4e65b1cb0514625c", func := "loop.example/g00773/laws.FnExactFormat", spec := "fnExactFormat", apart := false, narrowed := true }
def FnExactFormatUptoSaid : Prop := fnExactFormatUptoRow.holds Try.pinned (OpenSpec.upto fnExactFormatSpec)

/-- 'laws.FnExactShowTxn', WHERE WHAT IT READS IS OF BULK AT MOST 1048576: true; the input reads as it did. -/
def fnExactShowTxnUptoRow : OpenClaim := { program := "ytbokgbbdjcpgbaa", sum := "89dc1471b025682df1dd1f6d5bc6943372c0a217fdf3c21f4e65b1cb0514625c", func := "loop.example/g00773/laws.FnExactShowTxn", spec := "fnExactShowTxn", apart := false, narrowed := true }
def FnExactShowTxnUptoSaid : Prop := fnExactShowTxnUptoRow.holds Try.pinned (OpenSpec.upto fnExactShowTxnSpec)

/-- 'laws.FnExactReadTxn', WHERE WHAT IT READS IS OF BULK AT MOST 1048576: true; the input reads as it did. -/
def fnExactReadTxnUptoRow : OpenClaim := { program := "ytbokgbbdjcpgbaa", sum := "89dc1471b025682df1dd1f6d5bc6943372c0a217fdf3c21f4e65b1cb0514625c", func := "loop.example/g00773/laws.FnExactReadTxn", spec := "fnExactReadTxn", apart := false, narrowed := true }
def FnExactReadTxnUptoSaid : Prop := fnExactReadTxnUptoRow.holds Try.pinned (OpenSpec.upto fnExactReadTxnSpec)

/-- 'laws.FnTxn', WHERE WHAT IT READS IS OF BULK AT MOST 1048576: true; the input reads as it did. -/
def fnTxnUptoRow : OpenClaim := { program := "ytbokgbbdjcpgbaa", sum := "89dc1471b025682df1dd1f6d5bc6943372c0a217fdf3c21f4e65b1cb0514625c", func := "loop.example/g00773/laws.FnTxn", spec := "fnTxn", apart := false, narrowed := true }
def FnTxnUptoSaid : Prop := fnTxnUptoRow.holds Try.pinned (OpenSpec.upto fnTxnSpec)

end Rows
end Go.Proofs.Ytbokgbbdjcpgbaa
